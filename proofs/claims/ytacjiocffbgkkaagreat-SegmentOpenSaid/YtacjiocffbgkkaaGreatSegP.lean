/-
  The chapter's examples.
-/
import Derived.Test.YtacjiocffbgkkaaGreatSegO
namespace Go.Proofs.YtacjiocffbgkkaaGreat
open Go.RowKit Go.Lib Go.IntWalk Go.Sort Go.Shelf

def sv (i f t : Int) : Ver := ⟨i, 0, [⟨1, i, ⟨#[]⟩⟩], 0, 1099511627776, f, t, 1, 2⟩
set_option maxRecDepth 100000 in
set_option maxHeartbeats 1000000 in
theorem version37_any (i f t : Int) (w : World) (h1 : -9223372036854775808 ≤ i) (h2 : i ≤ 9223372036854775807) : Calls Tryz.prog 27 #[.int .i64 i, .int .i64 f, .int .i64 t] w fun e w' =>
    e = .returned (.agg #[.int .i64 i, .int .i64 0, .slice (some ⟨w.heap.size + 1, 0, none⟩) 1 1, .int .i64 0, .int .i64 1099511627776, .int .i64 f, .int .i64 t, .int .i64 1, .int .i64 2]) ∧ VerIs w' (· < w'.heap.size) (⟨i, 0, some ⟨w.heap.size + 1, 0, none⟩, 1, 1, 0, 1099511627776, f, t, 1, 2⟩ : RV) (sv i f t) ∧ Below w.heap.size w w' := by
  have HI := Lib.hid (And.intro h1 h2)
  go_enter Tryz.func27, Tryz.ntmps27
  go_wp2_with fail
  refine bodyPost_ret (v := .agg #[.int .i64 i, .int .i64 0, .slice (some ⟨w.heap.size + 1, 0, none⟩) 1 1, .int .i64 0, .int .i64 1099511627776, .int .i64 f, .int .i64 t, .int .i64 1, .int .i64 2]) (by simp [results, Tryz.results27, go_sem]) rfl ⟨rfl, ?_, ?_⟩
  · refine ⟨rfl, rfl, rfl, rfl, rfl, rfl, rfl, rfl, ?_, fun v hv => ?_⟩
    · exact (Rd.new' (w.alloc (.cells #[.int .i64 i, .int .i64 0, .slice (some ⟨w.heap.size + 1, 0, none⟩) 1 1, .int .i64 0, .int .i64 1099511627776, .int .i64 f, .int .i64 t, .int .i64 1, .int .i64 2] 61)) (w.heap.size + 1) (by simp) [.int .i64 1, .int .i64 i, .string ⟨#[]⟩] 98 3 1 rfl (by decide)).wide (fun b (hb : b = w.heap.size + 1) => by subst hb; simp)
    · have hv : v = ⟨1, i, ⟨#[]⟩⟩ := List.mem_singleton.1 hv
      subst hv
      exact ⟨HI.out.1, HI.out.2, Nat.zero_le _⟩
  · exact (Below.of_alloc _).alloc (by simp) _

def vs3 : List Ver := [sv 1 0 4, sv 2 2 6, sv 3 8 9]
theorem rdVs_row {w : World} (ps : List VP) (k : Nat) (hk : ps.length = k) (hm : k ≤ 1000) (h : ∀ p ∈ ps, VerIs w (· < w.heap.size) p.1 p.2) : RdVs (w.alloc (.cells (cellsP ps).toArray 61)) (· < (w.alloc (.cells (cellsP ps).toArray 61)).heap.size) (.slice (some ⟨w.heap.size, 0, none⟩) k k) ps := by
  subst hk
  refine ⟨?_, fun p hp => ?_⟩
  · have := Rd.new w (cellsP ps) 61 9 ps.length (cellsP_length ps) (by unfold maxLen; omega)
    exact this.wide (fun b (hb : b = w.heap.size) => by subst hb; simp)
  · exact ((h p hp).keep (Keeps.below (Below.of_alloc _))).wide (fun b (hb : b < w.heap.size) => by show b < _; simp; omega)
theorem bld3_ok : (bldF [116] vs3 2).2 = 0 ∧ (bldF [116] vs3 2).1.length ≤ 1048576 := by decide +kernel
theorem bldX : (bldF [116] [sv 1 0 1099511627776] 2) = ([], 8) := by decide +kernel
theorem srch3 : srchF (chunks 2 vs3) ⟨0, 1099511627776, 7, 9⟩ = ([sv 3 8 9], 1) := by rfl
theorem flat3 : (chunks 2 vs3).flatten = vs3 := chunks_flat 2 (by decide) 3 vs3 (by decide)
theorem rows3 : ∀ c ∈ chunks 2 vs3, ∀ x ∈ c, x.row.length ≤ 12 := fun c hc x hx => by
  have h := (chunks_mem (n := 2) (by decide) 3 vs3 (by decide) c hc).2.2 x hx
  simp only [vs3, List.mem_cons, List.not_mem_nil, or_false] at h
  rcases h with rfl | rfl | rfl <;> decide
set_option maxRecDepth 1000000 in
set_option maxHeartbeats 16000000 in
theorem works_any (w : World) : Calls Tryz.prog 7 #[] w fun e w' => e = .returned (.bool true) ∧ Below w.heap.size w w' := by
  obtain ⟨b3, hb3⟩ : ∃ b, b = (bldF [116] vs3 2).1 := ⟨_, rfl⟩
  have HB3 : Hid (bldF [116] vs3 2 = (b3, 0)) := Lib.hid (by rw [hb3]; exact Prod.ext rfl bld3_ok.1)
  have HL3 : Hid (b3.length ≤ 1048576) := Lib.hid (by rw [hb3]; exact bld3_ok.2)
  clear hb3
  go_enter Tryz.func7, Tryz.ntmps7
  go_wp2_with fail
  (with_reducible refine (version37_any 1 0 4 w (by decide) (by decide)).mono ?_)
  rintro _ v1 ⟨rfl, hx1, hv1⟩
  obtain ⟨B1, hB1⟩ : ∃ B, B = w.heap.size + 1 := ⟨_, rfl⟩
  rw [← hB1] at hx1 ⊢
  clear hB1
  go_wp2_with fail
  (with_reducible refine (version37_any 2 2 6 v1 (by decide) (by decide)).mono ?_)
  rintro _ v2 ⟨rfl, hx2, hv2⟩
  obtain ⟨B2, hB2⟩ : ∃ B, B = v1.heap.size + 1 := ⟨_, rfl⟩
  rw [← hB2] at hx2 ⊢
  clear hB2
  go_wp2_with fail
  (with_reducible refine (version37_any 3 8 9 v2 (by decide) (by decide)).mono ?_)
  rintro _ v3 ⟨rfl, hx3, hv3⟩
  obtain ⟨B3, hB3⟩ : ∃ B, B = v2.heap.size + 1 := ⟨_, rfl⟩
  rw [← hB3] at hx3 ⊢
  clear hB3
  have kb : ∀ (a b : World) (r : RV) (x : Ver), VerIs a (· < a.heap.size) r x → Below a.heap.size a b → VerIs b (· < b.heap.size) r x := fun a b r x h hb => (h.keep (Keeps.below hb)).wide (fun q (hq : q < a.heap.size) => Nat.lt_of_lt_of_le hq hb.size)
  obtain ⟨A1, hA1⟩ : ∃ W, W = v3.alloc (.cells #[.int .i64 1, .int .i64 0, .slice (some ⟨B1, 0, none⟩) 1 1, .int .i64 0, .int .i64 1099511627776, .int .i64 0, .int .i64 4, .int .i64 1, .int .i64 2, .int .i64 2, .int .i64 0, .slice (some ⟨B2, 0, none⟩) 1 1, .int .i64 0, .int .i64 1099511627776, .int .i64 2, .int .i64 6, .int .i64 1, .int .i64 2, .int .i64 3, .int .i64 0, .slice (some ⟨B3, 0, none⟩) 1 1, .int .i64 0, .int .i64 1099511627776, .int .i64 8, .int .i64 9, .int .i64 1, .int .i64 2] 61) := ⟨_, rfl⟩
  have hR1 : RdVs A1 (· < A1.heap.size) (.slice (some ⟨v3.heap.size, 0, none⟩) 3 3) [(((⟨1, 0, some ⟨B1, 0, none⟩, 1, 1, 0, 1099511627776, 0, 4, 1, 2⟩ : RV), sv 1 0 4) : VP), (((⟨2, 0, some ⟨B2, 0, none⟩, 1, 1, 0, 1099511627776, 2, 6, 1, 2⟩ : RV), sv 2 2 6) : VP), (((⟨3, 0, some ⟨B3, 0, none⟩, 1, 1, 0, 1099511627776, 8, 9, 1, 2⟩ : RV), sv 3 8 9) : VP)] := by
    rw [hA1]
    exact rdVs_row (w := v3) [(((⟨1, 0, some ⟨B1, 0, none⟩, 1, 1, 0, 1099511627776, 0, 4, 1, 2⟩ : RV), sv 1 0 4) : VP), (((⟨2, 0, some ⟨B2, 0, none⟩, 1, 1, 0, 1099511627776, 2, 6, 1, 2⟩ : RV), sv 2 2 6) : VP), (((⟨3, 0, some ⟨B3, 0, none⟩, 1, 1, 0, 1099511627776, 8, 9, 1, 2⟩ : RV), sv 3 8 9) : VP)] 3 rfl (by decide) (fun p hp => by
      simp only [List.mem_cons, List.not_mem_nil, or_false] at hp
      rcases hp with rfl | rfl | rfl
      · exact kb _ _ _ _ (kb _ _ _ _ hx1 hv2) hv3
      · exact kb _ _ _ _ hx2 hv3
      · exact hx3)
  have hd1 : Below w.heap.size w A1 := by rw [hA1]; exact (hv1.trans ((hv2.trans (hv3.mono hv2.size)).mono hv1.size)).alloc (by have := hv1.size; have := hv2.size; have := hv3.size; omega) _
  obtain ⟨AB, hAB⟩ : ∃ B, B = v3.heap.size := ⟨_, rfl⟩
  have hcut := RdVs.cut (A := some ⟨v3.heap.size, 0, none⟩) (c := 3) (ps := [(((⟨1, 0, some ⟨B1, 0, none⟩, 1, 1, 0, 1099511627776, 0, 4, 1, 2⟩ : RV), sv 1 0 4) : VP), (((⟨2, 0, some ⟨B2, 0, none⟩, 1, 1, 0, 1099511627776, 2, 6, 1, 2⟩ : RV), sv 2 2 6) : VP), (((⟨3, 0, some ⟨B3, 0, none⟩, 1, 1, 0, 1099511627776, 8, 9, 1, 2⟩ : RV), sv 3 8 9) : VP)]) hR1 (i := 2) (j := 3) (m := 3) (by omega) (Nat.le_refl 3) (Nat.le_refl 3) (Nat.le_refl 3)
  have HR1 := Lib.hid hR1
  have HD1 := Lib.hid hd1
  have hcut2 : RdVs A1 (· < A1.heap.size) (.slice (some ⟨v3.heap.size, 18, none⟩) 1 1) [(((⟨3, 0, some ⟨B3, 0, none⟩, 1, 1, 0, 1099511627776, 8, 9, 1, 2⟩ : RV), sv 3 8 9) : VP)] := hcut
  have HCUT := Lib.hid hcut2
  rw [← hAB] at HR1 HCUT
  clear hx1 hx2 hx3 hv1 hv2 hv3 hR1 hd1 hcut hcut2 kb
  go_wp2_with fail
  rw [← hA1, ← hAB]
  clear hA1 hAB
  have KB : Calls Tryz.prog 28 #[.string ⟨#[116]⟩, .slice (some ⟨AB, 0, none⟩) 3 3, .int .i64 2] A1 (BldOut (b3, 0) A1) := by
    have k := build_any [116] _ [(((⟨1, 0, some ⟨B1, 0, none⟩, 1, 1, 0, 1099511627776, 0, 4, 1, 2⟩ : RV), sv 1 0 4) : VP), (((⟨2, 0, some ⟨B2, 0, none⟩, 1, 1, 0, 1099511627776, 2, 6, 1, 2⟩ : RV), sv 2 2 6) : VP), (((⟨3, 0, some ⟨B3, 0, none⟩, 1, 1, 0, 1099511627776, 8, 9, 1, 2⟩ : RV), sv 3 8 9) : VP)] 2 A1 HR1.out (by decide) (by simp)
    rw [show ([(((⟨1, 0, some ⟨B1, 0, none⟩, 1, 1, 0, 1099511627776, 0, 4, 1, 2⟩ : RV), sv 1 0 4) : VP), (((⟨2, 0, some ⟨B2, 0, none⟩, 1, 1, 0, 1099511627776, 2, 6, 1, 2⟩ : RV), sv 2 2 6) : VP), (((⟨3, 0, some ⟨B3, 0, none⟩, 1, 1, 0, 1099511627776, 8, 9, 1, 2⟩ : RV), sv 3 8 9) : VP)].map (·.2) : List Ver) = vs3 from rfl, HB3.out] at k
    exact k
  (with_reducible refine KB.mono ?_)
  rintro _ y1 ⟨ub, rfl, hO1, hy1⟩
  simp only at hO1 ⊢
  have HY1 := Lib.hid hy1
  have HO1 := Lib.hid hO1
  clear hO1 hy1 KB
  have KO := open_any ub b3 y1 HO1.out.rd HL3.out
  have hopn : opnF b3 = (([116], chunks 2 vs3), 0) := opn_bld HB3.out (by decide)
  rw [hopn] at KO
  clear hopn
  go_wp2_with fail
  (with_reducible refine KO.mono ?_)
  rintro _ y2 ⟨hy2, hor⟩
  rcases hor with ⟨h0, _⟩ | ⟨_, P, rfl, hSA⟩
  · exact absurd rfl h0
  simp only at hSA
  rw [flat3, (szF_chunks (n := 2) (by decide) vs3).2] at hSA
  have HSA := Lib.hid hSA
  have HY2 : Hid (Below A1.heap.size A1 y2) := Lib.hid (HY1.out.trans (hy2.mono HY1.out.size))
  clear hy2 hSA KO
  go_wp2_with fail
  (with_reducible refine (version37_any 1 0 1099511627776 y2 (by decide) (by decide)).mono ?_)
  rintro _ y3 ⟨rfl, hx4, hy3⟩
  obtain ⟨B4, hB4⟩ : ∃ B, B = y2.heap.size + 1 := ⟨_, rfl⟩
  rw [← hB4] at hx4 ⊢
  clear hB4
  obtain ⟨A2, hA2⟩ : ∃ W, W = y3.alloc (.cells #[.int .i64 1, .int .i64 0, .slice (some ⟨B4, 0, none⟩) 1 1, .int .i64 0, .int .i64 1099511627776, .int .i64 0, .int .i64 1099511627776, .int .i64 1, .int .i64 2] 61) := ⟨_, rfl⟩
  have hR2 : RdVs A2 (· < A2.heap.size) (.slice (some ⟨y3.heap.size, 0, none⟩) 1 1) [(((⟨1, 0, some ⟨B4, 0, none⟩, 1, 1, 0, 1099511627776, 0, 1099511627776, 1, 2⟩ : RV), sv 1 0 1099511627776) : VP)] := by
    rw [hA2]
    exact rdVs_row (w := y3) [(((⟨1, 0, some ⟨B4, 0, none⟩, 1, 1, 0, 1099511627776, 0, 1099511627776, 1, 2⟩ : RV), sv 1 0 1099511627776) : VP)] 1 rfl (by decide) (fun p hp => by
      rw [List.mem_singleton] at hp
      subst hp
      exact hx4)
  have HY4 : Hid (Below A1.heap.size A1 A2) := Lib.hid (by rw [hA2]; exact (HY2.out.trans (hy3.mono HY2.out.size)).alloc (by have := HY2.out.size; have := hy3.size; omega) _)
  have HS4 : Hid (SegAt A2 P [116] (chunks 2 vs3)) := Lib.hid (by rw [hA2]; exact (HSA.out.below hy3).below (Below.of_alloc _))
  have KX : Calls Tryz.prog 28 #[.string ⟨#[116]⟩, .slice (some ⟨y3.heap.size, 0, none⟩) 1 1, .int .i64 2] A2 (BldOut ([], 8) A2) := by
    have k := build_any [116] _ [(((⟨1, 0, some ⟨B4, 0, none⟩, 1, 1, 0, 1099511627776, 0, 1099511627776, 1, 2⟩ : RV), sv 1 0 1099511627776) : VP)] 2 A2 hR2 (by decide) (by simp)
    rw [show ([(((⟨1, 0, some ⟨B4, 0, none⟩, 1, 1, 0, 1099511627776, 0, 1099511627776, 1, 2⟩ : RV), sv 1 0 1099511627776) : VP)].map (·.2) : List Ver) = [sv 1 0 1099511627776] from rfl, bldX] at k
    exact k
  clear hx4 hy3 hR2
  go_wp2_with fail
  rw [← hA2]
  clear hA2
  (with_reducible refine KX.mono ?_)
  rintro _ y5 ⟨ux, rfl, _, hy5⟩
  simp only
  have HY5 : Hid (Below A1.heap.size A1 y5) := Lib.hid (HY4.out.trans (hy5.mono HY4.out.size))
  have HS5 := Lib.hid (HS4.out.below hy5)
  clear hy5 KX
  have KS := segSearch_any P [116] (chunks 2 vs3) 0 1099511627776 7 9 y5 HS5.out (by rw [flat3]; decide) rows3
  rw [srch3] at KS
  go_wp2_with fail
  (with_reducible refine KS.mono ?_)
  rintro _ y6 ⟨us, rfl, Qs, hQs, hQm, hy6⟩
  simp only at hQm ⊢
  have HY6 : Hid (Below A1.heap.size A1 y6) := Lib.hid (HY5.out.trans (hy6.mono HY5.out.size))
  have HS6 := Lib.hid (HS5.out.below hy6)
  have HQs := Lib.hid hQs
  have HQM := Lib.hid hQm
  obtain ⟨As, cs, rfl, w1, w2, w3⟩ := hQs.1.open_
  clear hQs hQm hy6 w2 w3 KS
  have KT : Calls Tryz.prog 17 #[.pointer (some ⟨P, 0, none⟩)] y6 fun e w' => e = .returned (.string ⟨#[116]⟩) ∧ w' = y6 := segTable_any P [116] _ y6 HS6.out
  have KL := segLen_any P [116] _ y6 HS6.out (by rw [flat3]; decide)
  rw [flat3] at KL
  have KK := fun V (h : SegAt V P [116] (chunks 2 vs3)) => segBlocks_any P [116] _ V h
  have hc2 : ((chunks 2 vs3).length : Nat) = 2 := by decide
  rw [hc2] at KK
  go_wp2_with fail
  (with_reducible refine KT.mono ?_)
  rintro _ y7 ⟨rfl, hy7⟩
  rw [hy7]
  clear hy7 y7 KT
  go_wp2_with fail
  (with_reducible refine KL.mono ?_)
  rintro _ y7 ⟨rfl, hy7⟩
  have HY7 : Hid (Below A1.heap.size A1 y7) := Lib.hid (HY6.out.trans (hy7.mono HY6.out.size))
  have HS7 := Lib.hid (HS6.out.below hy7)
  have HQ7 := Lib.hid (HQs.out.below hy7)
  rw [show vs3.length = 3 from rfl]
  have KK := KK y7 HS7.out
  clear hy7 KL
  go_wp2_with fail
  (with_reducible refine KK.mono ?_)
  rintro _ y8 ⟨rfl, hy8⟩
  rw [hy8]
  clear hy8 y8 KK
  have KM := sameVersions_any _ _ Qs [(((⟨3, 0, some ⟨B3, 0, none⟩, 1, 1, 0, 1099511627776, 8, 9, 1, 2⟩ : RV), sv 3 8 9) : VP)] y7 HQ7.out (HCUT.out.below HY7.out) (by rw [HQM.out]; rfl)
  go_wp2_with fail
  (with_reducible refine KM.mono ?_)
  rintro _ y8 ⟨rfl, hy8⟩
  have HY8 : Hid (Below A1.heap.size A1 y8) := Lib.hid (HY7.out.trans (hy8.mono HY7.out.size))
  have HS8 := Lib.hid (HS7.out.below hy8)
  have KV := segVersions_any P [116] _ y8 HS8.out (by rw [flat3]; decide) rows3
  rw [flat3] at KV
  clear hy8 KM
  go_wp2_with fail
  (with_reducible refine KV.mono ?_)
  rintro _ y9 ⟨uv, rfl, Qv, hQv, hQvm, hy9⟩
  have HY9 : Hid (Below A1.heap.size A1 y9) := Lib.hid (HY8.out.trans (hy9.mono HY8.out.size))
  obtain ⟨Av, cv, rfl, w4, w5, w6⟩ := hQv.1.open_
  have KN := sameVersions_any _ _ Qv [(((⟨1, 0, some ⟨B1, 0, none⟩, 1, 1, 0, 1099511627776, 0, 4, 1, 2⟩ : RV), sv 1 0 4) : VP), (((⟨2, 0, some ⟨B2, 0, none⟩, 1, 1, 0, 1099511627776, 2, 6, 1, 2⟩ : RV), sv 2 2 6) : VP), (((⟨3, 0, some ⟨B3, 0, none⟩, 1, 1, 0, 1099511627776, 8, 9, 1, 2⟩ : RV), sv 3 8 9) : VP)] y9 hQv (HR1.out.below HY9.out) (by rw [hQvm]; rfl)
  clear hy9 hQv hQvm w5 w6 KV
  go_wp2_with fail
  (with_reducible refine KN.mono ?_)
  rintro _ y10 ⟨rfl, hy10⟩
  have HY10 : Hid (Below A1.heap.size A1 y10) := Lib.hid (HY9.out.trans (hy10.mono HY9.out.size))
  clear hy10 KN
  go_wp2_with fail
  go_ret
  exact ⟨rfl, HD1.out.trans (HY10.out.mono HD1.out.size)⟩
end Go.Proofs.YtacjiocffbgkkaaGreat
