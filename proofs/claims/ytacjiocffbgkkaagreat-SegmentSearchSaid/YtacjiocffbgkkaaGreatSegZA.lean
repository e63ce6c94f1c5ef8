/-
  SegmentSearch.
-/
import Derived.Test.YtacjiocffbgkkaaGreatSegZ
import Derived.Test.YtacjiocffbgkkaaGreatSegY
namespace Go.Proofs.YtacjiocffbgkkaaGreat
open Go.RowKit Go.Lib Go.IntWalk Go.Sort Go.Shelf

set_option maxRecDepth 1000000 in
set_option maxHeartbeats 8000000 in
theorem lawSearch_any (v : Value) (ps : List VP) (x ra rb rc rd : Int) (w : World) (hv : RdVs w (· < w.heap.size) v ps) (hx : 0 ≤ x ∧ x ≤ 255) :
    Calls Tryz.prog 3 #[v, .int .u8 x, .agg #[.int .i64 ra, .int .i64 rb, .int .i64 rc, .int .i64 rd]] w fun e w' => e = .returned (.bool true) ∧ Below w.heap.size w w' := by
  obtain ⟨V0, hV0⟩ : ∃ V0, V0 = w.alloc (.cells #[.int .i64 ra, .int .i64 rb, .int .i64 rc, .int .i64 rd] 26) := ⟨_, rfl⟩
  have hbV : Below w.heap.size w V0 := by rw [hV0]; exact Below.of_alloc _
  obtain ⟨B, hBe⟩ : ∃ B, B = w.heap.size := ⟨_, rfl⟩
  have hVs : V0.heap.size = B + 1 := by rw [hV0, hBe]; simp
  have hT0 : V0.heap[B]? = some (.cells #[.int .i64 ra, .int .i64 rb, .int .i64 rc, .int .i64 rd] 26 (0, 0)) := by rw [hV0, hBe]; exact heap_alloc_new _ _
  have HT0 := Lib.hid hT0
  have HBV0 := Lib.hid hbV
  have hv0 := hv.below hbV
  have KF := few_any v ps V0 hv0
  have HV := Lib.hid hv0
  obtain ⟨A, c, rfl, hc1, hc2, hc3⟩ := hv.1.open_
  have hS : strB [116] = ⟨#[116]⟩ := rfl
  have hm0 : 0 ≤ x % 20 := by omega
  have hm1 : x % 20 < 20 := by omega
  clear hv hc3 hc2 hbV hT0 hv0
  go_enter Tryz.func3, Tryz.ntmps3
  go_wp2_with fail
  rw [← hV0, ← hBe]
  (with_reducible refine KF.mono ?_)
  rintro _ w1 ⟨b, rfl, hw1, hb⟩
  rw [hw1]
  have HBW := Lib.hid hBe
  clear hw1 w1 KF hV0 hBe
  cases b
  case false =>
    clear hb
    go_wp2_with fail
    (with_reducible refine (works_any V0).mono ?_)
    rintro _ z9 ⟨rfl, hb9⟩
    go_wp2_with fail
    go_ret
    exact ⟨rfl, HBV0.out.trans (((Below.refl V0.heap.size V0).trans (hb9.mono ((Below.refl V0.heap.size V0)).size)).mono (by have := HBW.out; omega))⟩
  have hl := hb rfl
  have hlm : (ps.map (·.2)).length ≤ 100 := by rw [List.length_map]; exact hl
  clear hb
  have K1 := refBuild_any [116] _ ps (1 + x % 20) V0 HV.out (by decide) (by omega)
  rw [hS] at K1
  obtain ⟨res1, hres1⟩ : ∃ r, r = bldF [116] (ps.map (·.2)) (1 + x % 20) := ⟨_, rfl⟩
  rw [← hres1] at K1
  obtain ⟨fa, ea⟩ := res1
  have HR1 := Lib.hid hres1
  clear hres1
  go_wp2_with fail
  (with_reducible refine K1.mono ?_)
  rintro _ y1 ⟨u1, rfl, hO1, hb1⟩
  simp only at hO1 ⊢
  have HO1 := Lib.hid hO1
  have HB1 : Hid (Below V0.heap.size V0 y1) := Lib.hid hb1
  clear hO1 hb1 K1
  by_cases he : ea = 0
  case neg =>
    have hbn : (ea != 0) = true := by simpa using he
    go_wp2_with fail
    (with_reducible refine (works_any y1).mono ?_)
    rintro _ z9 ⟨rfl, hb9⟩
    go_wp2_with fail
    go_ret
    exact ⟨rfl, HBV0.out.trans ((HB1.out.trans (hb9.mono (HB1.out).size)).mono (by have := HBW.out; omega))⟩
  subst he
  obtain ⟨l1, l2⟩ := bld_len HR1.out.symm hlm
  obtain ⟨p1, p2, p3, p4, p5⟩ := bld_has HR1.out.symm
  have KO1 := open_any _ _ y1 HO1.out.rd l2
  have KO2 : ∀ W, Below y1.heap.size y1 W → _ := fun W hW => ropen_any _ _ W (RdB.below HO1.out.rd hW) l2
  have hrop := ropn_opn _ l2
  rw [opn_bld HR1.out.symm (by omega)] at KO1 hrop
  rw [hrop] at KO2
  have z1 := (szF_chunks p2 (ps.map (·.2))).2
  obtain ⟨C, hC⟩ : ∃ C, C = chunks (1 + x % 20).toNat (ps.map (·.2)) := ⟨_, rfl⟩
  rw [← hC] at p3 p4 p5 z1 KO1 KO2
  have v1 : ∀ d ∈ C, ∀ z ∈ d, validVer z = true := fun d hd z hz => closed_valid ((p3 d hd).2 z hz)
  have KO1 : Calls Tryz.prog 9 #[u1] y1 (OpnOut (([116], C), 0) y1) := KO1
  have KO2 : ∀ W, Below y1.heap.size y1 W → Calls Tryz.prog 10 #[u1] W (ROpnOut (([116], C), 0) W) := KO2
  have KS1 : ∀ V P, SegAt V P [116] C → _ := fun V P h => segSearch_any P [116] C ra rb rc rd V h (by rw [p4]; omega) (fun d hd z hz => (closed_go ((p3 d hd).2 z hz)).2)
  have hsame := rsrch_srch (r := ⟨ra, rb, rc, rd⟩) v1
  obtain ⟨s1, hs1⟩ : ∃ s, s = srchF C ⟨ra, rb, rc, rd⟩ := ⟨_, rfl⟩
  have KS1 : ∀ V P, SegAt V P [116] C → Calls Tryz.prog 11 #[.pointer (some ⟨P, 0, none⟩), .agg #[.int .i64 ra, .int .i64 rb, .int .i64 rc, .int .i64 rd]] V fun e w' => ∃ u, e = .returned (.tuple #[u, .int .i64 (s1.2 : Nat)]) ∧ VsOut s1.1 V w' u := fun V P h => by
    have k := KS1 V P h
    rw [← hs1] at k
    exact k
  have KS2 : ∀ V v ls, RdLL V (· < V.heap.size) v ls → ls.map (fun p => p.2.map (·.2)) = C → Calls Tryz.prog 12 #[.agg #[.string ⟨#[116]⟩, v], .agg #[.int .i64 ra, .int .i64 rb, .int .i64 rc, .int .i64 rd]] V fun e w' => ∃ u, e = .returned (.tuple #[u, .int .i64 (s1.2 : Nat)]) ∧ (∃ Q2 : List VP, RdVs w' (· < w'.heap.size) u Q2 ∧ Q2.map (·.2) = s1.1) ∧ Below V.heap.size V w' := fun V v ls h hM => by
    have hal : (allP ls).map (·.2) = C.flatten := by rw [allP_flat, hM]
    have hlen : (allP ls).length ≤ 100 := by
      have := congrArg List.length hal
      rw [List.length_map, p4] at this
      omega
    have hlsl : ls.length = C.length := by rw [← hM, List.length_map]
    have k := rSearch_any ⟨#[116]⟩ v ls ra rb rc rd V h (by omega) (by omega) (fun p hp => by
      have := (p3 (p.2.map (·.2)) (by rw [← hM]; exact List.mem_map_of_mem (f := fun p : LVP => p.2.map (·.2)) hp)).1
      rw [List.length_map] at this
      exact this)
    rw [hM, hsame, ← hs1] at k
    refine k.mono fun e w' ⟨u, q1, q2, q3⟩ => ⟨u, q1, ⟨_, q2, ?_⟩, q3⟩
    rw [filtP_map, hal, hs1, ← hsame]
    rfl
  have HP4 := Lib.hid p4
  have HZ1 := Lib.hid z1
  have HKS2 := Lib.hid KS2
  obtain ⟨F, m1⟩ := s1
  have HO1 := HO1
  clear p1 p2 p3 p4 p5 v1 hC z1 hrop hsame hs1 KS2 HR1
  go_wp2_with fail
  (with_reducible refine KO1.mono ?_)
  rintro _ y3 ⟨hy3, hor⟩
  rcases hor with ⟨h0, _⟩ | ⟨_, P1, rfl, hSA⟩
  · exact absurd rfl h0
  simp only at hSA ⊢
  rw [HP4.out, HZ1.out] at hSA
  have HS1 := Lib.hid hSA
  have HY3 : Hid (Below V0.heap.size V0 y3) := Lib.hid (HB1.out.trans (hy3.mono HB1.out.size))
  have KO2 := KO2 y3 hy3
  clear hy3 hSA KO1
  go_wp2_with fail
  (with_reducible refine KO2.mono ?_)
  rintro _ y4 ⟨vr, ls, rfl, hL, hM, hy4⟩
  simp only [hS] at hM ⊢
  obtain ⟨Al, cl, rfl, _, _, _⟩ := hL.1.open_
  obtain ⟨y5, hy5⟩ : ∃ y5, y5 = y4.alloc (.cells #[.string ⟨#[116]⟩, .slice Al ls.length cl] 38) := ⟨_, rfl⟩
  have hb5 : Below y4.heap.size y4 y5 := by rw [hy5]; exact Below.of_alloc _
  have hT5 : y5.heap[y4.heap.size]? = some (.cells #[.string ⟨#[116]⟩, .slice Al ls.length cl] 38 (0, 0)) := by rw [hy5]; exact heap_alloc_new _ _
  have HT5 := Lib.hid hT5
  have HL5 := Lib.hid (hL.below hb5)
  have HM5 := Lib.hid hM
  have HS1 := Lib.hid ((HS1.out.below hy4).below hb5)
  have HY5 : Hid (Below V0.heap.size V0 y5) := Lib.hid (HY3.out.trans ((hy4.trans (hb5.mono hy4.size)).mono HY3.out.size))
  have HL4 : Hid (y4.heap.size < y5.heap.size) := Lib.hid (by rw [hy5]; simp)
  clear hy4 KO2 hb5 hT5 hL hM
  have hT5 := ((HY5.out).block B (by omega)).trans HT0.out
  have t0 : y5.cell? ⟨B, 0, none⟩ = some (.int .i64 ra) := cell_of_row y5 _ 0 _ _ _ hT5
  have t1 : y5.cell? ⟨B, 1, none⟩ = some (.int .i64 rb) := cell_of_row y5 _ 1 _ _ _ hT5
  have t2 : y5.cell? ⟨B, 2, none⟩ = some (.int .i64 rc) := cell_of_row y5 _ 2 _ _ _ hT5
  have t3 : y5.cell? ⟨B, 3, none⟩ = some (.int .i64 rd) := cell_of_row y5 _ 3 _ _ _ hT5
  clear hT5
  go_upto_region 9 with (fail)
  rw [← hy5]
  clear hy5
  go_wp2_with fail
  (with_reducible refine (KS1 _ _ HS1.out).mono ?_)
  rintro _ y6 ⟨us1, rfl, Q1, hQ1, hQm1, hy6⟩
  simp only at hQm1 ⊢
  have HY6 : Hid (Below V0.heap.size V0 y6) := Lib.hid (HY5.out.trans (hy6.mono HY5.out.size))
  have hT6 := (hy6.block y4.heap.size HL4.out).trans HT5.out
  have s0 : y6.cell? ⟨y4.heap.size, 0, none⟩ = some (.string ⟨#[116]⟩) := cell_of_row y6 _ 0 _ _ _ hT6
  have s1 : y6.cell? ⟨y4.heap.size, 1, none⟩ = some (.slice Al ls.length cl) := cell_of_row y6 _ 1 _ _ _ hT6
  have HL6 := Lib.hid (HL5.out.below hy6)
  have HQ1 := Lib.hid hQ1
  have HM1 := Lib.hid hQm1
  clear hQ1 hQm1 hy6 KS1 HS1 t0 t1 t2 t3 hT6
  have hT6 := ((HY6.out).block B (by omega)).trans HT0.out
  have t0 : y6.cell? ⟨B, 0, none⟩ = some (.int .i64 ra) := cell_of_row y6 _ 0 _ _ _ hT6
  have t1 : y6.cell? ⟨B, 1, none⟩ = some (.int .i64 rb) := cell_of_row y6 _ 1 _ _ _ hT6
  have t2 : y6.cell? ⟨B, 2, none⟩ = some (.int .i64 rc) := cell_of_row y6 _ 2 _ _ _ hT6
  have t3 : y6.cell? ⟨B, 3, none⟩ = some (.int .i64 rd) := cell_of_row y6 _ 3 _ _ _ hT6
  clear hT6
  go_wp2_with fail
  (with_reducible refine (HKS2.out _ _ _ HL6.out HM5.out).mono ?_)
  rintro _ y7 ⟨us2, rfl, ⟨Q2, hQ2, hQm2⟩, hy7⟩
  simp only at hQm2 ⊢
  have HY7 : Hid (Below V0.heap.size V0 y7) := Lib.hid (HY6.out.trans (hy7.mono HY6.out.size))
  have hQ1 := HQ1.out.below hy7
  have KM := sameVersions_any _ _ Q1 Q2 y7 hQ1 hQ2 (by rw [HM1.out, hQm2])
  obtain ⟨As1, cs1, rfl, _, _, _⟩ := hQ1.1.open_
  obtain ⟨As2, cs2, rfl, _, _, _⟩ := hQ2.1.open_
  clear hQ1 hQ2 hQm2 hy7 t0 t1 t2 t3 s0 s1 HQ1 HM1
  go_wp2_with fail
  (with_reducible refine KM.mono ?_)
  rintro _ y8 ⟨rfl, hy8⟩
  have HY8 : Hid (Below V0.heap.size V0 y8) := Lib.hid (HY7.out.trans (hy8.mono HY7.out.size))
  clear hy8 KM
  go_wp2_with fail
  (with_reducible refine (works_any y8).mono ?_)
  rintro _ z9 ⟨rfl, hb9⟩
  go_wp2_with fail
  go_ret
  exact ⟨rfl, HBV0.out.trans ((HY8.out.trans (hb9.mono (HY8.out).size)).mono (by have := HBW.out; omega))⟩
end Go.Proofs.YtacjiocffbgkkaaGreat
