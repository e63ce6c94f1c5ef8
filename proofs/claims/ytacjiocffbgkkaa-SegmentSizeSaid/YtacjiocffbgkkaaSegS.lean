/-
  SegmentSize.
-/
import Derived.Test.YtacjiocffbgkkaaSegU
namespace Go.Proofs.Ytacjiocffbgkkaa
open Go.RowKit Go.Lib Go.IntWalk Go.Sort Go.Shelf

set_option maxRecDepth 1000000 in
set_option maxHeartbeats 8000000 in
theorem lawSize_any (v : Value) (ps : List VP) (x ra rb rc rd : Int) (w : World) (hv : RdVs w (· < w.heap.size) v ps) (hx : 0 ≤ x ∧ x ≤ 255) :
    Calls Try.prog 5 #[v, .int .u8 x, .agg #[.int .i64 ra, .int .i64 rb, .int .i64 rc, .int .i64 rd]] w fun e w' => e = .returned (.bool true) ∧ Below w.heap.size w w' := by
  obtain ⟨V0, hV0⟩ : ∃ V0, V0 = w.alloc (.cells #[.int .i64 ra, .int .i64 rb, .int .i64 rc, .int .i64 rd] 43) := ⟨_, rfl⟩
  have hbV : Below w.heap.size w V0 := by rw [hV0]; exact Below.of_alloc _
  obtain ⟨B, hBe⟩ : ∃ B, B = w.heap.size := ⟨_, rfl⟩
  have hVs : V0.heap.size = B + 1 := by rw [hV0, hBe]; simp
  have hT0 : V0.heap[B]? = some (.cells #[.int .i64 ra, .int .i64 rb, .int .i64 rc, .int .i64 rd] 43 (0, 0)) := by rw [hV0, hBe]; exact heap_alloc_new _ _
  have HT0 := Lib.hid hT0
  have HBV0 := Lib.hid hbV
  have hv0 := hv.below hbV
  have KF := few_any v ps V0 hv0
  have HV := Lib.hid hv0
  obtain ⟨A, c, rfl, hc1, hc2, hc3⟩ := hv.1.open_
  have hS : strB [116] = ⟨#[116]⟩ := rfl
  have hm0 : 0 ≤ x % 20 := by omega
  have hm1 : x % 20 < 20 := by omega
  clear hv hc3 hc2 hbV hT0 hv0
  go_enter Try.func5, Try.ntmps5
  go_wp2_with fail
  rw [← hV0, ← hBe]
  (with_reducible refine KF.mono ?_)
  rintro _ w1 ⟨b, rfl, hw1, hb⟩
  rw [hw1]
  have HBW := Lib.hid hBe
  clear hw1 w1 KF hV0 hBe
  cases b
  case false =>
    clear hb
    go_wp2_with fail
    (with_reducible refine (works_any V0).mono ?_)
    rintro _ z9 ⟨rfl, hb9⟩
    go_wp2_with fail
    go_ret
    exact ⟨rfl, HBV0.out.trans (((Below.refl V0.heap.size V0).trans (hb9.mono ((Below.refl V0.heap.size V0)).size)).mono (by have := HBW.out; omega))⟩
  have hl := hb rfl
  have hlm : (ps.map (·.2)).length ≤ 100 := by rw [List.length_map]; exact hl
  clear hb
  have K1 := build_any [116] _ ps 1 V0 HV.out (by decide) (by omega)
  have K2 : ∀ W, Below V0.heap.size V0 W → _ := fun W hW => build_any [116] _ ps (2 + x % 20) W (HV.out.below hW) (by decide) (by omega)
  have e1 := bld_few (n := 1) hlm (by omega) (by omega)
  have e2 := bld_few (n := 2 + x % 20) hlm (by omega) (by omega)
  rw [hS] at K1 K2
  obtain ⟨res1, hres1⟩ : ∃ r, r = bldF [116] (ps.map (·.2)) 1 := ⟨_, rfl⟩
  obtain ⟨res2, hres2⟩ : ∃ r, r = bldF [116] (ps.map (·.2)) (2 + x % 20) := ⟨_, rfl⟩
  rw [← hres1] at K1 e1
  rw [← hres2] at e2
  have K2 : ∀ W, Below V0.heap.size V0 W → Calls Try.prog 9 #[.string ⟨#[116]⟩, .slice A ps.length c, .int .i64 (2 + x % 20)] W (BldOut res2 W) := fun W hW => by
    have k := K2 W hW
    rw [← hres2] at k
    exact k
  obtain ⟨fa, ea⟩ := res1
  obtain ⟨fb, eb⟩ := res2
  simp only at e1 e2
  obtain rfl : eb = ea := e2.trans e1.symm
  have HR1 := Lib.hid hres1
  have HR2 := Lib.hid hres2
  clear hres1 hres2 e1 e2
  go_wp2_with fail
  (with_reducible refine K1.mono ?_)
  rintro _ y1 ⟨u1, rfl, hO1, hb1⟩
  simp only at hO1 ⊢
  have HO1 := Lib.hid hO1
  have HB1 := Lib.hid hb1
  have K2 := K2 y1 hb1
  clear hO1 hb1 K1
  go_wp2_with fail
  (with_reducible refine K2.mono ?_)
  rintro _ y2 ⟨u2, rfl, hO2, hb2⟩
  simp only at hO2 ⊢
  have HB2 : Hid (Below V0.heap.size V0 y2) := Lib.hid (HB1.out.trans (hb2.mono HB1.out.size))
  have HR1b := Lib.hid (HO1.out.below hb2).rd
  have HR2b := Lib.hid hO2.rd
  clear hO2 hb2 K2 HO1 HB1
  by_cases he : eb = 0
  case neg =>
    have hbn : (eb != 0) = true := by simpa using he
    go_wp2_with fail
    (with_reducible refine (works_any y2).mono ?_)
    rintro _ z9 ⟨rfl, hb9⟩
    go_wp2_with fail
    go_ret
    exact ⟨rfl, HBV0.out.trans ((HB2.out.trans (hb9.mono (HB2.out).size)).mono (by have := HBW.out; omega))⟩
  subst he
  obtain ⟨l1, l2⟩ := bld_len HR1.out.symm hlm
  obtain ⟨l3, l4⟩ := bld_len HR2.out.symm hlm
  obtain ⟨p1, p2, p3, p4, p5⟩ := bld_has HR1.out.symm
  obtain ⟨q1, q2, q3, q4, q5⟩ := bld_has HR2.out.symm
  have KO1 := open_any _ _ y2 HR1b.out l2
  have KO2 : ∀ W, Below y2.heap.size y2 W → _ := fun W hW => open_any _ _ W (RdB.below HR2b.out hW) l4
  rw [opn_bld HR1.out.symm (by omega)] at KO1
  rw [opn_bld HR2.out.symm (by omega)] at KO2
  have z1 := (szF_chunks p2 (ps.map (·.2))).2
  have z2 := (szF_chunks q2 (ps.map (·.2))).2
  have hone := srch_ones (ps.map (·.2)) ⟨ra, rb, rc, rd⟩
  rw [show ((1 : Int).toNat) = 1 from rfl] at p2 p3 p4 p5 z1 KO1
  obtain ⟨C1, hC1⟩ : ∃ C, C = chunks 1 (ps.map (·.2)) := ⟨_, rfl⟩
  obtain ⟨C2, hC2⟩ : ∃ C, C = chunks (2 + x % 20).toNat (ps.map (·.2)) := ⟨_, rfl⟩
  rw [← hC1] at p3 p4 p5 z1 KO1 hone
  rw [← hC2] at q3 q4 q5 z2 KO2
  have v1 : ∀ d ∈ C1, ∀ z ∈ d, validVer z = true := fun d hd z hz => closed_valid ((p3 d hd).2 z hz)
  have v2 : ∀ d ∈ C2, ∀ z ∈ d, validVer z = true := fun d hd z hz => closed_valid ((q3 d hd).2 z hz)
  have f1 := srch_found (r := ⟨ra, rb, rc, rd⟩) v1
  have f2 := srch_found (r := ⟨ra, rb, rc, rd⟩) v2
  rw [p4] at f1
  rw [q4] at f2
  have g1 := srch_le C2 ⟨ra, rb, rc, rd⟩
  have g2 := srch_zero (cs := C2) (r := ⟨ra, rb, rc, rd⟩)
  have g3 := srch_bad (cs := C2) (r := ⟨ra, rb, rc, rd⟩)
  have KS1 : ∀ V P, SegAt V P [116] C1 → _ := fun V P h => segSearch_any P [116] C1 ra rb rc rd V h (by rw [p4]; omega) (fun d hd z hz => (closed_go ((p3 d hd).2 z hz)).2)
  have KS2 : ∀ V P, SegAt V P [116] C2 → _ := fun V P h => segSearch_any P [116] C2 ra rb rc rd V h (by rw [q4]; omega) (fun d hd z hz => (closed_go ((q3 d hd).2 z hz)).2)
  obtain ⟨s1, hs1⟩ : ∃ s, s = srchF C1 ⟨ra, rb, rc, rd⟩ := ⟨_, rfl⟩
  obtain ⟨s2, hs2⟩ : ∃ s, s = srchF C2 ⟨ra, rb, rc, rd⟩ := ⟨_, rfl⟩
  rw [← hs1] at hone f1
  rw [← hs2] at f2 g1 g2 g3
  have KS1 : ∀ V P, SegAt V P [116] C1 → Calls Try.prog 18 #[.pointer (some ⟨P, 0, none⟩), .agg #[.int .i64 ra, .int .i64 rb, .int .i64 rc, .int .i64 rd]] V fun e w' => ∃ u, e = .returned (.tuple #[u, .int .i64 (s1.2 : Nat)]) ∧ VsOut s1.1 V w' u := fun V P h => by
    have k := KS1 V P h
    rw [← hs1] at k
    exact k
  have KS2 : ∀ V P, SegAt V P [116] C2 → Calls Try.prog 18 #[.pointer (some ⟨P, 0, none⟩), .agg #[.int .i64 ra, .int .i64 rb, .int .i64 rc, .int .i64 rd]] V fun e w' => ∃ u, e = .returned (.tuple #[u, .int .i64 (s2.2 : Nat)]) ∧ VsOut s2.1 V w' u := fun V P h => by
    have k := KS2 V P h
    rw [← hs2] at k
    exact k
  have KO1 : Calls Try.prog 12 #[u1] y2 (OpnOut (([116], C1), 0) y2) := KO1
  have KO2 : ∀ W, Below y2.heap.size y2 W → Calls Try.prog 12 #[u2] W (OpnOut (([116], C2), 0) W) := KO2
  obtain ⟨F, m1⟩ := s1
  obtain ⟨F2, m⟩ := s2
  simp only at hone f1 f2 g1 g2 g3
  obtain rfl : F2 = F := f2.trans f1.symm
  have HG := Lib.hid (And.intro g1 (And.intro g2 (And.intro g3 hone)))
  have HP4 := Lib.hid p4
  have HQ4 := Lib.hid q4
  have HZ1 := Lib.hid z1
  have HZ2 := Lib.hid z2
  have hC2l : C2.length ≤ 100 := by omega
  clear p1 p2 p3 p4 p5 q1 q2 q3 q4 q5 f1 f2 g1 g2 g3 hone v1 v2 hs1 hs2 hC1 hC2 z1 z2 HR1 HR2 HR1b HR2b
  go_wp2_with fail
  (with_reducible refine KO1.mono ?_)
  rintro _ y3 ⟨hy3, hor⟩
  rcases hor with ⟨h0, _⟩ | ⟨_, P1, rfl, hSA⟩
  · exact absurd rfl h0
  simp only at hSA ⊢
  rw [HP4.out, HZ1.out] at hSA
  have HS1 := Lib.hid hSA
  have HY3 : Hid (Below V0.heap.size V0 y3) := Lib.hid (HB2.out.trans (hy3.mono HB2.out.size))
  have KO2 := KO2 y3 hy3
  clear hy3 hSA KO1
  go_wp2_with fail
  (with_reducible refine KO2.mono ?_)
  rintro _ y4 ⟨hy4, hor⟩
  rcases hor with ⟨h0, _⟩ | ⟨_, P2, rfl, hSA⟩
  · exact absurd rfl h0
  simp only at hSA ⊢
  rw [HQ4.out, HZ2.out] at hSA
  have HS2 := Lib.hid hSA
  have HS1 := Lib.hid (HS1.out.below hy4)
  have HY4 : Hid (Below V0.heap.size V0 y4) := Lib.hid (HY3.out.trans (hy4.mono HY3.out.size))
  clear hy4 hSA KO2 HY3 HB2
  have hT4 := ((HY4.out).block B (by omega)).trans HT0.out
  have t0 : y4.cell? ⟨B, 0, none⟩ = some (.int .i64 ra) := cell_of_row y4 _ 0 _ _ _ hT4
  have t1 : y4.cell? ⟨B, 1, none⟩ = some (.int .i64 rb) := cell_of_row y4 _ 1 _ _ _ hT4
  have t2 : y4.cell? ⟨B, 2, none⟩ = some (.int .i64 rc) := cell_of_row y4 _ 2 _ _ _ hT4
  have t3 : y4.cell? ⟨B, 3, none⟩ = some (.int .i64 rd) := cell_of_row y4 _ 3 _ _ _ hT4
  clear hT4
  go_wp2_with fail
  (with_reducible refine (KS1 _ _ HS1.out).mono ?_)
  rintro _ y5 ⟨us1, rfl, Q1, hQ1, hQm1, hy5⟩
  simp only at hQm1 ⊢
  have HS2 := Lib.hid (HS2.out.below hy5)
  have HY5 : Hid (Below V0.heap.size V0 y5) := Lib.hid (HY4.out.trans (hy5.mono HY4.out.size))
  have hk1 : m1 = Q1.length := by rw [HG.out.2.2.2, ← hQm1, List.length_map]
  rw [hk1]
  have HQ1 := Lib.hid hQ1
  have HM1 := Lib.hid hQm1
  clear hQ1 hQm1 hy5 hk1 KS1 HS1 HY4 t0 t1 t2 t3
  have hT5 := ((HY5.out).block B (by omega)).trans HT0.out
  have t0 : y5.cell? ⟨B, 0, none⟩ = some (.int .i64 ra) := cell_of_row y5 _ 0 _ _ _ hT5
  have t1 : y5.cell? ⟨B, 1, none⟩ = some (.int .i64 rb) := cell_of_row y5 _ 1 _ _ _ hT5
  have t2 : y5.cell? ⟨B, 2, none⟩ = some (.int .i64 rc) := cell_of_row y5 _ 2 _ _ _ hT5
  have t3 : y5.cell? ⟨B, 3, none⟩ = some (.int .i64 rd) := cell_of_row y5 _ 3 _ _ _ hT5
  clear hT5
  go_wp2_with fail
  (with_reducible refine (KS2 _ _ HS2.out).mono ?_)
  rintro _ y6 ⟨us2, rfl, Q2, hQ2, hQm2, hy6⟩
  simp only at hQm2 ⊢
  have HS2 := Lib.hid (HS2.out.below hy6)
  have HY6 : Hid (Below V0.heap.size V0 y6) := Lib.hid (HY5.out.trans (hy6.mono HY5.out.size))
  have hQ1 := HQ1.out.below hy6
  have KM := sameVersions_any _ _ Q1 Q2 y6 hQ1 hQ2 (by rw [HM1.out, hQm2])
  have g1 := HG.out.1
  have g2 : m = 0 → Q2.length = 0 := fun h => by
    have := HG.out.2.1 h
    rw [this] at hQm2
    have := congrArg List.length hQm2
    rw [List.length_map] at this
    exact this
  have g3 := HG.out.2.2.1
  obtain ⟨As1, cs1, rfl, _, _, _⟩ := hQ1.1.open_
  obtain ⟨As2, cs2, rfl, _, _, _⟩ := hQ2.1.open_
  obtain ⟨vr, hvr⟩ : ∃ b, b = validR ⟨ra, rb, rc, rd⟩ := ⟨_, rfl⟩
  have KR := fun W => r31Valid_any ra rb rc rd W
  rw [← hvr] at g3
  have KR : ∀ W, Calls Try.prog 19 #[.agg #[.int .i64 ra, .int .i64 rb, .int .i64 rc, .int .i64 rd]] W fun e w' => e = .returned (.bool vr) ∧ Below W.heap.size W w' := fun W => by
    have k := KR W
    rw [← hvr] at k
    exact k
  have KK := fun W (h : SegAt W P2 [116] C2) => segBlocks_any P2 [116] C2 W h
  clear hQ1 hQ2 hQm2 hy6 KS2 HY5 t0 t1 t2 t3 hvr HG HQ1 HM1
  have hle : (m : Int) ≤ (C2.length : Int) := by omega
  by_cases hm : m = 0
  case pos =>
    have HQ := Lib.hid (g2 hm)
    subst hm
    clear g1 g2 g3
    go_wp2_with fail
    (with_reducible refine KM.mono ?_)
    rintro _ y7 ⟨rfl, hy7⟩
    have HY7 : Hid (Below V0.heap.size V0 y7) := Lib.hid (HY6.out.trans (hy7.mono HY6.out.size))
    have KK := KK _ (HS2.out.below hy7)
    clear hy7 KM
    go_wp2_with fail
    (with_reducible refine KK.mono ?_)
    rintro _ y8 ⟨rfl, hy8⟩
    rw [hy8]
    clear hy8 y8 KK
    have hT7 := ((HY7.out).block B (by omega)).trans HT0.out
    have t0 : y7.cell? ⟨B, 0, none⟩ = some (.int .i64 ra) := cell_of_row y7 _ 0 _ _ _ hT7
    have t1 : y7.cell? ⟨B, 1, none⟩ = some (.int .i64 rb) := cell_of_row y7 _ 1 _ _ _ hT7
    have t2 : y7.cell? ⟨B, 2, none⟩ = some (.int .i64 rc) := cell_of_row y7 _ 2 _ _ _ hT7
    have t3 : y7.cell? ⟨B, 3, none⟩ = some (.int .i64 rd) := cell_of_row y7 _ 3 _ _ _ hT7
    clear hT7
    have hq := HQ.out
    go_wp2_with fail
    (with_reducible refine (KR _).mono ?_)
    rintro _ y8 ⟨rfl, hy8⟩
    have HY8 : Hid (Below V0.heap.size V0 y8) := Lib.hid (HY7.out.trans (hy8.mono HY7.out.size))
    clear hy8 KR t0 t1 t2 t3
    cases vr
    case false =>
      go_wp2_with fail
      (with_reducible refine (works_any y8).mono ?_)
      rintro _ z9 ⟨rfl, hb9⟩
      go_wp2_with fail
      go_ret
      exact ⟨rfl, HBV0.out.trans ((HY8.out.trans (hb9.mono (HY8.out).size)).mono (by have := HBW.out; omega))⟩
    case true =>
      go_wp2_with fail
      (with_reducible refine (works_any y8).mono ?_)
      rintro _ z9 ⟨rfl, hb9⟩
      go_wp2_with fail
      go_ret
      exact ⟨rfl, HBV0.out.trans ((HY8.out.trans (hb9.mono (HY8.out).size)).mono (by have := HBW.out; omega))⟩
  case neg =>
    have hmp : (0 : Int) < (m : Int) := by omega
    obtain rfl : vr = true := by
      cases vr
      · exact absurd (g3 rfl) hm
      · rfl
    clear g1 g2 g3
    go_wp2_with fail
    (with_reducible refine KM.mono ?_)
    rintro _ y7 ⟨rfl, hy7⟩
    have HY7 : Hid (Below V0.heap.size V0 y7) := Lib.hid (HY6.out.trans (hy7.mono HY6.out.size))
    have KK := KK _ (HS2.out.below hy7)
    clear hy7 KM
    go_wp2_with fail
    (with_reducible refine KK.mono ?_)
    rintro _ y8 ⟨rfl, hy8⟩
    rw [hy8]
    clear hy8 y8 KK
    have hT7 := ((HY7.out).block B (by omega)).trans HT0.out
    have t0 : y7.cell? ⟨B, 0, none⟩ = some (.int .i64 ra) := cell_of_row y7 _ 0 _ _ _ hT7
    have t1 : y7.cell? ⟨B, 1, none⟩ = some (.int .i64 rb) := cell_of_row y7 _ 1 _ _ _ hT7
    have t2 : y7.cell? ⟨B, 2, none⟩ = some (.int .i64 rc) := cell_of_row y7 _ 2 _ _ _ hT7
    have t3 : y7.cell? ⟨B, 3, none⟩ = some (.int .i64 rd) := cell_of_row y7 _ 3 _ _ _ hT7
    clear hT7
    go_wp2_with fail
    (with_reducible refine (KR _).mono ?_)
    rintro _ y8 ⟨rfl, hy8⟩
    have HY8 : Hid (Below V0.heap.size V0 y8) := Lib.hid (HY7.out.trans (hy8.mono HY7.out.size))
    clear hy8 KR t0 t1 t2 t3
    go_wp2_with fail
    (with_reducible refine (works_any y8).mono ?_)
    rintro _ z9 ⟨rfl, hb9⟩
    go_wp2_with fail
    go_ret
    exact ⟨rfl, HBV0.out.trans ((HY8.out.trans (hb9.mono (HY8.out).size)).mono (by have := HBW.out; omega))⟩
end Go.Proofs.Ytacjiocffbgkkaa
