/-
  The reference's reader of records: numbers of elements, versions.
-/
import Derived.Test.YtacjiocffbgkkaaGreatSrcS
namespace Go.Proofs.YtacjiocffbgkkaaGreat
open Go.RowKit Go.Lib Go.IntWalk Go.Sort Go.Shelf

/-- what many reads -/
def manyF (l : List UInt8) (s : Int × Int) : Int × Int × Int := if (rdI l s).1 < 0 then (0, (rdI l s).2.1, 1) else rdI l s
theorem manyF_pos (l : List UInt8) (s : Int × Int) : 0 ≤ (manyF l s).1 := by
  unfold manyF
  split
  · exact Int.le_refl 0
  · omega
theorem rdVs_many (l : List UInt8) (s : Int × Int) : rdVs l s = getS (rdVer l) (manyF l s).1.toNat (manyF l s).2 := by
  unfold rdVs manyF
  by_cases h : (rdI l s).1 < 0
  · have he : (rdI l s).2.2 = 0 := by
      by_cases he : (rdI l s).2.2 = 0
      · exact he
      · rw [rdI_err he] at h; exact absurd h (by decide)
    rw [if_pos ⟨he, h⟩, if_pos h]
    rfl
  · rw [if_neg (fun q => h q.2), if_neg h]
set_option maxRecDepth 1000000 in
set_option maxHeartbeats 8000000 in
theorem many_any (bA : Option Addr) (bn bc : Nat) (a e n : Int) (g : InR) (l : List UInt8) (w : World) (hv : RdB w (· < w.heap.size) (.slice bA bn bc) l) : Calls Tryz.prog 130 #[inV bA bn bc (a, e) n g] w fun x w' => ∃ g', x = .returned (inV bA bn bc (manyF l (a, e)).2 (manyF l (a, e)).1 g') ∧ Below w.heap.size w w' := by
  obtain ⟨s, vk, vi, vs, rA, rn, rc, p1, p2, lA, ln, lc⟩ := g
  rcases hd : rdI l (a, e) with ⟨m, k2, e2⟩
  by_cases hm : m < 0
  case pos =>
    have he : e2 = 0 := by
      by_cases he : e2 = 0
      · exact he
      · have := rdI_err (l := l) (s := (a, e)) (by rw [hd]; exact he)
        rw [hd] at this
        simp only at this
        omega
    subst he
    rw [show manyF l (a, e) = (0, k2, 1) from by unfold manyF; rw [hd]; exact if_pos hm]
    obtain ⟨V, hV⟩ : ∃ V, V = (w.alloc (.cells #[.slice bA bn bc, .int .i64 a, .int .i64 e, .int .i64 n, .string s, .int .i64 vk, .int .i64 vi, .string vs, .slice rA rn rc, .int .i64 p1, .int .i64 p2, .slice lA ln lc] 125)).alloc (.cells #[.slice none 0 0, .int .i64 0, .int .i64 0, .int .i64 0, .string ⟨#[]⟩, .int .i64 0, .int .i64 0, .string ⟨#[]⟩, .slice none 0 0, .int .i64 0, .int .i64 0, .slice none 0 0] 125) := ⟨_, rfl⟩
    have hVb : Below w.heap.size w V := by rw [hV]; exact ((Below.of_alloc _).alloc (by first | (simp; done) | (simp; omega)) _)
    have hVs : V.heap.size = w.heap.size + 2 := by rw [hV]; simp
    have hV0 : V.heap[w.heap.size]? = some (.cells #[.slice bA bn bc, .int .i64 a, .int .i64 e, .int .i64 n, .string s, .int .i64 vk, .int .i64 vi, .string vs, .slice rA rn rc, .int .i64 p1, .int .i64 p2, .slice lA ln lc] 125 (0, 0)) := by
      rw [hV]
      exact ((Below.of_alloc _).block w.heap.size (by simp)).trans (heap_alloc_new _ _)
    have hV1 : V.heap[(w.heap.size + 1)]? = some (.cells #[.slice none 0 0, .int .i64 0, .int .i64 0, .int .i64 0, .string ⟨#[]⟩, .int .i64 0, .int .i64 0, .string ⟨#[]⟩, .slice none 0 0, .int .i64 0, .int .i64 0, .slice none 0 0] 125 (0, 0)) := by
      rw [hV]
      have := heap_alloc_new (w.alloc (.cells #[.slice bA bn bc, .int .i64 a, .int .i64 e, .int .i64 n, .string s, .int .i64 vk, .int .i64 vi, .string vs, .slice rA rn rc, .int .i64 p1, .int .i64 p2, .slice lA ln lc] 125)) (.cells #[.slice none 0 0, .int .i64 0, .int .i64 0, .int .i64 0, .string ⟨#[]⟩, .int .i64 0, .int .i64 0, .string ⟨#[]⟩, .slice none 0 0, .int .i64 0, .int .i64 0, .slice none 0 0] 125)
      simpa using this
    have HV0 := Lib.hid hV0
    have HV1 := Lib.hid hV1
    have HVB := Lib.hid hVb
    clear hV0 hV1 hVb
    have K := num_any bA bn bc a e n ⟨s, vk, vi, vs, rA, rn, rc, p1, p2, lA, ln, lc⟩ l V (RdB.below hv HVB.out)
    rw [hd] at K
    simp only [inV] at K ⊢
    go_enter Tryz.func130, Tryz.ntmps130
    go_wp2_with fail
    rw [← hV]
    clear hV
    (with_reducible refine K.mono ?_)
    rintro _ W2 ⟨⟨s1, vk1, vi1, vs1, rA1, rn1, rc1, p11, p21, lA1, ln1, lc1⟩, rfl, hb⟩
    simp only
    have HB2 : Hid (Below w.heap.size w W2) := Lib.hid (HVB.out.trans (hb.mono HVB.out.size))
    have hW0 := (hb.block w.heap.size (by omega)).trans HV0.out
    have hW1 := (hb.block (w.heap.size + 1) (by omega)).trans HV1.out
    have HW0 := Lib.hid hW0
    have HW1 := Lib.hid hW1
    have hs2 : w.heap.size + 2 ≤ W2.heap.size := by have := hb.size; omega
    clear hb K hW0 hW1
    have g0 : W2.cell? ⟨w.heap.size, 0, none⟩ = some (.slice bA bn bc) := cell_of_row W2 _ 0 _ _ _ HW0.out
    have g1 : W2.cell? ⟨w.heap.size, 1, none⟩ = some (.int .i64 a) := cell_of_row W2 _ 1 _ _ _ HW0.out
    have g2 : W2.cell? ⟨w.heap.size, 2, none⟩ = some (.int .i64 e) := cell_of_row W2 _ 2 _ _ _ HW0.out
    have g3 : W2.cell? ⟨w.heap.size, 3, none⟩ = some (.int .i64 n) := cell_of_row W2 _ 3 _ _ _ HW0.out
    have g4 : W2.cell? ⟨w.heap.size, 4, none⟩ = some (.string s) := cell_of_row W2 _ 4 _ _ _ HW0.out
    have g5 : W2.cell? ⟨w.heap.size, 5, none⟩ = some (.int .i64 vk) := cell_of_row W2 _ 5 _ _ _ HW0.out
    have g6 : W2.cell? ⟨w.heap.size, 6, none⟩ = some (.int .i64 vi) := cell_of_row W2 _ 6 _ _ _ HW0.out
    have g7 : W2.cell? ⟨w.heap.size, 7, none⟩ = some (.string vs) := cell_of_row W2 _ 7 _ _ _ HW0.out
    have g8 : W2.cell? ⟨w.heap.size, 8, none⟩ = some (.slice rA rn rc) := cell_of_row W2 _ 8 _ _ _ HW0.out
    have g9 : W2.cell? ⟨w.heap.size, 9, none⟩ = some (.int .i64 p1) := cell_of_row W2 _ 9 _ _ _ HW0.out
    have g10 : W2.cell? ⟨w.heap.size, 10, none⟩ = some (.int .i64 p2) := cell_of_row W2 _ 10 _ _ _ HW0.out
    have g11 : W2.cell? ⟨w.heap.size, 11, none⟩ = some (.slice lA ln lc) := cell_of_row W2 _ 11 _ _ _ HW0.out
    have z0 : W2.frozen? ⟨w.heap.size, 0, none⟩ = false := frozen_of_row W2 _ 0 _ _ HW0.out
    have z1 : W2.frozen? ⟨w.heap.size, 1, none⟩ = false := frozen_of_row W2 _ 1 _ _ HW0.out
    have z2 : W2.frozen? ⟨w.heap.size, 2, none⟩ = false := frozen_of_row W2 _ 2 _ _ HW0.out
    have z3 : W2.frozen? ⟨w.heap.size, 3, none⟩ = false := frozen_of_row W2 _ 3 _ _ HW0.out
    have z4 : W2.frozen? ⟨w.heap.size, 4, none⟩ = false := frozen_of_row W2 _ 4 _ _ HW0.out
    have z5 : W2.frozen? ⟨w.heap.size, 5, none⟩ = false := frozen_of_row W2 _ 5 _ _ HW0.out
    have z6 : W2.frozen? ⟨w.heap.size, 6, none⟩ = false := frozen_of_row W2 _ 6 _ _ HW0.out
    have z7 : W2.frozen? ⟨w.heap.size, 7, none⟩ = false := frozen_of_row W2 _ 7 _ _ HW0.out
    have z8 : W2.frozen? ⟨w.heap.size, 8, none⟩ = false := frozen_of_row W2 _ 8 _ _ HW0.out
    have z9 : W2.frozen? ⟨w.heap.size, 9, none⟩ = false := frozen_of_row W2 _ 9 _ _ HW0.out
    have z10 : W2.frozen? ⟨w.heap.size, 10, none⟩ = false := frozen_of_row W2 _ 10 _ _ HW0.out
    have z11 : W2.frozen? ⟨w.heap.size, 11, none⟩ = false := frozen_of_row W2 _ 11 _ _ HW0.out
    go_upto_region 2 with (fail)
    have hY0 := twelve_set HW0.out (.slice bA bn bc) (.int .i64 k2) (.int .i64 0) (.int .i64 m) (.string s1) (.int .i64 vk1) (.int .i64 vi1) (.string vs1) (.slice rA1 rn1 rc1) (.int .i64 p11) (.int .i64 p21) (.slice lA1 ln1 lc1)
    have hcY := twelve_chg W2 w.heap.size (.slice bA bn bc) (.int .i64 k2) (.int .i64 0) (.int .i64 m) (.string s1) (.int .i64 vk1) (.int .i64 vi1) (.string vs1) (.slice rA1 rn1 rc1) (.int .i64 p11) (.int .i64 p21) (.slice lA1 ln1 lc1)
    have hY1 := (hcY.block (w.heap.size + 1) (by omega) (by show (w.heap.size + 1) ≠ w.heap.size; omega)).trans HW1.out
    have hYb := (HB2.out).trans (hcY.below (HB2.out).size (fun i (hi : i = w.heap.size) => by omega))
    generalize ((((((((((((W2.setCell ⟨w.heap.size, 0, none⟩ (.slice bA bn bc)).setCell ⟨w.heap.size, 1, none⟩ (.int .i64 k2)).setCell ⟨w.heap.size, 2, none⟩ (.int .i64 0)).setCell ⟨w.heap.size, 3, none⟩ (.int .i64 m)).setCell ⟨w.heap.size, 4, none⟩ (.string s1)).setCell ⟨w.heap.size, 5, none⟩ (.int .i64 vk1)).setCell ⟨w.heap.size, 6, none⟩ (.int .i64 vi1)).setCell ⟨w.heap.size, 7, none⟩ (.string vs1)).setCell ⟨w.heap.size, 8, none⟩ (.slice rA1 rn1 rc1)).setCell ⟨w.heap.size, 9, none⟩ (.int .i64 p11)).setCell ⟨w.heap.size, 10, none⟩ (.int .i64 p21)).setCell ⟨w.heap.size, 11, none⟩ (.slice lA1 ln1 lc1)) = Y at *
    have HY0 := Lib.hid hY0
    have HY1 := Lib.hid hY1
    have HYB := Lib.hid hYb
    have HCY := Lib.hid hcY
    clear hY0 hY1 hYb hcY
    clear g0 g1 g2 g3 g4 g5 g6 g7 g8 g9 g10 g11 z0 z1 z2 z3 z4 z5 z6 z7 z8 z9 z10 z11
    have hys : w.heap.size + 2 ≤ Y.heap.size := by have := HCY.out.size; omega
    have g0 : Y.cell? ⟨w.heap.size, 0, none⟩ = some (.slice bA bn bc) := cell_of_row Y _ 0 _ _ _ HY0.out
    have g1 : Y.cell? ⟨w.heap.size, 1, none⟩ = some (.int .i64 k2) := cell_of_row Y _ 1 _ _ _ HY0.out
    have g2 : Y.cell? ⟨w.heap.size, 2, none⟩ = some (.int .i64 0) := cell_of_row Y _ 2 _ _ _ HY0.out
    have g3 : Y.cell? ⟨w.heap.size, 3, none⟩ = some (.int .i64 m) := cell_of_row Y _ 3 _ _ _ HY0.out
    have g4 : Y.cell? ⟨w.heap.size, 4, none⟩ = some (.string s1) := cell_of_row Y _ 4 _ _ _ HY0.out
    have g5 : Y.cell? ⟨w.heap.size, 5, none⟩ = some (.int .i64 vk1) := cell_of_row Y _ 5 _ _ _ HY0.out
    have g6 : Y.cell? ⟨w.heap.size, 6, none⟩ = some (.int .i64 vi1) := cell_of_row Y _ 6 _ _ _ HY0.out
    have g7 : Y.cell? ⟨w.heap.size, 7, none⟩ = some (.string vs1) := cell_of_row Y _ 7 _ _ _ HY0.out
    have g8 : Y.cell? ⟨w.heap.size, 8, none⟩ = some (.slice rA1 rn1 rc1) := cell_of_row Y _ 8 _ _ _ HY0.out
    have g9 : Y.cell? ⟨w.heap.size, 9, none⟩ = some (.int .i64 p11) := cell_of_row Y _ 9 _ _ _ HY0.out
    have g10 : Y.cell? ⟨w.heap.size, 10, none⟩ = some (.int .i64 p21) := cell_of_row Y _ 10 _ _ _ HY0.out
    have g11 : Y.cell? ⟨w.heap.size, 11, none⟩ = some (.slice lA1 ln1 lc1) := cell_of_row Y _ 11 _ _ _ HY0.out
    have hm2 : m < 0 := by omega
    clear hm hd
    go_upto_region 3 with (fail)
    clear hm2
    have hq := fail_any bA bn bc k2 0 m ⟨s1, vk1, vi1, vs1, rA1, rn1, rc1, p11, p21, lA1, ln1, lc1⟩ 1 1 Y (by rw [if_pos rfl])
    obtain ⟨X, hX⟩ : ∃ X, X = (Y.alloc (.cells #[.slice bA bn bc, .int .i64 k2, .int .i64 1, .int .i64 m, .string s1, .int .i64 vk1, .int .i64 vi1, .string vs1, .slice rA1 rn1 rc1, .int .i64 p11, .int .i64 p21, .slice lA1 ln1 lc1] 125)).alloc (.cells #[.slice bA bn bc, .int .i64 k2, .int .i64 1, .int .i64 0, .string ⟨#[]⟩, .int .i64 0, .int .i64 0, .string ⟨#[]⟩, .slice none 0 0, .int .i64 0, .int .i64 0, .slice none 0 0] 125) := ⟨_, rfl⟩
    have hXb : Below Y.heap.size Y X := by rw [hX]; exact (Below.of_alloc _).alloc (by simp) _
    have HX1 := Lib.hid ((hXb.block (w.heap.size + 1) (by omega)).trans HY1.out)
    have HXB := Lib.hid (HYB.out.trans (hXb.mono HYB.out.size))
    have hxs : w.heap.size + 2 ≤ X.heap.size := by have := hXb.size; omega
    simp only [inBox, inV, InR.zero] at hq
    rw [← hX] at hq
    clear hX hXb
    go_wp2_with fail
    (with_reducible refine hq.mono ?_)
    rintro _ w4 ⟨rfl, hw4⟩
    rw [hw4]
    clear hw4 w4 hq g0 g1 g2 g3 g4 g5 g6 g7 g8 g9 g10 g11
    have q0 : X.cell? ⟨(w.heap.size + 1), 0, none⟩ = some (.slice none 0 0) := cell_of_row X _ 0 _ _ _ HX1.out
    have q1 : X.cell? ⟨(w.heap.size + 1), 1, none⟩ = some (.int .i64 0) := cell_of_row X _ 1 _ _ _ HX1.out
    have q2 : X.cell? ⟨(w.heap.size + 1), 2, none⟩ = some (.int .i64 0) := cell_of_row X _ 2 _ _ _ HX1.out
    have q3 : X.cell? ⟨(w.heap.size + 1), 3, none⟩ = some (.int .i64 0) := cell_of_row X _ 3 _ _ _ HX1.out
    have q4 : X.cell? ⟨(w.heap.size + 1), 4, none⟩ = some (.string ⟨#[]⟩) := cell_of_row X _ 4 _ _ _ HX1.out
    have q5 : X.cell? ⟨(w.heap.size + 1), 5, none⟩ = some (.int .i64 0) := cell_of_row X _ 5 _ _ _ HX1.out
    have q6 : X.cell? ⟨(w.heap.size + 1), 6, none⟩ = some (.int .i64 0) := cell_of_row X _ 6 _ _ _ HX1.out
    have q7 : X.cell? ⟨(w.heap.size + 1), 7, none⟩ = some (.string ⟨#[]⟩) := cell_of_row X _ 7 _ _ _ HX1.out
    have q8 : X.cell? ⟨(w.heap.size + 1), 8, none⟩ = some (.slice none 0 0) := cell_of_row X _ 8 _ _ _ HX1.out
    have q9 : X.cell? ⟨(w.heap.size + 1), 9, none⟩ = some (.int .i64 0) := cell_of_row X _ 9 _ _ _ HX1.out
    have q10 : X.cell? ⟨(w.heap.size + 1), 10, none⟩ = some (.int .i64 0) := cell_of_row X _ 10 _ _ _ HX1.out
    have q11 : X.cell? ⟨(w.heap.size + 1), 11, none⟩ = some (.slice none 0 0) := cell_of_row X _ 11 _ _ _ HX1.out
    have f0 : X.frozen? ⟨(w.heap.size + 1), 0, none⟩ = false := frozen_of_row X _ 0 _ _ HX1.out
    have f1 : X.frozen? ⟨(w.heap.size + 1), 1, none⟩ = false := frozen_of_row X _ 1 _ _ HX1.out
    have f2 : X.frozen? ⟨(w.heap.size + 1), 2, none⟩ = false := frozen_of_row X _ 2 _ _ HX1.out
    have f3 : X.frozen? ⟨(w.heap.size + 1), 3, none⟩ = false := frozen_of_row X _ 3 _ _ HX1.out
    have f4 : X.frozen? ⟨(w.heap.size + 1), 4, none⟩ = false := frozen_of_row X _ 4 _ _ HX1.out
    have f5 : X.frozen? ⟨(w.heap.size + 1), 5, none⟩ = false := frozen_of_row X _ 5 _ _ HX1.out
    have f6 : X.frozen? ⟨(w.heap.size + 1), 6, none⟩ = false := frozen_of_row X _ 6 _ _ HX1.out
    have f7 : X.frozen? ⟨(w.heap.size + 1), 7, none⟩ = false := frozen_of_row X _ 7 _ _ HX1.out
    have f8 : X.frozen? ⟨(w.heap.size + 1), 8, none⟩ = false := frozen_of_row X _ 8 _ _ HX1.out
    have f9 : X.frozen? ⟨(w.heap.size + 1), 9, none⟩ = false := frozen_of_row X _ 9 _ _ HX1.out
    have f10 : X.frozen? ⟨(w.heap.size + 1), 10, none⟩ = false := frozen_of_row X _ 10 _ _ HX1.out
    have f11 : X.frozen? ⟨(w.heap.size + 1), 11, none⟩ = false := frozen_of_row X _ 11 _ _ HX1.out
    have hZ := twelve_set HX1.out (.slice bA bn bc) (.int .i64 k2) (.int .i64 1) (.int .i64 0) (.string ⟨#[]⟩) (.int .i64 0) (.int .i64 0) (.string ⟨#[]⟩) (.slice none 0 0) (.int .i64 0) (.int .i64 0) (.slice none 0 0)
    have hZb := twelve_chg X (w.heap.size + 1) (.slice bA bn bc) (.int .i64 k2) (.int .i64 1) (.int .i64 0) (.string ⟨#[]⟩) (.int .i64 0) (.int .i64 0) (.string ⟨#[]⟩) (.slice none 0 0) (.int .i64 0) (.int .i64 0) (.slice none 0 0)
    have HZ := Lib.hid hZ
    have HZB := Lib.hid hZb
    clear hZ hZb
    go_wp2_with fail
    generalize ((((((((((((X.setCell ⟨(w.heap.size + 1), 0, none⟩ (.slice bA bn bc)).setCell ⟨(w.heap.size + 1), 1, none⟩ (.int .i64 k2)).setCell ⟨(w.heap.size + 1), 2, none⟩ (.int .i64 1)).setCell ⟨(w.heap.size + 1), 3, none⟩ (.int .i64 0)).setCell ⟨(w.heap.size + 1), 4, none⟩ (.string ⟨#[]⟩)).setCell ⟨(w.heap.size + 1), 5, none⟩ (.int .i64 0)).setCell ⟨(w.heap.size + 1), 6, none⟩ (.int .i64 0)).setCell ⟨(w.heap.size + 1), 7, none⟩ (.string ⟨#[]⟩)).setCell ⟨(w.heap.size + 1), 8, none⟩ (.slice none 0 0)).setCell ⟨(w.heap.size + 1), 9, none⟩ (.int .i64 0)).setCell ⟨(w.heap.size + 1), 10, none⟩ (.int .i64 0)).setCell ⟨(w.heap.size + 1), 11, none⟩ (.slice none 0 0)) = Z at *
    have y0 : Z.cell? ⟨(w.heap.size + 1), 0, none⟩ = some (.slice bA bn bc) := cell_of_row Z _ 0 _ _ _ HZ.out
    have y1 : Z.cell? ⟨(w.heap.size + 1), 1, none⟩ = some (.int .i64 k2) := cell_of_row Z _ 1 _ _ _ HZ.out
    have y2 : Z.cell? ⟨(w.heap.size + 1), 2, none⟩ = some (.int .i64 1) := cell_of_row Z _ 2 _ _ _ HZ.out
    have y3 : Z.cell? ⟨(w.heap.size + 1), 3, none⟩ = some (.int .i64 0) := cell_of_row Z _ 3 _ _ _ HZ.out
    have y4 : Z.cell? ⟨(w.heap.size + 1), 4, none⟩ = some (.string ⟨#[]⟩) := cell_of_row Z _ 4 _ _ _ HZ.out
    have y5 : Z.cell? ⟨(w.heap.size + 1), 5, none⟩ = some (.int .i64 0) := cell_of_row Z _ 5 _ _ _ HZ.out
    have y6 : Z.cell? ⟨(w.heap.size + 1), 6, none⟩ = some (.int .i64 0) := cell_of_row Z _ 6 _ _ _ HZ.out
    have y7 : Z.cell? ⟨(w.heap.size + 1), 7, none⟩ = some (.string ⟨#[]⟩) := cell_of_row Z _ 7 _ _ _ HZ.out
    have y8 : Z.cell? ⟨(w.heap.size + 1), 8, none⟩ = some (.slice none 0 0) := cell_of_row Z _ 8 _ _ _ HZ.out
    have y9 : Z.cell? ⟨(w.heap.size + 1), 9, none⟩ = some (.int .i64 0) := cell_of_row Z _ 9 _ _ _ HZ.out
    have y10 : Z.cell? ⟨(w.heap.size + 1), 10, none⟩ = some (.int .i64 0) := cell_of_row Z _ 10 _ _ _ HZ.out
    have y11 : Z.cell? ⟨(w.heap.size + 1), 11, none⟩ = some (.slice none 0 0) := cell_of_row Z _ 11 _ _ _ HZ.out
    exact bodyPost_ret (v := .agg #[.slice bA bn bc, .int .i64 k2, .int .i64 1, .int .i64 0, .string ⟨#[]⟩, .int .i64 0, .int .i64 0, .string ⟨#[]⟩, .slice none 0 0, .int .i64 0, .int .i64 0, .slice none 0 0]) (by simp [results, Tryz.results130, go_sem, y0, y1, y2, y3, y4, y5, y6, y7, y8, y9, y10, y11]) rfl ⟨InR.zero, rfl, HXB.out.trans (HZB.out.below HXB.out.size (fun i (hi : i = w.heap.size + 1) => by omega))⟩
  case neg =>
    rw [show manyF l (a, e) = (m, k2, e2) from by unfold manyF; rw [hd]; exact if_neg hm]
    obtain ⟨V, hV⟩ : ∃ V, V = (w.alloc (.cells #[.slice bA bn bc, .int .i64 a, .int .i64 e, .int .i64 n, .string s, .int .i64 vk, .int .i64 vi, .string vs, .slice rA rn rc, .int .i64 p1, .int .i64 p2, .slice lA ln lc] 125)).alloc (.cells #[.slice none 0 0, .int .i64 0, .int .i64 0, .int .i64 0, .string ⟨#[]⟩, .int .i64 0, .int .i64 0, .string ⟨#[]⟩, .slice none 0 0, .int .i64 0, .int .i64 0, .slice none 0 0] 125) := ⟨_, rfl⟩
    have hVb : Below w.heap.size w V := by rw [hV]; exact ((Below.of_alloc _).alloc (by first | (simp; done) | (simp; omega)) _)
    have hVs : V.heap.size = w.heap.size + 2 := by rw [hV]; simp
    have hV0 : V.heap[w.heap.size]? = some (.cells #[.slice bA bn bc, .int .i64 a, .int .i64 e, .int .i64 n, .string s, .int .i64 vk, .int .i64 vi, .string vs, .slice rA rn rc, .int .i64 p1, .int .i64 p2, .slice lA ln lc] 125 (0, 0)) := by
      rw [hV]
      exact ((Below.of_alloc _).block w.heap.size (by simp)).trans (heap_alloc_new _ _)
    have hV1 : V.heap[(w.heap.size + 1)]? = some (.cells #[.slice none 0 0, .int .i64 0, .int .i64 0, .int .i64 0, .string ⟨#[]⟩, .int .i64 0, .int .i64 0, .string ⟨#[]⟩, .slice none 0 0, .int .i64 0, .int .i64 0, .slice none 0 0] 125 (0, 0)) := by
      rw [hV]
      have := heap_alloc_new (w.alloc (.cells #[.slice bA bn bc, .int .i64 a, .int .i64 e, .int .i64 n, .string s, .int .i64 vk, .int .i64 vi, .string vs, .slice rA rn rc, .int .i64 p1, .int .i64 p2, .slice lA ln lc] 125)) (.cells #[.slice none 0 0, .int .i64 0, .int .i64 0, .int .i64 0, .string ⟨#[]⟩, .int .i64 0, .int .i64 0, .string ⟨#[]⟩, .slice none 0 0, .int .i64 0, .int .i64 0, .slice none 0 0] 125)
      simpa using this
    have HV0 := Lib.hid hV0
    have HV1 := Lib.hid hV1
    have HVB := Lib.hid hVb
    clear hV0 hV1 hVb
    have K := num_any bA bn bc a e n ⟨s, vk, vi, vs, rA, rn, rc, p1, p2, lA, ln, lc⟩ l V (RdB.below hv HVB.out)
    rw [hd] at K
    simp only [inV] at K ⊢
    go_enter Tryz.func130, Tryz.ntmps130
    go_wp2_with fail
    rw [← hV]
    clear hV
    (with_reducible refine K.mono ?_)
    rintro _ W2 ⟨⟨s1, vk1, vi1, vs1, rA1, rn1, rc1, p11, p21, lA1, ln1, lc1⟩, rfl, hb⟩
    simp only
    have HB2 : Hid (Below w.heap.size w W2) := Lib.hid (HVB.out.trans (hb.mono HVB.out.size))
    have hW0 := (hb.block w.heap.size (by omega)).trans HV0.out
    have hW1 := (hb.block (w.heap.size + 1) (by omega)).trans HV1.out
    have HW0 := Lib.hid hW0
    have HW1 := Lib.hid hW1
    have hs2 : w.heap.size + 2 ≤ W2.heap.size := by have := hb.size; omega
    clear hb K hW0 hW1
    have g0 : W2.cell? ⟨w.heap.size, 0, none⟩ = some (.slice bA bn bc) := cell_of_row W2 _ 0 _ _ _ HW0.out
    have g1 : W2.cell? ⟨w.heap.size, 1, none⟩ = some (.int .i64 a) := cell_of_row W2 _ 1 _ _ _ HW0.out
    have g2 : W2.cell? ⟨w.heap.size, 2, none⟩ = some (.int .i64 e) := cell_of_row W2 _ 2 _ _ _ HW0.out
    have g3 : W2.cell? ⟨w.heap.size, 3, none⟩ = some (.int .i64 n) := cell_of_row W2 _ 3 _ _ _ HW0.out
    have g4 : W2.cell? ⟨w.heap.size, 4, none⟩ = some (.string s) := cell_of_row W2 _ 4 _ _ _ HW0.out
    have g5 : W2.cell? ⟨w.heap.size, 5, none⟩ = some (.int .i64 vk) := cell_of_row W2 _ 5 _ _ _ HW0.out
    have g6 : W2.cell? ⟨w.heap.size, 6, none⟩ = some (.int .i64 vi) := cell_of_row W2 _ 6 _ _ _ HW0.out
    have g7 : W2.cell? ⟨w.heap.size, 7, none⟩ = some (.string vs) := cell_of_row W2 _ 7 _ _ _ HW0.out
    have g8 : W2.cell? ⟨w.heap.size, 8, none⟩ = some (.slice rA rn rc) := cell_of_row W2 _ 8 _ _ _ HW0.out
    have g9 : W2.cell? ⟨w.heap.size, 9, none⟩ = some (.int .i64 p1) := cell_of_row W2 _ 9 _ _ _ HW0.out
    have g10 : W2.cell? ⟨w.heap.size, 10, none⟩ = some (.int .i64 p2) := cell_of_row W2 _ 10 _ _ _ HW0.out
    have g11 : W2.cell? ⟨w.heap.size, 11, none⟩ = some (.slice lA ln lc) := cell_of_row W2 _ 11 _ _ _ HW0.out
    have z0 : W2.frozen? ⟨w.heap.size, 0, none⟩ = false := frozen_of_row W2 _ 0 _ _ HW0.out
    have z1 : W2.frozen? ⟨w.heap.size, 1, none⟩ = false := frozen_of_row W2 _ 1 _ _ HW0.out
    have z2 : W2.frozen? ⟨w.heap.size, 2, none⟩ = false := frozen_of_row W2 _ 2 _ _ HW0.out
    have z3 : W2.frozen? ⟨w.heap.size, 3, none⟩ = false := frozen_of_row W2 _ 3 _ _ HW0.out
    have z4 : W2.frozen? ⟨w.heap.size, 4, none⟩ = false := frozen_of_row W2 _ 4 _ _ HW0.out
    have z5 : W2.frozen? ⟨w.heap.size, 5, none⟩ = false := frozen_of_row W2 _ 5 _ _ HW0.out
    have z6 : W2.frozen? ⟨w.heap.size, 6, none⟩ = false := frozen_of_row W2 _ 6 _ _ HW0.out
    have z7 : W2.frozen? ⟨w.heap.size, 7, none⟩ = false := frozen_of_row W2 _ 7 _ _ HW0.out
    have z8 : W2.frozen? ⟨w.heap.size, 8, none⟩ = false := frozen_of_row W2 _ 8 _ _ HW0.out
    have z9 : W2.frozen? ⟨w.heap.size, 9, none⟩ = false := frozen_of_row W2 _ 9 _ _ HW0.out
    have z10 : W2.frozen? ⟨w.heap.size, 10, none⟩ = false := frozen_of_row W2 _ 10 _ _ HW0.out
    have z11 : W2.frozen? ⟨w.heap.size, 11, none⟩ = false := frozen_of_row W2 _ 11 _ _ HW0.out
    go_upto_region 2 with (fail)
    have hY0 := twelve_set HW0.out (.slice bA bn bc) (.int .i64 k2) (.int .i64 e2) (.int .i64 m) (.string s1) (.int .i64 vk1) (.int .i64 vi1) (.string vs1) (.slice rA1 rn1 rc1) (.int .i64 p11) (.int .i64 p21) (.slice lA1 ln1 lc1)
    have hcY := twelve_chg W2 w.heap.size (.slice bA bn bc) (.int .i64 k2) (.int .i64 e2) (.int .i64 m) (.string s1) (.int .i64 vk1) (.int .i64 vi1) (.string vs1) (.slice rA1 rn1 rc1) (.int .i64 p11) (.int .i64 p21) (.slice lA1 ln1 lc1)
    have hY1 := (hcY.block (w.heap.size + 1) (by omega) (by show (w.heap.size + 1) ≠ w.heap.size; omega)).trans HW1.out
    have hYb := (HB2.out).trans (hcY.below (HB2.out).size (fun i (hi : i = w.heap.size) => by omega))
    generalize ((((((((((((W2.setCell ⟨w.heap.size, 0, none⟩ (.slice bA bn bc)).setCell ⟨w.heap.size, 1, none⟩ (.int .i64 k2)).setCell ⟨w.heap.size, 2, none⟩ (.int .i64 e2)).setCell ⟨w.heap.size, 3, none⟩ (.int .i64 m)).setCell ⟨w.heap.size, 4, none⟩ (.string s1)).setCell ⟨w.heap.size, 5, none⟩ (.int .i64 vk1)).setCell ⟨w.heap.size, 6, none⟩ (.int .i64 vi1)).setCell ⟨w.heap.size, 7, none⟩ (.string vs1)).setCell ⟨w.heap.size, 8, none⟩ (.slice rA1 rn1 rc1)).setCell ⟨w.heap.size, 9, none⟩ (.int .i64 p11)).setCell ⟨w.heap.size, 10, none⟩ (.int .i64 p21)).setCell ⟨w.heap.size, 11, none⟩ (.slice lA1 ln1 lc1)) = Y at *
    have HY0 := Lib.hid hY0
    have HY1 := Lib.hid hY1
    have HYB := Lib.hid hYb
    have HCY := Lib.hid hcY
    clear hY0 hY1 hYb hcY
    clear g0 g1 g2 g3 g4 g5 g6 g7 g8 g9 g10 g11 z0 z1 z2 z3 z4 z5 z6 z7 z8 z9 z10 z11
    have hys : w.heap.size + 2 ≤ Y.heap.size := by have := HCY.out.size; omega
    have g0 : Y.cell? ⟨w.heap.size, 0, none⟩ = some (.slice bA bn bc) := cell_of_row Y _ 0 _ _ _ HY0.out
    have g1 : Y.cell? ⟨w.heap.size, 1, none⟩ = some (.int .i64 k2) := cell_of_row Y _ 1 _ _ _ HY0.out
    have g2 : Y.cell? ⟨w.heap.size, 2, none⟩ = some (.int .i64 e2) := cell_of_row Y _ 2 _ _ _ HY0.out
    have g3 : Y.cell? ⟨w.heap.size, 3, none⟩ = some (.int .i64 m) := cell_of_row Y _ 3 _ _ _ HY0.out
    have g4 : Y.cell? ⟨w.heap.size, 4, none⟩ = some (.string s1) := cell_of_row Y _ 4 _ _ _ HY0.out
    have g5 : Y.cell? ⟨w.heap.size, 5, none⟩ = some (.int .i64 vk1) := cell_of_row Y _ 5 _ _ _ HY0.out
    have g6 : Y.cell? ⟨w.heap.size, 6, none⟩ = some (.int .i64 vi1) := cell_of_row Y _ 6 _ _ _ HY0.out
    have g7 : Y.cell? ⟨w.heap.size, 7, none⟩ = some (.string vs1) := cell_of_row Y _ 7 _ _ _ HY0.out
    have g8 : Y.cell? ⟨w.heap.size, 8, none⟩ = some (.slice rA1 rn1 rc1) := cell_of_row Y _ 8 _ _ _ HY0.out
    have g9 : Y.cell? ⟨w.heap.size, 9, none⟩ = some (.int .i64 p11) := cell_of_row Y _ 9 _ _ _ HY0.out
    have g10 : Y.cell? ⟨w.heap.size, 10, none⟩ = some (.int .i64 p21) := cell_of_row Y _ 10 _ _ _ HY0.out
    have g11 : Y.cell? ⟨w.heap.size, 11, none⟩ = some (.slice lA1 ln1 lc1) := cell_of_row Y _ 11 _ _ _ HY0.out
    have hm2 : ¬ m < 0 := by omega
    clear hm hd
    go_upto_region 4 with (fail)
    clear hm2
    have q0 : Y.cell? ⟨(w.heap.size + 1), 0, none⟩ = some (.slice none 0 0) := cell_of_row Y _ 0 _ _ _ HY1.out
    have q1 : Y.cell? ⟨(w.heap.size + 1), 1, none⟩ = some (.int .i64 0) := cell_of_row Y _ 1 _ _ _ HY1.out
    have q2 : Y.cell? ⟨(w.heap.size + 1), 2, none⟩ = some (.int .i64 0) := cell_of_row Y _ 2 _ _ _ HY1.out
    have q3 : Y.cell? ⟨(w.heap.size + 1), 3, none⟩ = some (.int .i64 0) := cell_of_row Y _ 3 _ _ _ HY1.out
    have q4 : Y.cell? ⟨(w.heap.size + 1), 4, none⟩ = some (.string ⟨#[]⟩) := cell_of_row Y _ 4 _ _ _ HY1.out
    have q5 : Y.cell? ⟨(w.heap.size + 1), 5, none⟩ = some (.int .i64 0) := cell_of_row Y _ 5 _ _ _ HY1.out
    have q6 : Y.cell? ⟨(w.heap.size + 1), 6, none⟩ = some (.int .i64 0) := cell_of_row Y _ 6 _ _ _ HY1.out
    have q7 : Y.cell? ⟨(w.heap.size + 1), 7, none⟩ = some (.string ⟨#[]⟩) := cell_of_row Y _ 7 _ _ _ HY1.out
    have q8 : Y.cell? ⟨(w.heap.size + 1), 8, none⟩ = some (.slice none 0 0) := cell_of_row Y _ 8 _ _ _ HY1.out
    have q9 : Y.cell? ⟨(w.heap.size + 1), 9, none⟩ = some (.int .i64 0) := cell_of_row Y _ 9 _ _ _ HY1.out
    have q10 : Y.cell? ⟨(w.heap.size + 1), 10, none⟩ = some (.int .i64 0) := cell_of_row Y _ 10 _ _ _ HY1.out
    have q11 : Y.cell? ⟨(w.heap.size + 1), 11, none⟩ = some (.slice none 0 0) := cell_of_row Y _ 11 _ _ _ HY1.out
    have f0 : Y.frozen? ⟨(w.heap.size + 1), 0, none⟩ = false := frozen_of_row Y _ 0 _ _ HY1.out
    have f1 : Y.frozen? ⟨(w.heap.size + 1), 1, none⟩ = false := frozen_of_row Y _ 1 _ _ HY1.out
    have f2 : Y.frozen? ⟨(w.heap.size + 1), 2, none⟩ = false := frozen_of_row Y _ 2 _ _ HY1.out
    have f3 : Y.frozen? ⟨(w.heap.size + 1), 3, none⟩ = false := frozen_of_row Y _ 3 _ _ HY1.out
    have f4 : Y.frozen? ⟨(w.heap.size + 1), 4, none⟩ = false := frozen_of_row Y _ 4 _ _ HY1.out
    have f5 : Y.frozen? ⟨(w.heap.size + 1), 5, none⟩ = false := frozen_of_row Y _ 5 _ _ HY1.out
    have f6 : Y.frozen? ⟨(w.heap.size + 1), 6, none⟩ = false := frozen_of_row Y _ 6 _ _ HY1.out
    have f7 : Y.frozen? ⟨(w.heap.size + 1), 7, none⟩ = false := frozen_of_row Y _ 7 _ _ HY1.out
    have f8 : Y.frozen? ⟨(w.heap.size + 1), 8, none⟩ = false := frozen_of_row Y _ 8 _ _ HY1.out
    have f9 : Y.frozen? ⟨(w.heap.size + 1), 9, none⟩ = false := frozen_of_row Y _ 9 _ _ HY1.out
    have f10 : Y.frozen? ⟨(w.heap.size + 1), 10, none⟩ = false := frozen_of_row Y _ 10 _ _ HY1.out
    have f11 : Y.frozen? ⟨(w.heap.size + 1), 11, none⟩ = false := frozen_of_row Y _ 11 _ _ HY1.out
    have hZ := twelve_set HY1.out (.slice bA bn bc) (.int .i64 k2) (.int .i64 e2) (.int .i64 m) (.string s1) (.int .i64 vk1) (.int .i64 vi1) (.string vs1) (.slice rA1 rn1 rc1) (.int .i64 p11) (.int .i64 p21) (.slice lA1 ln1 lc1)
    have hZb := twelve_chg Y (w.heap.size + 1) (.slice bA bn bc) (.int .i64 k2) (.int .i64 e2) (.int .i64 m) (.string s1) (.int .i64 vk1) (.int .i64 vi1) (.string vs1) (.slice rA1 rn1 rc1) (.int .i64 p11) (.int .i64 p21) (.slice lA1 ln1 lc1)
    have HZ := Lib.hid hZ
    have HZB := Lib.hid hZb
    clear hZ hZb
    go_wp2_with fail
    generalize ((((((((((((Y.setCell ⟨(w.heap.size + 1), 0, none⟩ (.slice bA bn bc)).setCell ⟨(w.heap.size + 1), 1, none⟩ (.int .i64 k2)).setCell ⟨(w.heap.size + 1), 2, none⟩ (.int .i64 e2)).setCell ⟨(w.heap.size + 1), 3, none⟩ (.int .i64 m)).setCell ⟨(w.heap.size + 1), 4, none⟩ (.string s1)).setCell ⟨(w.heap.size + 1), 5, none⟩ (.int .i64 vk1)).setCell ⟨(w.heap.size + 1), 6, none⟩ (.int .i64 vi1)).setCell ⟨(w.heap.size + 1), 7, none⟩ (.string vs1)).setCell ⟨(w.heap.size + 1), 8, none⟩ (.slice rA1 rn1 rc1)).setCell ⟨(w.heap.size + 1), 9, none⟩ (.int .i64 p11)).setCell ⟨(w.heap.size + 1), 10, none⟩ (.int .i64 p21)).setCell ⟨(w.heap.size + 1), 11, none⟩ (.slice lA1 ln1 lc1)) = Z at *
    have y0 : Z.cell? ⟨(w.heap.size + 1), 0, none⟩ = some (.slice bA bn bc) := cell_of_row Z _ 0 _ _ _ HZ.out
    have y1 : Z.cell? ⟨(w.heap.size + 1), 1, none⟩ = some (.int .i64 k2) := cell_of_row Z _ 1 _ _ _ HZ.out
    have y2 : Z.cell? ⟨(w.heap.size + 1), 2, none⟩ = some (.int .i64 e2) := cell_of_row Z _ 2 _ _ _ HZ.out
    have y3 : Z.cell? ⟨(w.heap.size + 1), 3, none⟩ = some (.int .i64 m) := cell_of_row Z _ 3 _ _ _ HZ.out
    have y4 : Z.cell? ⟨(w.heap.size + 1), 4, none⟩ = some (.string s1) := cell_of_row Z _ 4 _ _ _ HZ.out
    have y5 : Z.cell? ⟨(w.heap.size + 1), 5, none⟩ = some (.int .i64 vk1) := cell_of_row Z _ 5 _ _ _ HZ.out
    have y6 : Z.cell? ⟨(w.heap.size + 1), 6, none⟩ = some (.int .i64 vi1) := cell_of_row Z _ 6 _ _ _ HZ.out
    have y7 : Z.cell? ⟨(w.heap.size + 1), 7, none⟩ = some (.string vs1) := cell_of_row Z _ 7 _ _ _ HZ.out
    have y8 : Z.cell? ⟨(w.heap.size + 1), 8, none⟩ = some (.slice rA1 rn1 rc1) := cell_of_row Z _ 8 _ _ _ HZ.out
    have y9 : Z.cell? ⟨(w.heap.size + 1), 9, none⟩ = some (.int .i64 p11) := cell_of_row Z _ 9 _ _ _ HZ.out
    have y10 : Z.cell? ⟨(w.heap.size + 1), 10, none⟩ = some (.int .i64 p21) := cell_of_row Z _ 10 _ _ _ HZ.out
    have y11 : Z.cell? ⟨(w.heap.size + 1), 11, none⟩ = some (.slice lA1 ln1 lc1) := cell_of_row Z _ 11 _ _ _ HZ.out
    exact bodyPost_ret (v := .agg #[.slice bA bn bc, .int .i64 k2, .int .i64 e2, .int .i64 m, .string s1, .int .i64 vk1, .int .i64 vi1, .string vs1, .slice rA1 rn1 rc1, .int .i64 p11, .int .i64 p21, .slice lA1 ln1 lc1]) (by simp [results, Tryz.results130, go_sem, y0, y1, y2, y3, y4, y5, y6, y7, y8, y9, y10, y11]) rfl ⟨⟨s1, vk1, vi1, vs1, rA1, rn1, rc1, p11, p21, lA1, ln1, lc1⟩, rfl, HYB.out.trans (HZB.out.below HYB.out.size (fun i (hi : i = w.heap.size + 1) => by omega))⟩

set_option maxRecDepth 1000000 in
set_option maxHeartbeats 4000000 in
theorem done_any (bA : Option Addr) (bc : Nat) (a e n : Int) (g : InR) (l : List UInt8) (w : World) : Calls Tryz.prog 63 #[inV bA l.length bc (a, e) n g] w fun x w' => x = .returned (.int .i64 (endE (a, e) l.length)) ∧ Below w.heap.size w w' := by
  obtain ⟨s, vk, vi, vs, rA, rn, rc, p1, p2, lA, ln, lc⟩ := g
  simp only [inV]
  by_cases he : e = 0
  · subst he
    by_cases hl : a < (l.length : Int)
    · rw [show endE (a, 0) l.length = 3 from if_pos ⟨rfl, hl⟩]
      go_enter Tryz.func63, Tryz.ntmps63
      go_wp2_with fail
      go_ret
      exact ⟨rfl, Below.of_alloc _⟩
    · rw [show endE (a, 0) l.length = 0 from if_neg (fun h => hl h.2)]
      go_enter Tryz.func63, Tryz.ntmps63
      go_wp2_with fail
      go_ret
      exact ⟨rfl, Below.of_alloc _⟩
  · rw [show endE (a, e) l.length = e from if_neg (fun h => he h.1)]
    go_enter Tryz.func63, Tryz.ntmps63
    go_wp2_with fail
    go_ret
    exact ⟨rfl, Below.of_alloc _⟩
end Go.Proofs.YtacjiocffbgkkaaGreat
