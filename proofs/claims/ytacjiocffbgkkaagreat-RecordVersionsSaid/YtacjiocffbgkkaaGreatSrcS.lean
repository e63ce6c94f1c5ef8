/-
  The reference's reader of records: rows, periods, numbers of elements.
-/
import Derived.Test.YtacjiocffbgkkaaGreatSrcR
import Derived.Deep.Cut
namespace Go.Proofs.YtacjiocffbgkkaaGreat
open Go.RowKit Go.Lib Go.IntWalk Go.Sort Go.Shelf

theorem twelve_set {w : World} {T : Nat} {a0 a1 a2 a3 a4 a5 a6 a7 a8 a9 a10 a11 : Value} {e : TypeId} (h : w.heap[T]? = some (.cells #[a0, a1, a2, a3, a4, a5, a6, a7, a8, a9, a10, a11] e (0, 0))) (c0 c1 c2 c3 c4 c5 c6 c7 c8 c9 c10 c11 : Value) :
    ((((((((((((w.setCell ⟨T, 0, none⟩ c0).setCell ⟨T, 1, none⟩ c1).setCell ⟨T, 2, none⟩ c2).setCell ⟨T, 3, none⟩ c3).setCell ⟨T, 4, none⟩ c4).setCell ⟨T, 5, none⟩ c5).setCell ⟨T, 6, none⟩ c6).setCell ⟨T, 7, none⟩ c7).setCell ⟨T, 8, none⟩ c8).setCell ⟨T, 9, none⟩ c9).setCell ⟨T, 10, none⟩ c10).setCell ⟨T, 11, none⟩ c11).heap[T]? = some (.cells #[c0, c1, c2, c3, c4, c5, c6, c7, c8, c9, c10, c11] e (0, 0)) := by
  have h0 := heap_setCell_same w T 0 _ _ c0 h
  have h1 := heap_setCell_same _ T 1 _ _ c1 h0
  have h2 := heap_setCell_same _ T 2 _ _ c2 h1
  have h3 := heap_setCell_same _ T 3 _ _ c3 h2
  have h4 := heap_setCell_same _ T 4 _ _ c4 h3
  have h5 := heap_setCell_same _ T 5 _ _ c5 h4
  have h6 := heap_setCell_same _ T 6 _ _ c6 h5
  have h7 := heap_setCell_same _ T 7 _ _ c7 h6
  have h8 := heap_setCell_same _ T 8 _ _ c8 h7
  have h9 := heap_setCell_same _ T 9 _ _ c9 h8
  have h10 := heap_setCell_same _ T 10 _ _ c10 h9
  have h11 := heap_setCell_same _ T 11 _ _ c11 h10
  simpa using h11
theorem twelve_chg (w : World) (T : Nat) (c0 c1 c2 c3 c4 c5 c6 c7 c8 c9 c10 c11 : Value) : Chg (· = T) w ((((((((((((w.setCell ⟨T, 0, none⟩ c0).setCell ⟨T, 1, none⟩ c1).setCell ⟨T, 2, none⟩ c2).setCell ⟨T, 3, none⟩ c3).setCell ⟨T, 4, none⟩ c4).setCell ⟨T, 5, none⟩ c5).setCell ⟨T, 6, none⟩ c6).setCell ⟨T, 7, none⟩ c7).setCell ⟨T, 8, none⟩ c8).setCell ⟨T, 9, none⟩ c9).setCell ⟨T, 10, none⟩ c10).setCell ⟨T, 11, none⟩ c11) :=
  ((((((((((((Chg.refl (· = T) w).setCell (p := ⟨T, 0, none⟩) (.inl rfl) c0).setCell (p := ⟨T, 1, none⟩) (.inl rfl) c1).setCell (p := ⟨T, 2, none⟩) (.inl rfl) c2).setCell (p := ⟨T, 3, none⟩) (.inl rfl) c3).setCell (p := ⟨T, 4, none⟩) (.inl rfl) c4).setCell (p := ⟨T, 5, none⟩) (.inl rfl) c5).setCell (p := ⟨T, 6, none⟩) (.inl rfl) c6).setCell (p := ⟨T, 7, none⟩) (.inl rfl) c7).setCell (p := ⟨T, 8, none⟩) (.inl rfl) c8).setCell (p := ⟨T, 9, none⟩) (.inl rfl) c9).setCell (p := ⟨T, 10, none⟩) (.inl rfl) c10).setCell (p := ⟨T, 11, none⟩) (.inl rfl) c11
set_option maxRecDepth 1000000 in
set_option maxHeartbeats 8000000 in
theorem rrow_any (bA : Option Addr) (bn bc : Nat) (a e n : Int) (g : InR) (l : List UInt8) (w : World) (hv : RdB w (· < w.heap.size) (.slice bA bn bc) l) : Calls Tryz.prog 132 #[inV bA bn bc (a, e) n g] w fun x w' => ∃ n' g', x = .returned (inV bA bn bc (rdR l (a, e)).2 n' g') ∧ RdV w' (fun b => w.heap.size ≤ b ∧ b < w'.heap.size) (.slice g'.rA g'.rn g'.rc) (rdR l (a, e)).1 ∧ Below w.heap.size w w' := by
  have hz : ∀ c d V, d = (if e = 0 then c else e) → Calls Tryz.prog 178 #[inV bA bn bc (a, e) n g, .int .i64 c] V _ := fun c d V h => fail_any bA bn bc a e n g c d V h
  have KI := fun V (h : RdB V (· < V.heap.size) (.slice bA bn bc) l) => refRow_any (.slice bA bn bc) l a V h
  obtain ⟨s, vk, vi, vs, rA, rn, rc, p1, p2, lA, ln, lc⟩ := g
  by_cases he : e = 0
  case neg =>
    rw [show rdR l (a, e) = ([], a, e) from rdS_no he]
    have hq := fun V => hz e e V (by rw [if_neg he])
    simp only [inV, inBox, InR.zero] at hq ⊢
    clear KI hz
    go_enter Tryz.func132, Tryz.ntmps132
    go_wp2_with fail
    (with_reducible refine (hq _).mono ?_)
    rintro _ w2 ⟨rfl, hw2⟩
    rw [hw2]
    clear hw2 hq w2
    go_wp2_with fail
    exact bodyPost_ret (v := .agg #[.slice bA bn bc, .int .i64 a, .int .i64 e, .int .i64 0, .string ⟨#[]⟩, .int .i64 0, .int .i64 0, .string ⟨#[]⟩, .slice none 0 0, .int .i64 0, .int .i64 0, .slice none 0 0]) (by simp [results, Tryz.results132, go_sem]) rfl ⟨0, InR.zero, rfl, Rd.nil _ _ _, ((((((Below.of_alloc _).alloc (by first | (simp; done) | (simp; omega)) _)).alloc (by first | (simp; done) | (simp; omega)) _)).alloc (by first | (simp; done) | (simp; omega)) _)⟩
  case pos =>
    subst he
    rcases hd : decR l a with ⟨xs, k, e'⟩
    rw [hd] at KI
    rw [show rdR l (a, 0) = (xs, if e' = 0 then (k, 0) else (a, e')) from rdS_go hd]
    by_cases he' : e' = 0
    case pos =>
      subst he'
      rw [if_pos rfl]
      obtain ⟨V, hV⟩ : ∃ V, V = (w.alloc (.cells #[.slice bA bn bc, .int .i64 a, .int .i64 0, .int .i64 n, .string s, .int .i64 vk, .int .i64 vi, .string vs, .slice rA rn rc, .int .i64 p1, .int .i64 p2, .slice lA ln lc] 125)).alloc (.cells #[.slice none 0 0, .int .i64 0, .int .i64 0, .int .i64 0, .string ⟨#[]⟩, .int .i64 0, .int .i64 0, .string ⟨#[]⟩, .slice none 0 0, .int .i64 0, .int .i64 0, .slice none 0 0] 125) := ⟨_, rfl⟩
      have hVb : Below w.heap.size w V := by rw [hV]; exact ((Below.of_alloc _).alloc (by first | (simp; done) | (simp; omega)) _)
      have hVs : V.heap.size = w.heap.size + 2 := by rw [hV]; simp
      have hV0 : V.heap[w.heap.size]? = some (.cells #[.slice bA bn bc, .int .i64 a, .int .i64 0, .int .i64 n, .string s, .int .i64 vk, .int .i64 vi, .string vs, .slice rA rn rc, .int .i64 p1, .int .i64 p2, .slice lA ln lc] 125 (0, 0)) := by
        rw [hV]
        exact ((Below.of_alloc _).block w.heap.size (by simp)).trans (heap_alloc_new _ _)
      have hV1 : V.heap[(w.heap.size + 1)]? = some (.cells #[.slice none 0 0, .int .i64 0, .int .i64 0, .int .i64 0, .string ⟨#[]⟩, .int .i64 0, .int .i64 0, .string ⟨#[]⟩, .slice none 0 0, .int .i64 0, .int .i64 0, .slice none 0 0] 125 (0, 0)) := by
        rw [hV]
        have := heap_alloc_new (w.alloc (.cells #[.slice bA bn bc, .int .i64 a, .int .i64 0, .int .i64 n, .string s, .int .i64 vk, .int .i64 vi, .string vs, .slice rA rn rc, .int .i64 p1, .int .i64 p2, .slice lA ln lc] 125)) (.cells #[.slice none 0 0, .int .i64 0, .int .i64 0, .int .i64 0, .string ⟨#[]⟩, .int .i64 0, .int .i64 0, .string ⟨#[]⟩, .slice none 0 0, .int .i64 0, .int .i64 0, .slice none 0 0] 125)
        simpa using this
      have HV0 := Lib.hid hV0
      have HV1 := Lib.hid hV1
      have HVB := Lib.hid hVb
      clear hV0 hV1 hVb
      simp only [inV] at hz ⊢
      simp only [if_true] at hz
      go_enter Tryz.func132, Tryz.ntmps132
      go_wp2_with fail
      rw [← hV]
      clear hV
      (with_reducible refine (KI _ (RdB.below hv HVB.out)).mono ?_)
      rintro _ W2 ⟨u, rfl, hO, hb⟩
      simp only at hO ⊢
      have HB2 : Hid (Below w.heap.size w W2) := Lib.hid (HVB.out.trans (hb.mono HVB.out.size))
      have hW0 := (hb.block w.heap.size (by omega)).trans HV0.out
      have hW1 := (hb.block (w.heap.size + 1) (by omega)).trans HV1.out
      have HW0 := Lib.hid hW0
      have HW1 := Lib.hid hW1
      have hs2 : w.heap.size + 2 ≤ W2.heap.size := by have := hb.size; omega
      obtain ⟨Au, cu, rfl, x1, x2, x3⟩ := Rd.open_ (Rd.of_own hO)
      have HO := Lib.hid hO
      clear hb hO x3 KI hW0 hW1
      clear hz
      have g1 : W2.cell? ⟨w.heap.size, 1, none⟩ = some (.int .i64 a) := cell_of_row W2 _ 1 _ _ _ HW0.out
      have g8 : W2.cell? ⟨w.heap.size, 8, none⟩ = some (.slice rA rn rc) := cell_of_row W2 _ 8 _ _ _ HW0.out
      have z1 : W2.frozen? ⟨w.heap.size, 1, none⟩ = false := frozen_of_row W2 _ 1 _ _ HW0.out
      have z8 : W2.frozen? ⟨w.heap.size, 8, none⟩ = false := frozen_of_row W2 _ 8 _ _ HW0.out
      go_upto_region 8 with (fail)
      have ue0 := heap_setCell_same W2 w.heap.size 8 _ _ (.slice Au xs.length cu) HW0.out
      have ue1 := heap_setCell_same _ w.heap.size 1 _ _ (.int .i64 k) ue0
      have hcY : Chg (· = w.heap.size) W2 ((W2.setCell ⟨w.heap.size, 8, none⟩ (.slice Au xs.length cu)).setCell ⟨w.heap.size, 1, none⟩ (.int .i64 k)) := ((((Chg.refl (· = w.heap.size) W2).setCell (p := ⟨w.heap.size, 8, none⟩) (.inl rfl) (.slice Au xs.length cu))).setCell (p := ⟨w.heap.size, 1, none⟩) (.inl rfl) (.int .i64 k))
      have hY0 : ((W2.setCell ⟨w.heap.size, 8, none⟩ (.slice Au xs.length cu)).setCell ⟨w.heap.size, 1, none⟩ (.int .i64 k)).heap[w.heap.size]? = some (.cells #[.slice bA bn bc, .int .i64 k, .int .i64 0, .int .i64 n, .string s, .int .i64 vk, .int .i64 vi, .string vs, .slice Au xs.length cu, .int .i64 p1, .int .i64 p2, .slice lA ln lc] 125 (0, 0)) := by simpa using ue1
      have hYb : Below w.heap.size w ((W2.setCell ⟨w.heap.size, 8, none⟩ (.slice Au xs.length cu)).setCell ⟨w.heap.size, 1, none⟩ (.int .i64 k)) := ((((HB2.out).setCell (p := ⟨w.heap.size, 8, none⟩) (Nat.le_refl _) (.slice Au xs.length cu))).setCell (p := ⟨w.heap.size, 1, none⟩) (Nat.le_refl _) (.int .i64 k))
      have hY1 := (hcY.block (w.heap.size + 1) (by omega) (by show (w.heap.size + 1) ≠ w.heap.size; omega)).trans HW1.out
      clear ue0 ue1
      generalize ((W2.setCell ⟨w.heap.size, 8, none⟩ (.slice Au xs.length cu)).setCell ⟨w.heap.size, 1, none⟩ (.int .i64 k)) = Y at *
      have HY0 := Lib.hid hY0
      have HY1 := Lib.hid hY1
      have HYB := Lib.hid hYb
      have HCY := Lib.hid hcY
      clear hY0 hY1 hYb hcY
      clear g1 g8 z1 z8
      have hys : w.heap.size + 2 ≤ Y.heap.size := by have := HCY.out.size; omega
      have HRW : Hid (RdV Y (fun b => w.heap.size + 2 ≤ b ∧ b < Y.heap.size) (.slice Au xs.length cu) xs) := Lib.hid ((Rd.keep (Rd.of_own HO.out) (fun b hb => HCY.out.block b hb.2 (by show b ≠ w.heap.size; have := hb.1; omega))).wide (fun b hb => ⟨by have := hb.1; omega, by have := HCY.out.size; have := hb.2; omega⟩))
      have g0 : Y.cell? ⟨w.heap.size, 0, none⟩ = some (.slice bA bn bc) := cell_of_row Y _ 0 _ _ _ HY0.out
      have g1 : Y.cell? ⟨w.heap.size, 1, none⟩ = some (.int .i64 k) := cell_of_row Y _ 1 _ _ _ HY0.out
      have g2 : Y.cell? ⟨w.heap.size, 2, none⟩ = some (.int .i64 0) := cell_of_row Y _ 2 _ _ _ HY0.out
      have g3 : Y.cell? ⟨w.heap.size, 3, none⟩ = some (.int .i64 n) := cell_of_row Y _ 3 _ _ _ HY0.out
      have g4 : Y.cell? ⟨w.heap.size, 4, none⟩ = some (.string s) := cell_of_row Y _ 4 _ _ _ HY0.out
      have g5 : Y.cell? ⟨w.heap.size, 5, none⟩ = some (.int .i64 vk) := cell_of_row Y _ 5 _ _ _ HY0.out
      have g6 : Y.cell? ⟨w.heap.size, 6, none⟩ = some (.int .i64 vi) := cell_of_row Y _ 6 _ _ _ HY0.out
      have g7 : Y.cell? ⟨w.heap.size, 7, none⟩ = some (.string vs) := cell_of_row Y _ 7 _ _ _ HY0.out
      have g8 : Y.cell? ⟨w.heap.size, 8, none⟩ = some (.slice Au xs.length cu) := cell_of_row Y _ 8 _ _ _ HY0.out
      have g9 : Y.cell? ⟨w.heap.size, 9, none⟩ = some (.int .i64 p1) := cell_of_row Y _ 9 _ _ _ HY0.out
      have g10 : Y.cell? ⟨w.heap.size, 10, none⟩ = some (.int .i64 p2) := cell_of_row Y _ 10 _ _ _ HY0.out
      have g11 : Y.cell? ⟨w.heap.size, 11, none⟩ = some (.slice lA ln lc) := cell_of_row Y _ 11 _ _ _ HY0.out
      have q0 : Y.cell? ⟨(w.heap.size + 1), 0, none⟩ = some (.slice none 0 0) := cell_of_row Y _ 0 _ _ _ HY1.out
      have q1 : Y.cell? ⟨(w.heap.size + 1), 1, none⟩ = some (.int .i64 0) := cell_of_row Y _ 1 _ _ _ HY1.out
      have q2 : Y.cell? ⟨(w.heap.size + 1), 2, none⟩ = some (.int .i64 0) := cell_of_row Y _ 2 _ _ _ HY1.out
      have q3 : Y.cell? ⟨(w.heap.size + 1), 3, none⟩ = some (.int .i64 0) := cell_of_row Y _ 3 _ _ _ HY1.out
      have q4 : Y.cell? ⟨(w.heap.size + 1), 4, none⟩ = some (.string ⟨#[]⟩) := cell_of_row Y _ 4 _ _ _ HY1.out
      have q5 : Y.cell? ⟨(w.heap.size + 1), 5, none⟩ = some (.int .i64 0) := cell_of_row Y _ 5 _ _ _ HY1.out
      have q6 : Y.cell? ⟨(w.heap.size + 1), 6, none⟩ = some (.int .i64 0) := cell_of_row Y _ 6 _ _ _ HY1.out
      have q7 : Y.cell? ⟨(w.heap.size + 1), 7, none⟩ = some (.string ⟨#[]⟩) := cell_of_row Y _ 7 _ _ _ HY1.out
      have q8 : Y.cell? ⟨(w.heap.size + 1), 8, none⟩ = some (.slice none 0 0) := cell_of_row Y _ 8 _ _ _ HY1.out
      have q9 : Y.cell? ⟨(w.heap.size + 1), 9, none⟩ = some (.int .i64 0) := cell_of_row Y _ 9 _ _ _ HY1.out
      have q10 : Y.cell? ⟨(w.heap.size + 1), 10, none⟩ = some (.int .i64 0) := cell_of_row Y _ 10 _ _ _ HY1.out
      have q11 : Y.cell? ⟨(w.heap.size + 1), 11, none⟩ = some (.slice none 0 0) := cell_of_row Y _ 11 _ _ _ HY1.out
      have f0 : Y.frozen? ⟨(w.heap.size + 1), 0, none⟩ = false := frozen_of_row Y _ 0 _ _ HY1.out
      have f1 : Y.frozen? ⟨(w.heap.size + 1), 1, none⟩ = false := frozen_of_row Y _ 1 _ _ HY1.out
      have f2 : Y.frozen? ⟨(w.heap.size + 1), 2, none⟩ = false := frozen_of_row Y _ 2 _ _ HY1.out
      have f3 : Y.frozen? ⟨(w.heap.size + 1), 3, none⟩ = false := frozen_of_row Y _ 3 _ _ HY1.out
      have f4 : Y.frozen? ⟨(w.heap.size + 1), 4, none⟩ = false := frozen_of_row Y _ 4 _ _ HY1.out
      have f5 : Y.frozen? ⟨(w.heap.size + 1), 5, none⟩ = false := frozen_of_row Y _ 5 _ _ HY1.out
      have f6 : Y.frozen? ⟨(w.heap.size + 1), 6, none⟩ = false := frozen_of_row Y _ 6 _ _ HY1.out
      have f7 : Y.frozen? ⟨(w.heap.size + 1), 7, none⟩ = false := frozen_of_row Y _ 7 _ _ HY1.out
      have f8 : Y.frozen? ⟨(w.heap.size + 1), 8, none⟩ = false := frozen_of_row Y _ 8 _ _ HY1.out
      have f9 : Y.frozen? ⟨(w.heap.size + 1), 9, none⟩ = false := frozen_of_row Y _ 9 _ _ HY1.out
      have f10 : Y.frozen? ⟨(w.heap.size + 1), 10, none⟩ = false := frozen_of_row Y _ 10 _ _ HY1.out
      have f11 : Y.frozen? ⟨(w.heap.size + 1), 11, none⟩ = false := frozen_of_row Y _ 11 _ _ HY1.out
      have hZ := twelve_set HY1.out (.slice bA bn bc) (.int .i64 k) (.int .i64 0) (.int .i64 n) (.string s) (.int .i64 vk) (.int .i64 vi) (.string vs) (.slice Au xs.length cu) (.int .i64 p1) (.int .i64 p2) (.slice lA ln lc)
      have hZb := twelve_chg Y (w.heap.size + 1) (.slice bA bn bc) (.int .i64 k) (.int .i64 0) (.int .i64 n) (.string s) (.int .i64 vk) (.int .i64 vi) (.string vs) (.slice Au xs.length cu) (.int .i64 p1) (.int .i64 p2) (.slice lA ln lc)
      have HZ := Lib.hid hZ
      have HZB := Lib.hid hZb
      clear hZ hZb
      go_wp2_with fail
      generalize ((((((((((((Y.setCell ⟨(w.heap.size + 1), 0, none⟩ (.slice bA bn bc)).setCell ⟨(w.heap.size + 1), 1, none⟩ (.int .i64 k)).setCell ⟨(w.heap.size + 1), 2, none⟩ (.int .i64 0)).setCell ⟨(w.heap.size + 1), 3, none⟩ (.int .i64 n)).setCell ⟨(w.heap.size + 1), 4, none⟩ (.string s)).setCell ⟨(w.heap.size + 1), 5, none⟩ (.int .i64 vk)).setCell ⟨(w.heap.size + 1), 6, none⟩ (.int .i64 vi)).setCell ⟨(w.heap.size + 1), 7, none⟩ (.string vs)).setCell ⟨(w.heap.size + 1), 8, none⟩ (.slice Au xs.length cu)).setCell ⟨(w.heap.size + 1), 9, none⟩ (.int .i64 p1)).setCell ⟨(w.heap.size + 1), 10, none⟩ (.int .i64 p2)).setCell ⟨(w.heap.size + 1), 11, none⟩ (.slice lA ln lc)) = Z at *
      have y0 : Z.cell? ⟨(w.heap.size + 1), 0, none⟩ = some (.slice bA bn bc) := cell_of_row Z _ 0 _ _ _ HZ.out
      have y1 : Z.cell? ⟨(w.heap.size + 1), 1, none⟩ = some (.int .i64 k) := cell_of_row Z _ 1 _ _ _ HZ.out
      have y2 : Z.cell? ⟨(w.heap.size + 1), 2, none⟩ = some (.int .i64 0) := cell_of_row Z _ 2 _ _ _ HZ.out
      have y3 : Z.cell? ⟨(w.heap.size + 1), 3, none⟩ = some (.int .i64 n) := cell_of_row Z _ 3 _ _ _ HZ.out
      have y4 : Z.cell? ⟨(w.heap.size + 1), 4, none⟩ = some (.string s) := cell_of_row Z _ 4 _ _ _ HZ.out
      have y5 : Z.cell? ⟨(w.heap.size + 1), 5, none⟩ = some (.int .i64 vk) := cell_of_row Z _ 5 _ _ _ HZ.out
      have y6 : Z.cell? ⟨(w.heap.size + 1), 6, none⟩ = some (.int .i64 vi) := cell_of_row Z _ 6 _ _ _ HZ.out
      have y7 : Z.cell? ⟨(w.heap.size + 1), 7, none⟩ = some (.string vs) := cell_of_row Z _ 7 _ _ _ HZ.out
      have y8 : Z.cell? ⟨(w.heap.size + 1), 8, none⟩ = some (.slice Au xs.length cu) := cell_of_row Z _ 8 _ _ _ HZ.out
      have y9 : Z.cell? ⟨(w.heap.size + 1), 9, none⟩ = some (.int .i64 p1) := cell_of_row Z _ 9 _ _ _ HZ.out
      have y10 : Z.cell? ⟨(w.heap.size + 1), 10, none⟩ = some (.int .i64 p2) := cell_of_row Z _ 10 _ _ _ HZ.out
      have y11 : Z.cell? ⟨(w.heap.size + 1), 11, none⟩ = some (.slice lA ln lc) := cell_of_row Z _ 11 _ _ _ HZ.out
      exact bodyPost_ret (v := .agg #[.slice bA bn bc, .int .i64 k, .int .i64 0, .int .i64 n, .string s, .int .i64 vk, .int .i64 vi, .string vs, .slice Au xs.length cu, .int .i64 p1, .int .i64 p2, .slice lA ln lc]) (by simp [results, Tryz.results132, go_sem, y0, y1, y2, y3, y4, y5, y6, y7, y8, y9, y10, y11]) rfl ⟨n, ⟨s, vk, vi, vs, Au, xs.length, cu, p1, p2, lA, ln, lc⟩, rfl, (Rd.keep HRW.out (fun b hb => HZB.out.block b hb.2 (by show b ≠ w.heap.size + 1; have := hb.1; omega))).wide (fun b hb => ⟨by have := hb.1; omega, by have := HZB.out.size; have := hb.2; omega⟩), HYB.out.trans (HZB.out.below HYB.out.size (fun i (hi : i = w.heap.size + 1) => by omega))⟩
    case neg =>
      have hx0 : xs = [] := by
        have := decR_err (l := l) (k := a) (by rw [hd]; exact he')
        rw [hd] at this
        exact this
      rw [if_neg he']
      subst hx0
      obtain ⟨V, hV⟩ : ∃ V, V = (w.alloc (.cells #[.slice bA bn bc, .int .i64 a, .int .i64 0, .int .i64 n, .string s, .int .i64 vk, .int .i64 vi, .string vs, .slice rA rn rc, .int .i64 p1, .int .i64 p2, .slice lA ln lc] 125)).alloc (.cells #[.slice none 0 0, .int .i64 0, .int .i64 0, .int .i64 0, .string ⟨#[]⟩, .int .i64 0, .int .i64 0, .string ⟨#[]⟩, .slice none 0 0, .int .i64 0, .int .i64 0, .slice none 0 0] 125) := ⟨_, rfl⟩
      have hVb : Below w.heap.size w V := by rw [hV]; exact ((Below.of_alloc _).alloc (by first | (simp; done) | (simp; omega)) _)
      have hVs : V.heap.size = w.heap.size + 2 := by rw [hV]; simp
      have hV0 : V.heap[w.heap.size]? = some (.cells #[.slice bA bn bc, .int .i64 a, .int .i64 0, .int .i64 n, .string s, .int .i64 vk, .int .i64 vi, .string vs, .slice rA rn rc, .int .i64 p1, .int .i64 p2, .slice lA ln lc] 125 (0, 0)) := by
        rw [hV]
        exact ((Below.of_alloc _).block w.heap.size (by simp)).trans (heap_alloc_new _ _)
      have hV1 : V.heap[(w.heap.size + 1)]? = some (.cells #[.slice none 0 0, .int .i64 0, .int .i64 0, .int .i64 0, .string ⟨#[]⟩, .int .i64 0, .int .i64 0, .string ⟨#[]⟩, .slice none 0 0, .int .i64 0, .int .i64 0, .slice none 0 0] 125 (0, 0)) := by
        rw [hV]
        have := heap_alloc_new (w.alloc (.cells #[.slice bA bn bc, .int .i64 a, .int .i64 0, .int .i64 n, .string s, .int .i64 vk, .int .i64 vi, .string vs, .slice rA rn rc, .int .i64 p1, .int .i64 p2, .slice lA ln lc] 125)) (.cells #[.slice none 0 0, .int .i64 0, .int .i64 0, .int .i64 0, .string ⟨#[]⟩, .int .i64 0, .int .i64 0, .string ⟨#[]⟩, .slice none 0 0, .int .i64 0, .int .i64 0, .slice none 0 0] 125)
        simpa using this
      have HV0 := Lib.hid hV0
      have HV1 := Lib.hid hV1
      have HVB := Lib.hid hVb
      clear hV0 hV1 hVb
      simp only [inV] at hz ⊢
      simp only [if_true] at hz
      go_enter Tryz.func132, Tryz.ntmps132
      go_wp2_with fail
      rw [← hV]
      clear hV
      (with_reducible refine (KI _ (RdB.below hv HVB.out)).mono ?_)
      rintro _ W2 ⟨u, rfl, hO, hb⟩
      simp only at hO ⊢
      have HB2 : Hid (Below w.heap.size w W2) := Lib.hid (HVB.out.trans (hb.mono HVB.out.size))
      have hW0 := (hb.block w.heap.size (by omega)).trans HV0.out
      have hW1 := (hb.block (w.heap.size + 1) (by omega)).trans HV1.out
      have HW0 := Lib.hid hW0
      have HW1 := Lib.hid hW1
      have hs2 : w.heap.size + 2 ≤ W2.heap.size := by have := hb.size; omega
      obtain ⟨Au, cu, rfl, x1, x2, x3⟩ := Rd.open_ (Rd.of_own hO)
      have HO := Lib.hid hO
      clear hb hO x3 KI hW0 hW1
      have hq := hz e' e' W2 rfl
      obtain ⟨X, hX⟩ : ∃ X, X = (W2.alloc (.cells #[.slice bA bn bc, .int .i64 a, .int .i64 e', .int .i64 n, .string s, .int .i64 vk, .int .i64 vi, .string vs, .slice rA rn rc, .int .i64 p1, .int .i64 p2, .slice lA ln lc] 125)).alloc (.cells #[.slice bA bn bc, .int .i64 a, .int .i64 e', .int .i64 0, .string ⟨#[]⟩, .int .i64 0, .int .i64 0, .string ⟨#[]⟩, .slice none 0 0, .int .i64 0, .int .i64 0, .slice none 0 0] 125) := ⟨_, rfl⟩
      have hXb : Below W2.heap.size W2 X := by rw [hX]; exact (Below.of_alloc _).alloc (by simp) _
      have HX1 := Lib.hid ((hXb.block (w.heap.size + 1) (by omega)).trans HW1.out)
      have HXB := Lib.hid (HB2.out.trans (hXb.mono HB2.out.size))
      simp only [inBox, InR.zero] at hq
      rw [← hX] at hq
      clear hz hX hd hXb
      have g0 : W2.cell? ⟨w.heap.size, 0, none⟩ = some (.slice bA bn bc) := cell_of_row W2 _ 0 _ _ _ HW0.out
      have g1 : W2.cell? ⟨w.heap.size, 1, none⟩ = some (.int .i64 a) := cell_of_row W2 _ 1 _ _ _ HW0.out
      have g2 : W2.cell? ⟨w.heap.size, 2, none⟩ = some (.int .i64 0) := cell_of_row W2 _ 2 _ _ _ HW0.out
      have g3 : W2.cell? ⟨w.heap.size, 3, none⟩ = some (.int .i64 n) := cell_of_row W2 _ 3 _ _ _ HW0.out
      have g4 : W2.cell? ⟨w.heap.size, 4, none⟩ = some (.string s) := cell_of_row W2 _ 4 _ _ _ HW0.out
      have g5 : W2.cell? ⟨w.heap.size, 5, none⟩ = some (.int .i64 vk) := cell_of_row W2 _ 5 _ _ _ HW0.out
      have g6 : W2.cell? ⟨w.heap.size, 6, none⟩ = some (.int .i64 vi) := cell_of_row W2 _ 6 _ _ _ HW0.out
      have g7 : W2.cell? ⟨w.heap.size, 7, none⟩ = some (.string vs) := cell_of_row W2 _ 7 _ _ _ HW0.out
      have g8 : W2.cell? ⟨w.heap.size, 8, none⟩ = some (.slice rA rn rc) := cell_of_row W2 _ 8 _ _ _ HW0.out
      have g9 : W2.cell? ⟨w.heap.size, 9, none⟩ = some (.int .i64 p1) := cell_of_row W2 _ 9 _ _ _ HW0.out
      have g10 : W2.cell? ⟨w.heap.size, 10, none⟩ = some (.int .i64 p2) := cell_of_row W2 _ 10 _ _ _ HW0.out
      have g11 : W2.cell? ⟨w.heap.size, 11, none⟩ = some (.slice lA ln lc) := cell_of_row W2 _ 11 _ _ _ HW0.out
      go_wp2_with fail
      (with_reducible refine hq.mono ?_)
      rintro _ w4 ⟨rfl, hw4⟩
      rw [hw4]
      clear hw4 w4 hq g0 g1 g2 g3 g4 g5 g6 g7 g8 g9 g10 g11
      have q0 : X.cell? ⟨(w.heap.size + 1), 0, none⟩ = some (.slice none 0 0) := cell_of_row X _ 0 _ _ _ HX1.out
      have q1 : X.cell? ⟨(w.heap.size + 1), 1, none⟩ = some (.int .i64 0) := cell_of_row X _ 1 _ _ _ HX1.out
      have q2 : X.cell? ⟨(w.heap.size + 1), 2, none⟩ = some (.int .i64 0) := cell_of_row X _ 2 _ _ _ HX1.out
      have q3 : X.cell? ⟨(w.heap.size + 1), 3, none⟩ = some (.int .i64 0) := cell_of_row X _ 3 _ _ _ HX1.out
      have q4 : X.cell? ⟨(w.heap.size + 1), 4, none⟩ = some (.string ⟨#[]⟩) := cell_of_row X _ 4 _ _ _ HX1.out
      have q5 : X.cell? ⟨(w.heap.size + 1), 5, none⟩ = some (.int .i64 0) := cell_of_row X _ 5 _ _ _ HX1.out
      have q6 : X.cell? ⟨(w.heap.size + 1), 6, none⟩ = some (.int .i64 0) := cell_of_row X _ 6 _ _ _ HX1.out
      have q7 : X.cell? ⟨(w.heap.size + 1), 7, none⟩ = some (.string ⟨#[]⟩) := cell_of_row X _ 7 _ _ _ HX1.out
      have q8 : X.cell? ⟨(w.heap.size + 1), 8, none⟩ = some (.slice none 0 0) := cell_of_row X _ 8 _ _ _ HX1.out
      have q9 : X.cell? ⟨(w.heap.size + 1), 9, none⟩ = some (.int .i64 0) := cell_of_row X _ 9 _ _ _ HX1.out
      have q10 : X.cell? ⟨(w.heap.size + 1), 10, none⟩ = some (.int .i64 0) := cell_of_row X _ 10 _ _ _ HX1.out
      have q11 : X.cell? ⟨(w.heap.size + 1), 11, none⟩ = some (.slice none 0 0) := cell_of_row X _ 11 _ _ _ HX1.out
      have f0 : X.frozen? ⟨(w.heap.size + 1), 0, none⟩ = false := frozen_of_row X _ 0 _ _ HX1.out
      have f1 : X.frozen? ⟨(w.heap.size + 1), 1, none⟩ = false := frozen_of_row X _ 1 _ _ HX1.out
      have f2 : X.frozen? ⟨(w.heap.size + 1), 2, none⟩ = false := frozen_of_row X _ 2 _ _ HX1.out
      have f3 : X.frozen? ⟨(w.heap.size + 1), 3, none⟩ = false := frozen_of_row X _ 3 _ _ HX1.out
      have f4 : X.frozen? ⟨(w.heap.size + 1), 4, none⟩ = false := frozen_of_row X _ 4 _ _ HX1.out
      have f5 : X.frozen? ⟨(w.heap.size + 1), 5, none⟩ = false := frozen_of_row X _ 5 _ _ HX1.out
      have f6 : X.frozen? ⟨(w.heap.size + 1), 6, none⟩ = false := frozen_of_row X _ 6 _ _ HX1.out
      have f7 : X.frozen? ⟨(w.heap.size + 1), 7, none⟩ = false := frozen_of_row X _ 7 _ _ HX1.out
      have f8 : X.frozen? ⟨(w.heap.size + 1), 8, none⟩ = false := frozen_of_row X _ 8 _ _ HX1.out
      have f9 : X.frozen? ⟨(w.heap.size + 1), 9, none⟩ = false := frozen_of_row X _ 9 _ _ HX1.out
      have f10 : X.frozen? ⟨(w.heap.size + 1), 10, none⟩ = false := frozen_of_row X _ 10 _ _ HX1.out
      have f11 : X.frozen? ⟨(w.heap.size + 1), 11, none⟩ = false := frozen_of_row X _ 11 _ _ HX1.out
      have hZ := twelve_set HX1.out (.slice bA bn bc) (.int .i64 a) (.int .i64 e') (.int .i64 0) (.string ⟨#[]⟩) (.int .i64 0) (.int .i64 0) (.string ⟨#[]⟩) (.slice none 0 0) (.int .i64 0) (.int .i64 0) (.slice none 0 0)
      have hZb := twelve_chg X (w.heap.size + 1) (.slice bA bn bc) (.int .i64 a) (.int .i64 e') (.int .i64 0) (.string ⟨#[]⟩) (.int .i64 0) (.int .i64 0) (.string ⟨#[]⟩) (.slice none 0 0) (.int .i64 0) (.int .i64 0) (.slice none 0 0)
      have HZ := Lib.hid hZ
      have HZB := Lib.hid hZb
      clear hZ hZb
      go_wp2_with fail
      generalize ((((((((((((X.setCell ⟨(w.heap.size + 1), 0, none⟩ (.slice bA bn bc)).setCell ⟨(w.heap.size + 1), 1, none⟩ (.int .i64 a)).setCell ⟨(w.heap.size + 1), 2, none⟩ (.int .i64 e')).setCell ⟨(w.heap.size + 1), 3, none⟩ (.int .i64 0)).setCell ⟨(w.heap.size + 1), 4, none⟩ (.string ⟨#[]⟩)).setCell ⟨(w.heap.size + 1), 5, none⟩ (.int .i64 0)).setCell ⟨(w.heap.size + 1), 6, none⟩ (.int .i64 0)).setCell ⟨(w.heap.size + 1), 7, none⟩ (.string ⟨#[]⟩)).setCell ⟨(w.heap.size + 1), 8, none⟩ (.slice none 0 0)).setCell ⟨(w.heap.size + 1), 9, none⟩ (.int .i64 0)).setCell ⟨(w.heap.size + 1), 10, none⟩ (.int .i64 0)).setCell ⟨(w.heap.size + 1), 11, none⟩ (.slice none 0 0)) = Z at *
      have y0 : Z.cell? ⟨(w.heap.size + 1), 0, none⟩ = some (.slice bA bn bc) := cell_of_row Z _ 0 _ _ _ HZ.out
      have y1 : Z.cell? ⟨(w.heap.size + 1), 1, none⟩ = some (.int .i64 a) := cell_of_row Z _ 1 _ _ _ HZ.out
      have y2 : Z.cell? ⟨(w.heap.size + 1), 2, none⟩ = some (.int .i64 e') := cell_of_row Z _ 2 _ _ _ HZ.out
      have y3 : Z.cell? ⟨(w.heap.size + 1), 3, none⟩ = some (.int .i64 0) := cell_of_row Z _ 3 _ _ _ HZ.out
      have y4 : Z.cell? ⟨(w.heap.size + 1), 4, none⟩ = some (.string ⟨#[]⟩) := cell_of_row Z _ 4 _ _ _ HZ.out
      have y5 : Z.cell? ⟨(w.heap.size + 1), 5, none⟩ = some (.int .i64 0) := cell_of_row Z _ 5 _ _ _ HZ.out
      have y6 : Z.cell? ⟨(w.heap.size + 1), 6, none⟩ = some (.int .i64 0) := cell_of_row Z _ 6 _ _ _ HZ.out
      have y7 : Z.cell? ⟨(w.heap.size + 1), 7, none⟩ = some (.string ⟨#[]⟩) := cell_of_row Z _ 7 _ _ _ HZ.out
      have y8 : Z.cell? ⟨(w.heap.size + 1), 8, none⟩ = some (.slice none 0 0) := cell_of_row Z _ 8 _ _ _ HZ.out
      have y9 : Z.cell? ⟨(w.heap.size + 1), 9, none⟩ = some (.int .i64 0) := cell_of_row Z _ 9 _ _ _ HZ.out
      have y10 : Z.cell? ⟨(w.heap.size + 1), 10, none⟩ = some (.int .i64 0) := cell_of_row Z _ 10 _ _ _ HZ.out
      have y11 : Z.cell? ⟨(w.heap.size + 1), 11, none⟩ = some (.slice none 0 0) := cell_of_row Z _ 11 _ _ _ HZ.out
      exact bodyPost_ret (v := .agg #[.slice bA bn bc, .int .i64 a, .int .i64 e', .int .i64 0, .string ⟨#[]⟩, .int .i64 0, .int .i64 0, .string ⟨#[]⟩, .slice none 0 0, .int .i64 0, .int .i64 0, .slice none 0 0]) (by simp [results, Tryz.results132, go_sem, y0, y1, y2, y3, y4, y5, y6, y7, y8, y9, y10, y11]) rfl ⟨0, InR.zero, rfl, Rd.nil _ _ _, HXB.out.trans (HZB.out.below HXB.out.size (fun i (hi : i = w.heap.size + 1) => by omega))⟩
set_option maxRecDepth 1000000 in
set_option maxHeartbeats 8000000 in
theorem rper_any (bA : Option Addr) (bn bc : Nat) (a e n : Int) (g : InR) (l : List UInt8) (w : World) (hv : RdB w (· < w.heap.size) (.slice bA bn bc) l) : Calls Tryz.prog 133 #[inV bA bn bc (a, e) n g] w fun x w' => ∃ n' g', x = .returned (inV bA bn bc (rdP l (a, e)).2 n' g') ∧ (g'.p1, g'.p2) = (rdP l (a, e)).1 ∧ Below w.heap.size w w' := by
  have hz : ∀ c d V, d = (if e = 0 then c else e) → Calls Tryz.prog 178 #[inV bA bn bc (a, e) n g, .int .i64 c] V _ := fun c d V h => fail_any bA bn bc a e n g c d V h
  have KI := fun V (h : RdB V (· < V.heap.size) (.slice bA bn bc) l) => refPeriod_any (.slice bA bn bc) l a V h
  obtain ⟨s, vk, vi, vs, rA, rn, rc, p1, p2, lA, ln, lc⟩ := g
  by_cases he : e = 0
  case neg =>
    rw [show rdP l (a, e) = ((0, 0), a, e) from rdS_no he]
    have hq := fun V => hz e e V (by rw [if_neg he])
    simp only [inV, inBox, InR.zero] at hq ⊢
    clear KI hz
    go_enter Tryz.func133, Tryz.ntmps133
    go_wp2_with fail
    (with_reducible refine (hq _).mono ?_)
    rintro _ w2 ⟨rfl, hw2⟩
    rw [hw2]
    clear hw2 hq w2
    go_wp2_with fail
    exact bodyPost_ret (v := .agg #[.slice bA bn bc, .int .i64 a, .int .i64 e, .int .i64 0, .string ⟨#[]⟩, .int .i64 0, .int .i64 0, .string ⟨#[]⟩, .slice none 0 0, .int .i64 0, .int .i64 0, .slice none 0 0]) (by simp [results, Tryz.results133, go_sem]) rfl ⟨0, InR.zero, rfl, rfl, ((((((Below.of_alloc _).alloc (by first | (simp; done) | (simp; omega)) _)).alloc (by first | (simp; done) | (simp; omega)) _)).alloc (by first | (simp; done) | (simp; omega)) _)⟩
  case pos =>
    subst he
    rcases hd : decP l a with ⟨⟨pf, pt⟩, k, e'⟩
    rw [hd] at KI
    rw [show rdP l (a, 0) = ((pf, pt), if e' = 0 then (k, 0) else (a, e')) from rdS_go hd]
    by_cases he' : e' = 0
    case pos =>
      subst he'
      rw [if_pos rfl]
      obtain ⟨V, hV⟩ : ∃ V, V = (w.alloc (.cells #[.slice bA bn bc, .int .i64 a, .int .i64 0, .int .i64 n, .string s, .int .i64 vk, .int .i64 vi, .string vs, .slice rA rn rc, .int .i64 p1, .int .i64 p2, .slice lA ln lc] 125)).alloc (.cells #[.slice none 0 0, .int .i64 0, .int .i64 0, .int .i64 0, .string ⟨#[]⟩, .int .i64 0, .int .i64 0, .string ⟨#[]⟩, .slice none 0 0, .int .i64 0, .int .i64 0, .slice none 0 0] 125) := ⟨_, rfl⟩
      have hVb : Below w.heap.size w V := by rw [hV]; exact ((Below.of_alloc _).alloc (by first | (simp; done) | (simp; omega)) _)
      have hVs : V.heap.size = w.heap.size + 2 := by rw [hV]; simp
      have hV0 : V.heap[w.heap.size]? = some (.cells #[.slice bA bn bc, .int .i64 a, .int .i64 0, .int .i64 n, .string s, .int .i64 vk, .int .i64 vi, .string vs, .slice rA rn rc, .int .i64 p1, .int .i64 p2, .slice lA ln lc] 125 (0, 0)) := by
        rw [hV]
        exact ((Below.of_alloc _).block w.heap.size (by simp)).trans (heap_alloc_new _ _)
      have hV1 : V.heap[(w.heap.size + 1)]? = some (.cells #[.slice none 0 0, .int .i64 0, .int .i64 0, .int .i64 0, .string ⟨#[]⟩, .int .i64 0, .int .i64 0, .string ⟨#[]⟩, .slice none 0 0, .int .i64 0, .int .i64 0, .slice none 0 0] 125 (0, 0)) := by
        rw [hV]
        have := heap_alloc_new (w.alloc (.cells #[.slice bA bn bc, .int .i64 a, .int .i64 0, .int .i64 n, .string s, .int .i64 vk, .int .i64 vi, .string vs, .slice rA rn rc, .int .i64 p1, .int .i64 p2, .slice lA ln lc] 125)) (.cells #[.slice none 0 0, .int .i64 0, .int .i64 0, .int .i64 0, .string ⟨#[]⟩, .int .i64 0, .int .i64 0, .string ⟨#[]⟩, .slice none 0 0, .int .i64 0, .int .i64 0, .slice none 0 0] 125)
        simpa using this
      have HV0 := Lib.hid hV0
      have HV1 := Lib.hid hV1
      have HVB := Lib.hid hVb
      clear hV0 hV1 hVb
      simp only [inV] at hz ⊢
      simp only [if_true] at hz
      go_enter Tryz.func133, Tryz.ntmps133
      go_wp2_with fail
      rw [← hV]
      clear hV
      (with_reducible refine (KI _ (RdB.below hv HVB.out)).mono ?_)
      rintro _ W2 ⟨rfl, hb⟩
      simp only
      obtain ⟨W3, hW3⟩ : ∃ W3, W3 = W2.alloc (.cells #[.int .i64 pf, .int .i64 pt] 24) := ⟨_, rfl⟩
      have hb3 : Below V.heap.size V W3 := by rw [hW3]; exact hb.alloc hb.size _
      have hP3 : W3.heap[W2.heap.size]? = some (.cells #[.int .i64 pf, .int .i64 pt] 24 (0, 0)) := by rw [hW3]; exact heap_alloc_new _ _
      have t0 : W3.cell? ⟨W2.heap.size, 0, none⟩ = some (.int .i64 pf) := cell_of_row W3 _ 0 _ _ _ hP3
      have t1 : W3.cell? ⟨W2.heap.size, 1, none⟩ = some (.int .i64 pt) := cell_of_row W3 _ 1 _ _ _ hP3
      have HB2 : Hid (Below w.heap.size w W3) := Lib.hid (HVB.out.trans (hb3.mono HVB.out.size))
      have hW0 := (hb3.block w.heap.size (by omega)).trans HV0.out
      have hW1 := (hb3.block (w.heap.size + 1) (by omega)).trans HV1.out
      have HW0 := Lib.hid hW0
      have HW1 := Lib.hid hW1
      have hs2 : w.heap.size + 2 ≤ W3.heap.size := by have := hb3.size; omega
      clear hb hb3 KI hW0 hW1 hP3
      go_upto_region 4 with (fail)
      rw [← hW3]
      clear hW3
      clear hz
      have g1 : W3.cell? ⟨w.heap.size, 1, none⟩ = some (.int .i64 a) := cell_of_row W3 _ 1 _ _ _ HW0.out
      have g9 : W3.cell? ⟨w.heap.size, 9, none⟩ = some (.int .i64 p1) := cell_of_row W3 _ 9 _ _ _ HW0.out
      have g10 : W3.cell? ⟨w.heap.size, 10, none⟩ = some (.int .i64 p2) := cell_of_row W3 _ 10 _ _ _ HW0.out
      have z1 : W3.frozen? ⟨w.heap.size, 1, none⟩ = false := frozen_of_row W3 _ 1 _ _ HW0.out
      have z9 : W3.frozen? ⟨w.heap.size, 9, none⟩ = false := frozen_of_row W3 _ 9 _ _ HW0.out
      have z10 : W3.frozen? ⟨w.heap.size, 10, none⟩ = false := frozen_of_row W3 _ 10 _ _ HW0.out
      go_upto_region 8 with (fail)
      have ue0 := heap_setCell_same W3 w.heap.size 9 _ _ (.int .i64 pf) HW0.out
      have ue1 := heap_setCell_same _ w.heap.size 10 _ _ (.int .i64 pt) ue0
      have ue2 := heap_setCell_same _ w.heap.size 1 _ _ (.int .i64 k) ue1
      have hcY : Chg (· = w.heap.size) W3 (((W3.setCell ⟨w.heap.size, 9, none⟩ (.int .i64 pf)).setCell ⟨w.heap.size, 10, none⟩ (.int .i64 pt)).setCell ⟨w.heap.size, 1, none⟩ (.int .i64 k)) := ((((((Chg.refl (· = w.heap.size) W3).setCell (p := ⟨w.heap.size, 9, none⟩) (.inl rfl) (.int .i64 pf))).setCell (p := ⟨w.heap.size, 10, none⟩) (.inl rfl) (.int .i64 pt))).setCell (p := ⟨w.heap.size, 1, none⟩) (.inl rfl) (.int .i64 k))
      have hY0 : (((W3.setCell ⟨w.heap.size, 9, none⟩ (.int .i64 pf)).setCell ⟨w.heap.size, 10, none⟩ (.int .i64 pt)).setCell ⟨w.heap.size, 1, none⟩ (.int .i64 k)).heap[w.heap.size]? = some (.cells #[.slice bA bn bc, .int .i64 k, .int .i64 0, .int .i64 n, .string s, .int .i64 vk, .int .i64 vi, .string vs, .slice rA rn rc, .int .i64 pf, .int .i64 pt, .slice lA ln lc] 125 (0, 0)) := by simpa using ue2
      have hYb : Below w.heap.size w (((W3.setCell ⟨w.heap.size, 9, none⟩ (.int .i64 pf)).setCell ⟨w.heap.size, 10, none⟩ (.int .i64 pt)).setCell ⟨w.heap.size, 1, none⟩ (.int .i64 k)) := ((((((HB2.out).setCell (p := ⟨w.heap.size, 9, none⟩) (Nat.le_refl _) (.int .i64 pf))).setCell (p := ⟨w.heap.size, 10, none⟩) (Nat.le_refl _) (.int .i64 pt))).setCell (p := ⟨w.heap.size, 1, none⟩) (Nat.le_refl _) (.int .i64 k))
      have hY1 := (hcY.block (w.heap.size + 1) (by omega) (by show (w.heap.size + 1) ≠ w.heap.size; omega)).trans HW1.out
      clear ue0 ue1 ue2
      generalize (((W3.setCell ⟨w.heap.size, 9, none⟩ (.int .i64 pf)).setCell ⟨w.heap.size, 10, none⟩ (.int .i64 pt)).setCell ⟨w.heap.size, 1, none⟩ (.int .i64 k)) = Y at *
      have HY0 := Lib.hid hY0
      have HY1 := Lib.hid hY1
      have HYB := Lib.hid hYb
      have HCY := Lib.hid hcY
      clear hY0 hY1 hYb hcY
      clear g1 g9 g10 z1 z9 z10 t0 t1
      have hys : w.heap.size + 2 ≤ Y.heap.size := by have := HCY.out.size; omega
      have g0 : Y.cell? ⟨w.heap.size, 0, none⟩ = some (.slice bA bn bc) := cell_of_row Y _ 0 _ _ _ HY0.out
      have g1 : Y.cell? ⟨w.heap.size, 1, none⟩ = some (.int .i64 k) := cell_of_row Y _ 1 _ _ _ HY0.out
      have g2 : Y.cell? ⟨w.heap.size, 2, none⟩ = some (.int .i64 0) := cell_of_row Y _ 2 _ _ _ HY0.out
      have g3 : Y.cell? ⟨w.heap.size, 3, none⟩ = some (.int .i64 n) := cell_of_row Y _ 3 _ _ _ HY0.out
      have g4 : Y.cell? ⟨w.heap.size, 4, none⟩ = some (.string s) := cell_of_row Y _ 4 _ _ _ HY0.out
      have g5 : Y.cell? ⟨w.heap.size, 5, none⟩ = some (.int .i64 vk) := cell_of_row Y _ 5 _ _ _ HY0.out
      have g6 : Y.cell? ⟨w.heap.size, 6, none⟩ = some (.int .i64 vi) := cell_of_row Y _ 6 _ _ _ HY0.out
      have g7 : Y.cell? ⟨w.heap.size, 7, none⟩ = some (.string vs) := cell_of_row Y _ 7 _ _ _ HY0.out
      have g8 : Y.cell? ⟨w.heap.size, 8, none⟩ = some (.slice rA rn rc) := cell_of_row Y _ 8 _ _ _ HY0.out
      have g9 : Y.cell? ⟨w.heap.size, 9, none⟩ = some (.int .i64 pf) := cell_of_row Y _ 9 _ _ _ HY0.out
      have g10 : Y.cell? ⟨w.heap.size, 10, none⟩ = some (.int .i64 pt) := cell_of_row Y _ 10 _ _ _ HY0.out
      have g11 : Y.cell? ⟨w.heap.size, 11, none⟩ = some (.slice lA ln lc) := cell_of_row Y _ 11 _ _ _ HY0.out
      have q0 : Y.cell? ⟨(w.heap.size + 1), 0, none⟩ = some (.slice none 0 0) := cell_of_row Y _ 0 _ _ _ HY1.out
      have q1 : Y.cell? ⟨(w.heap.size + 1), 1, none⟩ = some (.int .i64 0) := cell_of_row Y _ 1 _ _ _ HY1.out
      have q2 : Y.cell? ⟨(w.heap.size + 1), 2, none⟩ = some (.int .i64 0) := cell_of_row Y _ 2 _ _ _ HY1.out
      have q3 : Y.cell? ⟨(w.heap.size + 1), 3, none⟩ = some (.int .i64 0) := cell_of_row Y _ 3 _ _ _ HY1.out
      have q4 : Y.cell? ⟨(w.heap.size + 1), 4, none⟩ = some (.string ⟨#[]⟩) := cell_of_row Y _ 4 _ _ _ HY1.out
      have q5 : Y.cell? ⟨(w.heap.size + 1), 5, none⟩ = some (.int .i64 0) := cell_of_row Y _ 5 _ _ _ HY1.out
      have q6 : Y.cell? ⟨(w.heap.size + 1), 6, none⟩ = some (.int .i64 0) := cell_of_row Y _ 6 _ _ _ HY1.out
      have q7 : Y.cell? ⟨(w.heap.size + 1), 7, none⟩ = some (.string ⟨#[]⟩) := cell_of_row Y _ 7 _ _ _ HY1.out
      have q8 : Y.cell? ⟨(w.heap.size + 1), 8, none⟩ = some (.slice none 0 0) := cell_of_row Y _ 8 _ _ _ HY1.out
      have q9 : Y.cell? ⟨(w.heap.size + 1), 9, none⟩ = some (.int .i64 0) := cell_of_row Y _ 9 _ _ _ HY1.out
      have q10 : Y.cell? ⟨(w.heap.size + 1), 10, none⟩ = some (.int .i64 0) := cell_of_row Y _ 10 _ _ _ HY1.out
      have q11 : Y.cell? ⟨(w.heap.size + 1), 11, none⟩ = some (.slice none 0 0) := cell_of_row Y _ 11 _ _ _ HY1.out
      have f0 : Y.frozen? ⟨(w.heap.size + 1), 0, none⟩ = false := frozen_of_row Y _ 0 _ _ HY1.out
      have f1 : Y.frozen? ⟨(w.heap.size + 1), 1, none⟩ = false := frozen_of_row Y _ 1 _ _ HY1.out
      have f2 : Y.frozen? ⟨(w.heap.size + 1), 2, none⟩ = false := frozen_of_row Y _ 2 _ _ HY1.out
      have f3 : Y.frozen? ⟨(w.heap.size + 1), 3, none⟩ = false := frozen_of_row Y _ 3 _ _ HY1.out
      have f4 : Y.frozen? ⟨(w.heap.size + 1), 4, none⟩ = false := frozen_of_row Y _ 4 _ _ HY1.out
      have f5 : Y.frozen? ⟨(w.heap.size + 1), 5, none⟩ = false := frozen_of_row Y _ 5 _ _ HY1.out
      have f6 : Y.frozen? ⟨(w.heap.size + 1), 6, none⟩ = false := frozen_of_row Y _ 6 _ _ HY1.out
      have f7 : Y.frozen? ⟨(w.heap.size + 1), 7, none⟩ = false := frozen_of_row Y _ 7 _ _ HY1.out
      have f8 : Y.frozen? ⟨(w.heap.size + 1), 8, none⟩ = false := frozen_of_row Y _ 8 _ _ HY1.out
      have f9 : Y.frozen? ⟨(w.heap.size + 1), 9, none⟩ = false := frozen_of_row Y _ 9 _ _ HY1.out
      have f10 : Y.frozen? ⟨(w.heap.size + 1), 10, none⟩ = false := frozen_of_row Y _ 10 _ _ HY1.out
      have f11 : Y.frozen? ⟨(w.heap.size + 1), 11, none⟩ = false := frozen_of_row Y _ 11 _ _ HY1.out
      have hZ := twelve_set HY1.out (.slice bA bn bc) (.int .i64 k) (.int .i64 0) (.int .i64 n) (.string s) (.int .i64 vk) (.int .i64 vi) (.string vs) (.slice rA rn rc) (.int .i64 pf) (.int .i64 pt) (.slice lA ln lc)
      have hZb := twelve_chg Y (w.heap.size + 1) (.slice bA bn bc) (.int .i64 k) (.int .i64 0) (.int .i64 n) (.string s) (.int .i64 vk) (.int .i64 vi) (.string vs) (.slice rA rn rc) (.int .i64 pf) (.int .i64 pt) (.slice lA ln lc)
      have HZ := Lib.hid hZ
      have HZB := Lib.hid hZb
      clear hZ hZb
      go_wp2_with fail
      generalize ((((((((((((Y.setCell ⟨(w.heap.size + 1), 0, none⟩ (.slice bA bn bc)).setCell ⟨(w.heap.size + 1), 1, none⟩ (.int .i64 k)).setCell ⟨(w.heap.size + 1), 2, none⟩ (.int .i64 0)).setCell ⟨(w.heap.size + 1), 3, none⟩ (.int .i64 n)).setCell ⟨(w.heap.size + 1), 4, none⟩ (.string s)).setCell ⟨(w.heap.size + 1), 5, none⟩ (.int .i64 vk)).setCell ⟨(w.heap.size + 1), 6, none⟩ (.int .i64 vi)).setCell ⟨(w.heap.size + 1), 7, none⟩ (.string vs)).setCell ⟨(w.heap.size + 1), 8, none⟩ (.slice rA rn rc)).setCell ⟨(w.heap.size + 1), 9, none⟩ (.int .i64 pf)).setCell ⟨(w.heap.size + 1), 10, none⟩ (.int .i64 pt)).setCell ⟨(w.heap.size + 1), 11, none⟩ (.slice lA ln lc)) = Z at *
      have y0 : Z.cell? ⟨(w.heap.size + 1), 0, none⟩ = some (.slice bA bn bc) := cell_of_row Z _ 0 _ _ _ HZ.out
      have y1 : Z.cell? ⟨(w.heap.size + 1), 1, none⟩ = some (.int .i64 k) := cell_of_row Z _ 1 _ _ _ HZ.out
      have y2 : Z.cell? ⟨(w.heap.size + 1), 2, none⟩ = some (.int .i64 0) := cell_of_row Z _ 2 _ _ _ HZ.out
      have y3 : Z.cell? ⟨(w.heap.size + 1), 3, none⟩ = some (.int .i64 n) := cell_of_row Z _ 3 _ _ _ HZ.out
      have y4 : Z.cell? ⟨(w.heap.size + 1), 4, none⟩ = some (.string s) := cell_of_row Z _ 4 _ _ _ HZ.out
      have y5 : Z.cell? ⟨(w.heap.size + 1), 5, none⟩ = some (.int .i64 vk) := cell_of_row Z _ 5 _ _ _ HZ.out
      have y6 : Z.cell? ⟨(w.heap.size + 1), 6, none⟩ = some (.int .i64 vi) := cell_of_row Z _ 6 _ _ _ HZ.out
      have y7 : Z.cell? ⟨(w.heap.size + 1), 7, none⟩ = some (.string vs) := cell_of_row Z _ 7 _ _ _ HZ.out
      have y8 : Z.cell? ⟨(w.heap.size + 1), 8, none⟩ = some (.slice rA rn rc) := cell_of_row Z _ 8 _ _ _ HZ.out
      have y9 : Z.cell? ⟨(w.heap.size + 1), 9, none⟩ = some (.int .i64 pf) := cell_of_row Z _ 9 _ _ _ HZ.out
      have y10 : Z.cell? ⟨(w.heap.size + 1), 10, none⟩ = some (.int .i64 pt) := cell_of_row Z _ 10 _ _ _ HZ.out
      have y11 : Z.cell? ⟨(w.heap.size + 1), 11, none⟩ = some (.slice lA ln lc) := cell_of_row Z _ 11 _ _ _ HZ.out
      exact bodyPost_ret (v := .agg #[.slice bA bn bc, .int .i64 k, .int .i64 0, .int .i64 n, .string s, .int .i64 vk, .int .i64 vi, .string vs, .slice rA rn rc, .int .i64 pf, .int .i64 pt, .slice lA ln lc]) (by simp [results, Tryz.results133, go_sem, y0, y1, y2, y3, y4, y5, y6, y7, y8, y9, y10, y11]) rfl ⟨n, ⟨s, vk, vi, vs, rA, rn, rc, pf, pt, lA, ln, lc⟩, rfl, rfl, HYB.out.trans (HZB.out.below HYB.out.size (fun i (hi : i = w.heap.size + 1) => by omega))⟩
    case neg =>
      have hx0 : (pf, pt) = (0, 0) := by
        have := decP_err (l := l) (k := a) (by rw [hd]; exact he')
        rw [hd] at this
        exact this
      rw [if_neg he']
      obtain ⟨rfl, rfl⟩ := Prod.mk.inj hx0
      obtain ⟨V, hV⟩ : ∃ V, V = (w.alloc (.cells #[.slice bA bn bc, .int .i64 a, .int .i64 0, .int .i64 n, .string s, .int .i64 vk, .int .i64 vi, .string vs, .slice rA rn rc, .int .i64 p1, .int .i64 p2, .slice lA ln lc] 125)).alloc (.cells #[.slice none 0 0, .int .i64 0, .int .i64 0, .int .i64 0, .string ⟨#[]⟩, .int .i64 0, .int .i64 0, .string ⟨#[]⟩, .slice none 0 0, .int .i64 0, .int .i64 0, .slice none 0 0] 125) := ⟨_, rfl⟩
      have hVb : Below w.heap.size w V := by rw [hV]; exact ((Below.of_alloc _).alloc (by first | (simp; done) | (simp; omega)) _)
      have hVs : V.heap.size = w.heap.size + 2 := by rw [hV]; simp
      have hV0 : V.heap[w.heap.size]? = some (.cells #[.slice bA bn bc, .int .i64 a, .int .i64 0, .int .i64 n, .string s, .int .i64 vk, .int .i64 vi, .string vs, .slice rA rn rc, .int .i64 p1, .int .i64 p2, .slice lA ln lc] 125 (0, 0)) := by
        rw [hV]
        exact ((Below.of_alloc _).block w.heap.size (by simp)).trans (heap_alloc_new _ _)
      have hV1 : V.heap[(w.heap.size + 1)]? = some (.cells #[.slice none 0 0, .int .i64 0, .int .i64 0, .int .i64 0, .string ⟨#[]⟩, .int .i64 0, .int .i64 0, .string ⟨#[]⟩, .slice none 0 0, .int .i64 0, .int .i64 0, .slice none 0 0] 125 (0, 0)) := by
        rw [hV]
        have := heap_alloc_new (w.alloc (.cells #[.slice bA bn bc, .int .i64 a, .int .i64 0, .int .i64 n, .string s, .int .i64 vk, .int .i64 vi, .string vs, .slice rA rn rc, .int .i64 p1, .int .i64 p2, .slice lA ln lc] 125)) (.cells #[.slice none 0 0, .int .i64 0, .int .i64 0, .int .i64 0, .string ⟨#[]⟩, .int .i64 0, .int .i64 0, .string ⟨#[]⟩, .slice none 0 0, .int .i64 0, .int .i64 0, .slice none 0 0] 125)
        simpa using this
      have HV0 := Lib.hid hV0
      have HV1 := Lib.hid hV1
      have HVB := Lib.hid hVb
      clear hV0 hV1 hVb
      simp only [inV] at hz ⊢
      simp only [if_true] at hz
      go_enter Tryz.func133, Tryz.ntmps133
      go_wp2_with fail
      rw [← hV]
      clear hV
      (with_reducible refine (KI _ (RdB.below hv HVB.out)).mono ?_)
      rintro _ W2 ⟨rfl, hb⟩
      simp only
      obtain ⟨W3, hW3⟩ : ∃ W3, W3 = W2.alloc (.cells #[.int .i64 0, .int .i64 0] 24) := ⟨_, rfl⟩
      have hb3 : Below V.heap.size V W3 := by rw [hW3]; exact hb.alloc hb.size _
      have hP3 : W3.heap[W2.heap.size]? = some (.cells #[.int .i64 0, .int .i64 0] 24 (0, 0)) := by rw [hW3]; exact heap_alloc_new _ _
      have t0 : W3.cell? ⟨W2.heap.size, 0, none⟩ = some (.int .i64 0) := cell_of_row W3 _ 0 _ _ _ hP3
      have t1 : W3.cell? ⟨W2.heap.size, 1, none⟩ = some (.int .i64 0) := cell_of_row W3 _ 1 _ _ _ hP3
      have HB2 : Hid (Below w.heap.size w W3) := Lib.hid (HVB.out.trans (hb3.mono HVB.out.size))
      have hW0 := (hb3.block w.heap.size (by omega)).trans HV0.out
      have hW1 := (hb3.block (w.heap.size + 1) (by omega)).trans HV1.out
      have HW0 := Lib.hid hW0
      have HW1 := Lib.hid hW1
      have hs2 : w.heap.size + 2 ≤ W3.heap.size := by have := hb3.size; omega
      clear hb hb3 KI hW0 hW1 hP3
      go_upto_region 4 with (fail)
      rw [← hW3]
      clear hW3
      have hq := hz e' e' W3 rfl
      obtain ⟨X, hX⟩ : ∃ X, X = (W3.alloc (.cells #[.slice bA bn bc, .int .i64 a, .int .i64 e', .int .i64 n, .string s, .int .i64 vk, .int .i64 vi, .string vs, .slice rA rn rc, .int .i64 p1, .int .i64 p2, .slice lA ln lc] 125)).alloc (.cells #[.slice bA bn bc, .int .i64 a, .int .i64 e', .int .i64 0, .string ⟨#[]⟩, .int .i64 0, .int .i64 0, .string ⟨#[]⟩, .slice none 0 0, .int .i64 0, .int .i64 0, .slice none 0 0] 125) := ⟨_, rfl⟩
      have hXb : Below W3.heap.size W3 X := by rw [hX]; exact (Below.of_alloc _).alloc (by simp) _
      have HX1 := Lib.hid ((hXb.block (w.heap.size + 1) (by omega)).trans HW1.out)
      have HXB := Lib.hid (HB2.out.trans (hXb.mono HB2.out.size))
      simp only [inBox, InR.zero] at hq
      rw [← hX] at hq
      clear hz hX hd hXb t0 t1
      have g0 : W3.cell? ⟨w.heap.size, 0, none⟩ = some (.slice bA bn bc) := cell_of_row W3 _ 0 _ _ _ HW0.out
      have g1 : W3.cell? ⟨w.heap.size, 1, none⟩ = some (.int .i64 a) := cell_of_row W3 _ 1 _ _ _ HW0.out
      have g2 : W3.cell? ⟨w.heap.size, 2, none⟩ = some (.int .i64 0) := cell_of_row W3 _ 2 _ _ _ HW0.out
      have g3 : W3.cell? ⟨w.heap.size, 3, none⟩ = some (.int .i64 n) := cell_of_row W3 _ 3 _ _ _ HW0.out
      have g4 : W3.cell? ⟨w.heap.size, 4, none⟩ = some (.string s) := cell_of_row W3 _ 4 _ _ _ HW0.out
      have g5 : W3.cell? ⟨w.heap.size, 5, none⟩ = some (.int .i64 vk) := cell_of_row W3 _ 5 _ _ _ HW0.out
      have g6 : W3.cell? ⟨w.heap.size, 6, none⟩ = some (.int .i64 vi) := cell_of_row W3 _ 6 _ _ _ HW0.out
      have g7 : W3.cell? ⟨w.heap.size, 7, none⟩ = some (.string vs) := cell_of_row W3 _ 7 _ _ _ HW0.out
      have g8 : W3.cell? ⟨w.heap.size, 8, none⟩ = some (.slice rA rn rc) := cell_of_row W3 _ 8 _ _ _ HW0.out
      have g9 : W3.cell? ⟨w.heap.size, 9, none⟩ = some (.int .i64 p1) := cell_of_row W3 _ 9 _ _ _ HW0.out
      have g10 : W3.cell? ⟨w.heap.size, 10, none⟩ = some (.int .i64 p2) := cell_of_row W3 _ 10 _ _ _ HW0.out
      have g11 : W3.cell? ⟨w.heap.size, 11, none⟩ = some (.slice lA ln lc) := cell_of_row W3 _ 11 _ _ _ HW0.out
      go_wp2_with fail
      (with_reducible refine hq.mono ?_)
      rintro _ w4 ⟨rfl, hw4⟩
      rw [hw4]
      clear hw4 w4 hq g0 g1 g2 g3 g4 g5 g6 g7 g8 g9 g10 g11
      have q0 : X.cell? ⟨(w.heap.size + 1), 0, none⟩ = some (.slice none 0 0) := cell_of_row X _ 0 _ _ _ HX1.out
      have q1 : X.cell? ⟨(w.heap.size + 1), 1, none⟩ = some (.int .i64 0) := cell_of_row X _ 1 _ _ _ HX1.out
      have q2 : X.cell? ⟨(w.heap.size + 1), 2, none⟩ = some (.int .i64 0) := cell_of_row X _ 2 _ _ _ HX1.out
      have q3 : X.cell? ⟨(w.heap.size + 1), 3, none⟩ = some (.int .i64 0) := cell_of_row X _ 3 _ _ _ HX1.out
      have q4 : X.cell? ⟨(w.heap.size + 1), 4, none⟩ = some (.string ⟨#[]⟩) := cell_of_row X _ 4 _ _ _ HX1.out
      have q5 : X.cell? ⟨(w.heap.size + 1), 5, none⟩ = some (.int .i64 0) := cell_of_row X _ 5 _ _ _ HX1.out
      have q6 : X.cell? ⟨(w.heap.size + 1), 6, none⟩ = some (.int .i64 0) := cell_of_row X _ 6 _ _ _ HX1.out
      have q7 : X.cell? ⟨(w.heap.size + 1), 7, none⟩ = some (.string ⟨#[]⟩) := cell_of_row X _ 7 _ _ _ HX1.out
      have q8 : X.cell? ⟨(w.heap.size + 1), 8, none⟩ = some (.slice none 0 0) := cell_of_row X _ 8 _ _ _ HX1.out
      have q9 : X.cell? ⟨(w.heap.size + 1), 9, none⟩ = some (.int .i64 0) := cell_of_row X _ 9 _ _ _ HX1.out
      have q10 : X.cell? ⟨(w.heap.size + 1), 10, none⟩ = some (.int .i64 0) := cell_of_row X _ 10 _ _ _ HX1.out
      have q11 : X.cell? ⟨(w.heap.size + 1), 11, none⟩ = some (.slice none 0 0) := cell_of_row X _ 11 _ _ _ HX1.out
      have f0 : X.frozen? ⟨(w.heap.size + 1), 0, none⟩ = false := frozen_of_row X _ 0 _ _ HX1.out
      have f1 : X.frozen? ⟨(w.heap.size + 1), 1, none⟩ = false := frozen_of_row X _ 1 _ _ HX1.out
      have f2 : X.frozen? ⟨(w.heap.size + 1), 2, none⟩ = false := frozen_of_row X _ 2 _ _ HX1.out
      have f3 : X.frozen? ⟨(w.heap.size + 1), 3, none⟩ = false := frozen_of_row X _ 3 _ _ HX1.out
      have f4 : X.frozen? ⟨(w.heap.size + 1), 4, none⟩ = false := frozen_of_row X _ 4 _ _ HX1.out
      have f5 : X.frozen? ⟨(w.heap.size + 1), 5, none⟩ = false := frozen_of_row X _ 5 _ _ HX1.out
      have f6 : X.frozen? ⟨(w.heap.size + 1), 6, none⟩ = false := frozen_of_row X _ 6 _ _ HX1.out
      have f7 : X.frozen? ⟨(w.heap.size + 1), 7, none⟩ = false := frozen_of_row X _ 7 _ _ HX1.out
      have f8 : X.frozen? ⟨(w.heap.size + 1), 8, none⟩ = false := frozen_of_row X _ 8 _ _ HX1.out
      have f9 : X.frozen? ⟨(w.heap.size + 1), 9, none⟩ = false := frozen_of_row X _ 9 _ _ HX1.out
      have f10 : X.frozen? ⟨(w.heap.size + 1), 10, none⟩ = false := frozen_of_row X _ 10 _ _ HX1.out
      have f11 : X.frozen? ⟨(w.heap.size + 1), 11, none⟩ = false := frozen_of_row X _ 11 _ _ HX1.out
      have hZ := twelve_set HX1.out (.slice bA bn bc) (.int .i64 a) (.int .i64 e') (.int .i64 0) (.string ⟨#[]⟩) (.int .i64 0) (.int .i64 0) (.string ⟨#[]⟩) (.slice none 0 0) (.int .i64 0) (.int .i64 0) (.slice none 0 0)
      have hZb := twelve_chg X (w.heap.size + 1) (.slice bA bn bc) (.int .i64 a) (.int .i64 e') (.int .i64 0) (.string ⟨#[]⟩) (.int .i64 0) (.int .i64 0) (.string ⟨#[]⟩) (.slice none 0 0) (.int .i64 0) (.int .i64 0) (.slice none 0 0)
      have HZ := Lib.hid hZ
      have HZB := Lib.hid hZb
      clear hZ hZb
      go_wp2_with fail
      generalize ((((((((((((X.setCell ⟨(w.heap.size + 1), 0, none⟩ (.slice bA bn bc)).setCell ⟨(w.heap.size + 1), 1, none⟩ (.int .i64 a)).setCell ⟨(w.heap.size + 1), 2, none⟩ (.int .i64 e')).setCell ⟨(w.heap.size + 1), 3, none⟩ (.int .i64 0)).setCell ⟨(w.heap.size + 1), 4, none⟩ (.string ⟨#[]⟩)).setCell ⟨(w.heap.size + 1), 5, none⟩ (.int .i64 0)).setCell ⟨(w.heap.size + 1), 6, none⟩ (.int .i64 0)).setCell ⟨(w.heap.size + 1), 7, none⟩ (.string ⟨#[]⟩)).setCell ⟨(w.heap.size + 1), 8, none⟩ (.slice none 0 0)).setCell ⟨(w.heap.size + 1), 9, none⟩ (.int .i64 0)).setCell ⟨(w.heap.size + 1), 10, none⟩ (.int .i64 0)).setCell ⟨(w.heap.size + 1), 11, none⟩ (.slice none 0 0)) = Z at *
      have y0 : Z.cell? ⟨(w.heap.size + 1), 0, none⟩ = some (.slice bA bn bc) := cell_of_row Z _ 0 _ _ _ HZ.out
      have y1 : Z.cell? ⟨(w.heap.size + 1), 1, none⟩ = some (.int .i64 a) := cell_of_row Z _ 1 _ _ _ HZ.out
      have y2 : Z.cell? ⟨(w.heap.size + 1), 2, none⟩ = some (.int .i64 e') := cell_of_row Z _ 2 _ _ _ HZ.out
      have y3 : Z.cell? ⟨(w.heap.size + 1), 3, none⟩ = some (.int .i64 0) := cell_of_row Z _ 3 _ _ _ HZ.out
      have y4 : Z.cell? ⟨(w.heap.size + 1), 4, none⟩ = some (.string ⟨#[]⟩) := cell_of_row Z _ 4 _ _ _ HZ.out
      have y5 : Z.cell? ⟨(w.heap.size + 1), 5, none⟩ = some (.int .i64 0) := cell_of_row Z _ 5 _ _ _ HZ.out
      have y6 : Z.cell? ⟨(w.heap.size + 1), 6, none⟩ = some (.int .i64 0) := cell_of_row Z _ 6 _ _ _ HZ.out
      have y7 : Z.cell? ⟨(w.heap.size + 1), 7, none⟩ = some (.string ⟨#[]⟩) := cell_of_row Z _ 7 _ _ _ HZ.out
      have y8 : Z.cell? ⟨(w.heap.size + 1), 8, none⟩ = some (.slice none 0 0) := cell_of_row Z _ 8 _ _ _ HZ.out
      have y9 : Z.cell? ⟨(w.heap.size + 1), 9, none⟩ = some (.int .i64 0) := cell_of_row Z _ 9 _ _ _ HZ.out
      have y10 : Z.cell? ⟨(w.heap.size + 1), 10, none⟩ = some (.int .i64 0) := cell_of_row Z _ 10 _ _ _ HZ.out
      have y11 : Z.cell? ⟨(w.heap.size + 1), 11, none⟩ = some (.slice none 0 0) := cell_of_row Z _ 11 _ _ _ HZ.out
      exact bodyPost_ret (v := .agg #[.slice bA bn bc, .int .i64 a, .int .i64 e', .int .i64 0, .string ⟨#[]⟩, .int .i64 0, .int .i64 0, .string ⟨#[]⟩, .slice none 0 0, .int .i64 0, .int .i64 0, .slice none 0 0]) (by simp [results, Tryz.results133, go_sem, y0, y1, y2, y3, y4, y5, y6, y7, y8, y9, y10, y11]) rfl ⟨0, InR.zero, rfl, rfl, HXB.out.trans (HZB.out.below HXB.out.size (fun i (hi : i = w.heap.size + 1) => by omega))⟩
end Go.Proofs.YtacjiocffbgkkaaGreat
