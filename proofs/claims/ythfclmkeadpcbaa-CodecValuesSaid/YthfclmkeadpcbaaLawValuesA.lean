/-
  The walk of CodecValues.
-/
import Derived.Test.YthfclmkeadpcbaaLaw2
import Derived.Test.YthfclmkeadpcbaaCodecN
namespace Go.Proofs.Ythfclmkeadpcbaa
open Go.ChangeShapes Go.WideShapes Go.ChangeAt Go.RowKit Go.Lib

set_option maxRecDepth 100000 in
set_option maxHeartbeats 2000000 in
theorem lawValues_yes (v : Value) (l : List UInt8) (kd i : Int) (s : ByteArray) (k : Int) (w : World) (i1 : -9223372036854775808 ≤ i) (i2 : i ≤ 9223372036854775807) (hs : s.size ≤ maxLen) (hx3 : kd = 3 → i = 0 ∨ i = 1) (hsz : s.size ≤ 200)
    (hv : RdB w (· < w.heap.size) v l) (hl : l.length ≤ 140737488353000) (hval : validV ⟨kd, i, s⟩ = true) :
    Calls Try.prog 8 #[v, .agg #[.int .i64 kd, .int .i64 i, .string s], .int .i64 k] w fun e w' => e = .returned (.bool true) ∧ Below w.heap.size w w' := by
  have hI := fun (W : World) (h : Below w.heap.size w W) => value_any v l k W (hv.below h)
  have hR := fun (W : World) (h : Below w.heap.size w W) => refValue_any v l k W (hv.below h)
  generalize decV l k = r at *
  obtain ⟨a, c, d⟩ := r
  have HI := Lib.hid hI
  have HR := Lib.hid hR
  have HV := Lib.hid hval
  clear hI hR hval
  go_enter Try.func8, Try.ntmps8
  go_wp2_with fail
  (with_reducible refine (HI.out _ (below1 _)).mono ?_)
  rintro _ w1 ⟨rfl, hb1⟩
  have hB1 : Below w.heap.size w w1 := (below1 _).trans (hb1.mono (by simp))
  go_wp2_with fail
  (with_reducible refine (HR.out _ (hB1.alloc hB1.size _)).mono ?_)
  rintro _ w2 ⟨rfl, hb2⟩
  have hs1 := hb1.size
  have hs2 := hb2.size
  rw [World.size_alloc] at hs1 hs2
  have hB2 : Below w.heap.size w w2 := (hB1.alloc hB1.size _).trans (hb2.mono (by simp; omega))
  have hS2 : w2.heap.size < (w2.alloc (.cells #[.int .i64 a.kind, .int .i64 a.int, .string a.text] 37)).heap.size := by simp
  have hBB1 : Below (w1.alloc (.cells #[.int .i64 a.kind, .int .i64 a.int, .string a.text] 37)).heap.size (w1.alloc (.cells #[.int .i64 a.kind, .int .i64 a.int, .string a.text] 37)) (w2.alloc (.cells #[.int .i64 a.kind, .int .i64 a.int, .string a.text] 37)) := hb2.alloc hb2.size _
  have hBB0 : Below (w.alloc (.cells #[.int .i64 kd, .int .i64 i, .string s] 37)).heap.size (w.alloc (.cells #[.int .i64 kd, .int .i64 i, .string s] 37)) (w2.alloc (.cells #[.int .i64 a.kind, .int .i64 a.int, .string a.text] 37)) := (hb1.alloc hb1.size _).trans (hBB1.mono (by simp; omega))
  have c0 := (hBB0.cell (p := ⟨w.heap.size, 0, none⟩) (by simp)).trans (box_cell w _ _ 0 rfl)
  have c1 := (hBB0.cell (p := ⟨w.heap.size, 1, none⟩) (by simp)).trans (box_cell w _ _ 1 rfl)
  have c2 := (hBB0.cell (p := ⟨w.heap.size, 2, none⟩) (by simp)).trans (box_cell w _ _ 2 rfl)
  have c3 := (hBB1.cell (p := ⟨w1.heap.size, 0, none⟩) (by simp)).trans (box_cell w1 _ _ 0 rfl)
  have c4 := (hBB1.cell (p := ⟨w1.heap.size, 1, none⟩) (by simp)).trans (box_cell w1 _ _ 1 rfl)
  have c5 := (hBB1.cell (p := ⟨w1.heap.size, 2, none⟩) (by simp)).trans (box_cell w1 _ _ 2 rfl)
  have c6 := box_cell w2 #[.int .i64 a.kind, .int .i64 a.int, .string a.text] 37 0 rfl
  have c7 := box_cell w2 #[.int .i64 a.kind, .int .i64 a.int, .string a.text] 37 1 rfl
  have c8 := box_cell w2 #[.int .i64 a.kind, .int .i64 a.int, .string a.text] 37 2 rfl
  have hB3 : Below w.heap.size w (w2.alloc (.cells #[.int .i64 a.kind, .int .i64 a.int, .string a.text] 37)) := hB2.alloc hB2.size _
  go_wp2_with fail
  generalize hW : w2.alloc (.cells #[.int .i64 a.kind, .int .i64 a.int, .string a.text] 37) = W at *
  have hz0 : w.heap.size < W.heap.size := by omega
  have hz1 : w1.heap.size < W.heap.size := by omega
  clear hW hBB0 hBB1 hb1 hb2 hB1 hB2 HI HR
  go_region_held3 (fun w' => w'.cell? ⟨w.heap.size, 0, none⟩ = some (.int .i64 kd) ∧ w'.cell? ⟨w.heap.size, 1, none⟩ = some (.int .i64 i) ∧ w'.cell? ⟨w.heap.size, 2, none⟩ = some (.string s) ∧ w'.cell? ⟨w1.heap.size, 0, none⟩ = some (.int .i64 a.kind) ∧ w'.cell? ⟨w1.heap.size, 1, none⟩ = some (.int .i64 a.int) ∧ w'.cell? ⟨w1.heap.size, 2, none⟩ = some (.string a.text) ∧ w'.cell? ⟨w2.heap.size, 0, none⟩ = some (.int .i64 a.kind) ∧ w'.cell? ⟨w2.heap.size, 1, none⟩ = some (.int .i64 a.int) ∧ w'.cell? ⟨w2.heap.size, 2, none⟩ = some (.string a.text))
    (first
      | go_keep
      | (go_split_ands; refine ⟨?_, ?_, ?_, ?_, ?_, ?_, ?_, ?_, ?_⟩ <;> (refine (hb7.cell ?_).trans ?_ <;> first | assumption | (simp; omega)))
      | (go_split_ands; refine ⟨?_, ?_, ?_, ?_, ?_, ?_, ?_, ?_, ?_⟩ <;> (refine (hb5.cell ?_).trans ?_ <;> first | assumption | (simp; omega)))
      | (go_split_ands; refine ⟨?_, ?_, ?_, ?_, ?_, ?_, ?_, ?_, ?_⟩ <;> (refine (hb4.cell ?_).trans ?_ <;> first | assumption | (simp; omega))))
    (first
      | (go_at_call 23; ((with_reducible refine (refValidValue_any kd i s _ hs).mono ?_)); rw [HV.out]; rintro e w3 ⟨rfl, rfl⟩; have hs3 : W.heap.size + 1 = (W.alloc (.cells #[.int .i64 kd, .int .i64 i, .string s] 37)).heap.size := by simp)
      | (go_at_call 25; ((with_reducible refine (putValue_any v l ⟨kd, i, s⟩ _ i1 i2 ?_ ?_).mono ?_)); (exact hv.below (hB3.alloc hB3.size _).drew); (simp only; omega); rintro e w4 ⟨v4, rfl, ho4, hb4⟩; have hs4 : W.heap.size ≤ w4.heap.size := Nat.le_trans (by simp) hb4.size)
      | (go_at_call 36; ((with_reducible refine (refPutValue_any v l ⟨kd, i, s⟩ _ i1 i2 hx3 ?_ ?_).mono ?_)); (exact (hv.below (hB3.alloc hB3.size _).drew).below hb4); (simp only; omega); rintro e w5 ⟨v5, rfl, ho5, hb5⟩; have hs5 : W.heap.size ≤ w5.heap.size := Nat.le_trans hs4 hb5.size)
      | (go_at_call 13; ((with_reducible refine (equal_same v4 v5 _ _ _ _ (ho4.rd.below hb5) ho5.rd).mono ?_)); rintro e w6 ⟨rfl, rfl⟩)
      | (go_at_call 16; ((with_reducible refine (works_any _).mono ?_)); rintro e w7 ⟨rfl, hb7⟩))
  go_wp2
  go_ret
  exact ⟨rfl, (hB3.alloc hB3.size _).drew.trans ((hb4.trans ((hb5.trans (hb7.mono hb5.size)).mono hb4.size)).mono (Nat.le_trans hB3.size (by simp)))⟩

end Go.Proofs.Ythfclmkeadpcbaa
