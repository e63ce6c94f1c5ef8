/-
  The walk of CodecValues.
-/
import Derived.Test.YthfclmkeadpcbaaLaw2
import Derived.Test.YthfclmkeadpcbaaMem3
import Derived.Test.YthfclmkeadpcbaaCodecN
namespace Go.Proofs.Ythfclmkeadpcbaa
open Go.ChangeShapes Go.WideShapes Go.ChangeAt Go.RowKit Go.Lib

set_option maxRecDepth 100000 in
set_option maxHeartbeats 2000000 in
theorem lawValues_no (v : Value) (l : List UInt8) (kd i : Int) (s : ByteArray) (k : Int) (w : World) (hs : s.size ≤ maxLen)
    (hv : RdB w (· < w.heap.size) v l) (hval : validV ⟨kd, i, s⟩ = false) :
    Calls Try.prog 8 #[v, .agg #[.int .i64 kd, .int .i64 i, .string s], .int .i64 k] w fun e w' => e = .returned (.bool true) ∧ Below w.heap.size w w' := by
  have hI := fun (W : World) (h : Below w.heap.size w W) => value_any v l k W (hv.below h)
  have hR := fun (W : World) (h : Below w.heap.size w W) => refValue_any v l k W (hv.below h)
  generalize decV l k = r at *
  obtain ⟨a, c, d⟩ := r
  have HI := Lib.hid hI
  have HR := Lib.hid hR
  have HV := Lib.hid hval
  clear hI hR hval
  go_enter Try.func8, Try.ntmps8
  go_wp2_with fail
  (with_reducible refine (HI.out _ (below1 _)).mono ?_)
  rintro _ w1 ⟨rfl, hb1⟩
  have hB1 : Below w.heap.size w w1 := (below1 _).trans (hb1.mono (by simp))
  go_wp2_with fail
  (with_reducible refine (HR.out _ (hB1.alloc hB1.size _)).mono ?_)
  rintro _ w2 ⟨rfl, hb2⟩
  have hs1 := hb1.size
  have hs2 := hb2.size
  rw [World.size_alloc] at hs1 hs2
  have hB2 : Below w.heap.size w w2 := (hB1.alloc hB1.size _).trans (hb2.mono (by simp; omega))
  have hS2 : w2.heap.size < (w2.alloc (.cells #[.int .i64 a.kind, .int .i64 a.int, .string a.text] 37)).heap.size := by simp
  have hBB1 : Below (w1.alloc (.cells #[.int .i64 a.kind, .int .i64 a.int, .string a.text] 37)).heap.size (w1.alloc (.cells #[.int .i64 a.kind, .int .i64 a.int, .string a.text] 37)) (w2.alloc (.cells #[.int .i64 a.kind, .int .i64 a.int, .string a.text] 37)) := hb2.alloc hb2.size _
  have hBB0 : Below (w.alloc (.cells #[.int .i64 kd, .int .i64 i, .string s] 37)).heap.size (w.alloc (.cells #[.int .i64 kd, .int .i64 i, .string s] 37)) (w2.alloc (.cells #[.int .i64 a.kind, .int .i64 a.int, .string a.text] 37)) := (hb1.alloc hb1.size _).trans (hBB1.mono (by simp; omega))
  have c0 := (hBB0.cell (p := ⟨w.heap.size, 0, none⟩) (by simp)).trans (box_cell w _ _ 0 rfl)
  have c1 := (hBB0.cell (p := ⟨w.heap.size, 1, none⟩) (by simp)).trans (box_cell w _ _ 1 rfl)
  have c2 := (hBB0.cell (p := ⟨w.heap.size, 2, none⟩) (by simp)).trans (box_cell w _ _ 2 rfl)
  have c3 := (hBB1.cell (p := ⟨w1.heap.size, 0, none⟩) (by simp)).trans (box_cell w1 _ _ 0 rfl)
  have c4 := (hBB1.cell (p := ⟨w1.heap.size, 1, none⟩) (by simp)).trans (box_cell w1 _ _ 1 rfl)
  have c5 := (hBB1.cell (p := ⟨w1.heap.size, 2, none⟩) (by simp)).trans (box_cell w1 _ _ 2 rfl)
  have c6 := box_cell w2 #[.int .i64 a.kind, .int .i64 a.int, .string a.text] 37 0 rfl
  have c7 := box_cell w2 #[.int .i64 a.kind, .int .i64 a.int, .string a.text] 37 1 rfl
  have c8 := box_cell w2 #[.int .i64 a.kind, .int .i64 a.int, .string a.text] 37 2 rfl
  have hB3 : Below w.heap.size w (w2.alloc (.cells #[.int .i64 a.kind, .int .i64 a.int, .string a.text] 37)) := hB2.alloc hB2.size _
  go_wp2_with fail
  generalize hW : w2.alloc (.cells #[.int .i64 a.kind, .int .i64 a.int, .string a.text] 37) = W at *
  have hz0 : w.heap.size < W.heap.size := by omega
  have hz1 : w1.heap.size < W.heap.size := by omega
  clear hW hBB0 hBB1 hb1 hb2 hB1 hB2 HI HR
  refine wp_region_noPanic ?_
  refine wp_region_held_drew (S := (fun w' => w'.cell? ⟨w.heap.size, 0, none⟩ = some (.int .i64 kd) ∧ w'.cell? ⟨w.heap.size, 1, none⟩ = some (.int .i64 i) ∧ w'.cell? ⟨w.heap.size, 2, none⟩ = some (.string s) ∧ w'.cell? ⟨w1.heap.size, 0, none⟩ = some (.int .i64 a.kind) ∧ w'.cell? ⟨w1.heap.size, 1, none⟩ = some (.int .i64 a.int) ∧ w'.cell? ⟨w1.heap.size, 2, none⟩ = some (.string a.text) ∧ w'.cell? ⟨w2.heap.size, 0, none⟩ = some (.int .i64 a.kind) ∧ w'.cell? ⟨w2.heap.size, 1, none⟩ = some (.int .i64 a.int) ∧ w'.cell? ⟨w2.heap.size, 2, none⟩ = some (.string a.text))) (by kernel_rfl) ?_ (fun hHeld => ?_)
  · go_keep
  refine heldTake 0 (some 27) (v := ?_) rfl rfl (by kernel_rfl) (by kernel_rfl) (by kernel_rfl) (by rfl) hHeld (fun _ _ _ h => h) ?_ ?_
  rotate_left
  · intro w' hSw; (try dsimp only at hSw); go_simp <;> with_reducible rfl
  simp only [Act.put, List.setIfInBounds_toArray, List.set_cons_zero, List.set_cons_succ]
  refine heldTake 1 (some 28) (v := ?_) rfl rfl (by kernel_rfl) (by kernel_rfl) (by kernel_rfl) (by rfl) hHeld (fun _ _ _ h => h) ?_ ?_
  rotate_left
  · intro w' hSw; (try dsimp only at hSw); go_simp <;> with_reducible rfl
  simp only [Act.put, List.setIfInBounds_toArray, List.set_cons_zero, List.set_cons_succ]
  refine heldTake 2 (some 29) (v := ?_) rfl rfl (by kernel_rfl) (by kernel_rfl) (by kernel_rfl) (by rfl) hHeld (fun _ _ _ h => h) ?_ ?_
  rotate_left
  · intro w' hSw; (try dsimp only at hSw); go_simp <;> with_reducible rfl
  simp only [Act.put, List.setIfInBounds_toArray, List.set_cons_zero, List.set_cons_succ]
  refine heldTake 3 (some 30) (v := ?_) rfl rfl (by kernel_rfl) (by kernel_rfl) (by kernel_rfl) (by rfl) hHeld (fun _ _ _ h => h) ?_ ?_
  rotate_left
  · intro w' hSw; (try dsimp only at hSw); go_simp <;> with_reducible rfl
  simp only [Act.put, List.setIfInBounds_toArray, List.set_cons_zero, List.set_cons_succ]
  refine heldTake 4 (some 31) (v := ?_) rfl rfl (by kernel_rfl) (by kernel_rfl) (by kernel_rfl) (by rfl) hHeld (fun _ _ _ h => h) ?_ ?_
  rotate_left
  · intro w' hSw; (try dsimp only at hSw); go_simp <;> with_reducible rfl
  simp only [Act.put, List.setIfInBounds_toArray, List.set_cons_zero, List.set_cons_succ]
  refine heldTake 5 (some 32) (v := ?_) rfl rfl (by kernel_rfl) (by kernel_rfl) (by kernel_rfl) (by rfl) hHeld (fun _ _ _ h => h) ?_ ?_
  rotate_left
  · intro w' hSw; (try dsimp only at hSw); go_simp <;> with_reducible rfl
  simp only [Act.put, List.setIfInBounds_toArray, List.set_cons_zero, List.set_cons_succ]
  refine heldTake 6 (some 33) (v := ?_) rfl rfl (by kernel_rfl) (by kernel_rfl) (by kernel_rfl) (by rfl) hHeld (fun _ _ _ h => h) ?_ ?_
  rotate_left
  · intro w' hSw; (try dsimp only at hSw); go_simp <;> with_reducible rfl
  simp only [Act.put, List.setIfInBounds_toArray, List.set_cons_zero, List.set_cons_succ]
  refine heldTake 7 (some 34) (v := ?_) rfl rfl (by kernel_rfl) (by kernel_rfl) (by kernel_rfl) (by rfl) hHeld (fun _ _ _ h => h) ?_ ?_
  rotate_left
  · intro w' hSw; (try dsimp only at hSw); go_simp <;> with_reducible rfl
  simp only [Act.put, List.setIfInBounds_toArray, List.set_cons_zero, List.set_cons_succ]
  refine heldTake 8 (some 35) (v := ?_) rfl rfl (by kernel_rfl) (by kernel_rfl) (by kernel_rfl) (by rfl) hHeld (fun _ _ _ h => h) ?_ ?_
  rotate_left
  · intro w' hSw; (try dsimp only at hSw); go_simp <;> with_reducible rfl
  simp only [Act.put, List.setIfInBounds_toArray, List.set_cons_zero, List.set_cons_succ]
  refine heldTake 9 (some 36) (v := ?_) rfl rfl (by kernel_rfl) (by kernel_rfl) (by kernel_rfl) (by rfl) hHeld (fun _ _ _ h => h) ?_ ?_
  rotate_left
  · intro w' hSw; (try dsimp only at hSw); go_simp <;> with_reducible rfl
  simp only [Act.put, List.setIfInBounds_toArray, List.set_cons_zero, List.set_cons_succ]
  refine heldTake 10 (some 37) (v := ?_) rfl rfl (by kernel_rfl) (by kernel_rfl) (by kernel_rfl) (by rfl) hHeld (fun _ _ _ h => h) ?_ ?_
  rotate_left
  · intro w' hSw; (try dsimp only at hSw); go_simp <;> with_reducible rfl
  simp only [Act.put, List.setIfInBounds_toArray, List.set_cons_zero, List.set_cons_succ]
  refine heldTake 11 (some 38) (v := ?_) rfl rfl (by kernel_rfl) (by kernel_rfl) (by kernel_rfl) (by rfl) hHeld (fun _ _ _ h => h) ?_ ?_
  rotate_left
  · intro w' hSw; (try dsimp only at hSw); go_simp <;> with_reducible rfl
  simp only [Act.put, List.setIfInBounds_toArray, List.set_cons_zero, List.set_cons_succ]
  refine heldTake 12 (some 39) (v := ?_) rfl rfl (by kernel_rfl) (by kernel_rfl) (by kernel_rfl) (by rfl) hHeld (fun _ _ _ h => h) ?_ ?_
  rotate_left
  · intro w' hSw; (try dsimp only at hSw); go_simp <;> with_reducible rfl
  simp only [Act.put, List.setIfInBounds_toArray, List.set_cons_zero, List.set_cons_succ]
  refine heldTake 13 (some 40) (v := ?_) rfl rfl (by kernel_rfl) (by kernel_rfl) (by kernel_rfl) (by rfl) hHeld (fun _ _ _ h => h) ?_ ?_
  rotate_left
  · intro w' hSw; (try dsimp only at hSw); go_simp <;> with_reducible rfl
  simp only [Act.put, List.setIfInBounds_toArray, List.set_cons_zero, List.set_cons_succ]
  refine heldTake 14 (some 41) (v := ?_) rfl rfl (by kernel_rfl) (by kernel_rfl) (by kernel_rfl) (by rfl) hHeld (fun _ _ _ h => h) ?_ ?_
  rotate_left
  · intro w' hSw; (try dsimp only at hSw); go_simp <;> with_reducible rfl
  simp only [Act.put, List.setIfInBounds_toArray, List.set_cons_zero, List.set_cons_succ]
  refine heldCall 15 (some 42) (f := ?_) (args := ?_) rfl rfl (by kernel_rfl) (by rfl) ?_ ?_
  rotate_left 2
  · go_simp <;> first | (constructor <;> with_reducible rfl) | with_reducible rfl
  (with_reducible refine (refValidValue_any kd i s _ hs).mono ?_)
  rw [HV.out]
  rintro e w3 ⟨rfl, rfl⟩
  refine ⟨_, rfl, keepAnd ?_ (fun hNew => ?_)⟩
  · go_keep
  clear hHeld
  have hHeld := hNew
  clear hNew
  simp only [Act.put, List.setIfInBounds_toArray, List.set_cons_zero, List.set_cons_succ]
  refine heldTake 16 (some 43) (v := ?_) rfl rfl (by kernel_rfl) (by kernel_rfl) (by kernel_rfl) (by rfl) hHeld (fun _ _ _ h => h) ?_ ?_
  rotate_left
  · intro w' hSw; (try dsimp only at hSw); go_simp <;> with_reducible rfl
  simp only [Act.put, List.setIfInBounds_toArray, List.set_cons_zero, List.set_cons_succ]
  refine heldTake 17 (some 44) (v := ?_) rfl rfl (by kernel_rfl) (by kernel_rfl) (by kernel_rfl) (by rfl) hHeld (fun _ _ _ h => h) ?_ ?_
  rotate_left
  · intro w' hSw; (try dsimp only at hSw); go_simp <;> with_reducible rfl
  simp only [Act.put, List.setIfInBounds_toArray, List.set_cons_zero, List.set_cons_succ]
  refine heldSkip 18 (some 45) rfl rfl (by kernel_rfl) (by kernel_rfl) (by kernel_rfl) (by rfl) hHeld (fun _ _ _ h => h) ?_
  simp only [Act.put, List.setIfInBounds_toArray, List.set_cons_zero, List.set_cons_succ]
  refine heldSkip 19 (some 46) rfl rfl (by kernel_rfl) (by kernel_rfl) (by kernel_rfl) (by rfl) hHeld (fun _ _ _ h => h) ?_
  simp only [Act.put, List.setIfInBounds_toArray, List.set_cons_zero, List.set_cons_succ]
  refine heldSkip 20 (some 47) rfl rfl (by kernel_rfl) (by kernel_rfl) (by kernel_rfl) (by rfl) hHeld (fun _ _ _ h => h) ?_
  simp only [Act.put, List.setIfInBounds_toArray, List.set_cons_zero, List.set_cons_succ]
  refine heldSkip 21 (some 48) rfl rfl (by kernel_rfl) (by kernel_rfl) (by kernel_rfl) (by rfl) hHeld (fun _ _ _ h => h) ?_
  simp only [Act.put, List.setIfInBounds_toArray, List.set_cons_zero, List.set_cons_succ]
  refine heldSkip 22 (some 49) rfl rfl (by kernel_rfl) (by kernel_rfl) (by kernel_rfl) (by rfl) hHeld (fun _ _ _ h => h) ?_
  simp only [Act.put, List.setIfInBounds_toArray, List.set_cons_zero, List.set_cons_succ]
  refine heldSkip 23 (some 50) rfl rfl (by kernel_rfl) (by kernel_rfl) (by kernel_rfl) (by rfl) hHeld (fun _ _ _ h => h) ?_
  simp only [Act.put, List.setIfInBounds_toArray, List.set_cons_zero, List.set_cons_succ]
  refine heldSkip 24 (some 51) rfl rfl (by kernel_rfl) (by kernel_rfl) (by kernel_rfl) (by rfl) hHeld (fun _ _ _ h => h) ?_
  simp only [Act.put, List.setIfInBounds_toArray, List.set_cons_zero, List.set_cons_succ]
  refine heldTake 25 (some 52) (v := ?_) rfl rfl (by kernel_rfl) (by kernel_rfl) (by kernel_rfl) (by rfl) hHeld (fun _ _ _ h => h) ?_ ?_
  rotate_left
  · intro w' hSw; (try dsimp only at hSw); go_simp <;> with_reducible rfl
  simp only [Act.put, List.setIfInBounds_toArray, List.set_cons_zero, List.set_cons_succ]
  refine heldTake 26 (some 53) (v := ?_) rfl rfl (by kernel_rfl) (by kernel_rfl) (by kernel_rfl) (by rfl) hHeld (fun _ _ _ h => h) ?_ ?_
  rotate_left
  · intro w' hSw; (try dsimp only at hSw); go_simp <;> with_reducible rfl
  simp only [Act.put, List.setIfInBounds_toArray, List.set_cons_zero, List.set_cons_succ]
  refine heldTake 27 (some 54) (v := ?_) rfl rfl (by kernel_rfl) (by kernel_rfl) (by kernel_rfl) (by rfl) hHeld (fun _ _ _ h => h) ?_ ?_
  rotate_left
  · intro w' hSw; (try dsimp only at hSw); go_simp <;> with_reducible rfl
  simp only [Act.put, List.setIfInBounds_toArray, List.set_cons_zero, List.set_cons_succ]
  refine heldCall 28 (some 55) (f := ?_) (args := ?_) rfl rfl (by kernel_rfl) (by rfl) ?_ ?_
  rotate_left 2
  · go_simp <;> first | (constructor <;> with_reducible rfl) | with_reducible rfl
  (with_reducible refine (works_any _).mono ?_)
  rintro e w7 ⟨rfl, hb7⟩
  refine ⟨_, rfl, keepAnd ?_ (fun hNew => ?_)⟩
  · (try dsimp only); go_split_ands; refine ⟨?_, ?_, ?_, ?_, ?_, ?_, ?_, ?_, ?_⟩ <;> (refine (hb7.cell ?_).trans ?_ <;> first | assumption | (simp; omega))
  clear hHeld
  have hHeld := hNew
  clear hNew
  simp only [Act.put, List.setIfInBounds_toArray, List.set_cons_zero, List.set_cons_succ]
  refine heldTake 29 (some 56) (v := ?_) rfl rfl (by kernel_rfl) (by kernel_rfl) (by kernel_rfl) (by rfl) hHeld (fun _ _ _ h => h) ?_ ?_
  rotate_left
  · intro w' hSw; (try dsimp only at hSw); go_simp <;> with_reducible rfl
  simp only [Act.put, List.setIfInBounds_toArray, List.set_cons_zero, List.set_cons_succ]
  refine heldTake 30 (some 6) (v := ?_) rfl rfl (by kernel_rfl) (by kernel_rfl) (by kernel_rfl) (by rfl) hHeld (fun _ _ _ h => h) ?_ ?_
  rotate_left
  · intro w' hSw; (try dsimp only at hSw); go_simp <;> with_reducible rfl
  simp only [Act.put, List.setIfInBounds_toArray, List.set_cons_zero, List.set_cons_succ]
  refine wpAnyH_done (by kernel_rfl) ?_ _
  refine NoPanic.normal ?_
  go_wp2
  go_ret
  exact ⟨rfl, (hB3.alloc hB3.size _).drew.trans (hb7.mono (Nat.le_trans hB3.size (by simp)))⟩

end Go.Proofs.Ythfclmkeadpcbaa
