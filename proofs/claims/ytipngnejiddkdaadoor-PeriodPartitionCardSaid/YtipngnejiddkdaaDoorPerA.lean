/-
  Periods: the predicates, of the program and of the reference.
-/
import Derived.Test.YtipngnejiddkdaaDoorChecked
import Derived.Test.YtipngnejiddkdaaDoorMem
import Derived.WalkLawsBesides
namespace Go.Proofs.YtipngnejiddkdaaDoor
open Go.RowKit Go.Lib

theorem ret_bool {a b : Bool} (h : a = b) : Ending.returned (.bool a) = .returned (.bool b) := by rw [h]
theorem Below.of_alloc {w : World} (o : Obj) : Below w.heap.size w (w.alloc o) := (Below.refl _ _).alloc (Nat.le_refl _) o
def validP (f t : Int) : Bool := decide (0 ≤ f ∧ f < t ∧ t ≤ 1099511627776)
def inP (f t x : Int) : Bool := decide (0 ≤ f ∧ f < t ∧ t ≤ 1099511627776 ∧ f ≤ x ∧ x < t)
def covP (f t a b : Int) : Bool := decide (0 ≤ f ∧ f < t ∧ t ≤ 1099511627776 ∧ 0 ≤ a ∧ a < b ∧ b ≤ 1099511627776 ∧ f ≤ a ∧ b ≤ t)
def ovP (f t a b : Int) : Bool := decide (0 ≤ f ∧ f < t ∧ t ≤ 1099511627776 ∧ 0 ≤ a ∧ a < b ∧ b ≤ 1099511627776 ∧ f < b ∧ a < t)
def adP (f t a b : Int) : Bool := decide (0 ≤ f ∧ f < t ∧ t ≤ 1099511627776 ∧ 0 ≤ a ∧ a < b ∧ b ≤ 1099511627776 ∧ (t = a ∨ b = f))

set_option maxHeartbeats 1000000 in
theorem valid_any (f t : Int) (w : World) :
    Calls Tryd.prog 23 #[.agg #[.int .i64 f, .int .i64 t]] w fun e w' => e = .returned (.bool (validP f t)) ∧ Below w.heap.size w w' := by
  go_enter Tryd.func23, Tryd.ntmps23
  go_wp2
  all_goals
    go_ret
    refine ⟨ret_bool (by simp only [validP]; first | (symm; rw [decide_eq_false_iff_not]; omega) | (symm; rw [decide_eq_true_eq]; omega) | (rw [Bool.eq_iff_iff]; simp; omega)), ?_⟩
    repeat (first | exact Below.refl _ _ | refine Below.alloc ?_ (by simp; try omega) _)

set_option maxHeartbeats 1000000 in
theorem contains_any (f t x : Int) (w : World) :
    Calls Tryd.prog 22 #[.agg #[.int .i64 f, .int .i64 t], .int .i64 x] w fun e w' => e = .returned (.bool (inP f t x)) ∧ Below w.heap.size w w' := by
  go_enter Tryd.func22, Tryd.ntmps22
  go_wp2
  all_goals
    go_ret
    refine ⟨ret_bool (by simp only [inP]; first | (symm; rw [decide_eq_false_iff_not]; omega) | (symm; rw [decide_eq_true_eq]; omega) | (rw [Bool.eq_iff_iff]; simp; omega)), ?_⟩
    repeat (first | exact Below.refl _ _ | refine Below.alloc ?_ (by simp; try omega) _)

set_option maxHeartbeats 1000000 in
theorem covers_any (f t a b : Int) (w : World) :
    Calls Tryd.prog 25 #[.agg #[.int .i64 f, .int .i64 t], .agg #[.int .i64 a, .int .i64 b]] w fun e w' => e = .returned (.bool (covP f t a b)) ∧ Below w.heap.size w w' := by
  go_enter Tryd.func25, Tryd.ntmps25
  go_wp2
  all_goals
    go_ret
    refine ⟨ret_bool (by simp only [covP]; first | (symm; rw [decide_eq_false_iff_not]; omega) | (symm; rw [decide_eq_true_eq]; omega) | (rw [Bool.eq_iff_iff]; simp; omega)), ?_⟩
    repeat (first | exact Below.refl _ _ | refine Below.alloc ?_ (by simp; try omega) _)

set_option maxHeartbeats 1000000 in
theorem overlaps_any (f t a b : Int) (w : World) :
    Calls Tryd.prog 27 #[.agg #[.int .i64 f, .int .i64 t], .agg #[.int .i64 a, .int .i64 b]] w fun e w' => e = .returned (.bool (ovP f t a b)) ∧ Below w.heap.size w w' := by
  go_enter Tryd.func27, Tryd.ntmps27
  go_wp2
  all_goals
    go_ret
    refine ⟨ret_bool (by simp only [ovP]; first | (symm; rw [decide_eq_false_iff_not]; omega) | (symm; rw [decide_eq_true_eq]; omega) | (rw [Bool.eq_iff_iff]; simp; omega)), ?_⟩
    repeat (first | exact Below.refl _ _ | refine Below.alloc ?_ (by simp; try omega) _)

set_option maxHeartbeats 1000000 in
theorem adjacent_any (f t a b : Int) (w : World) :
    Calls Tryd.prog 29 #[.agg #[.int .i64 f, .int .i64 t], .agg #[.int .i64 a, .int .i64 b]] w fun e w' => e = .returned (.bool (adP f t a b)) ∧ Below w.heap.size w w' := by
  go_enter Tryd.func29, Tryd.ntmps29
  go_wp2
  all_goals
    go_ret
    refine ⟨ret_bool (by simp only [adP]; first | (symm; rw [decide_eq_false_iff_not]; omega) | (symm; rw [decide_eq_true_eq]; omega) | (rw [Bool.eq_iff_iff]; simp; omega)), ?_⟩
    repeat (first | exact Below.refl _ _ | refine Below.alloc ?_ (by simp; try omega) _)

set_option maxHeartbeats 1000000 in
theorem refValid_any (f t : Int) (w : World) :
    Calls Tryd.prog 19 #[.agg #[.int .i64 f, .int .i64 t]] w fun e w' => e = .returned (.bool (validP f t)) ∧ Below w.heap.size w w' := by
  go_enter Tryd.func19, Tryd.ntmps19
  go_wp2
  all_goals
    go_ret
    refine ⟨ret_bool (by simp only [validP]; first | (symm; rw [decide_eq_false_iff_not]; omega) | (symm; rw [decide_eq_true_eq]; omega) | (rw [Bool.eq_iff_iff]; simp; omega)), ?_⟩
    repeat (first | exact Below.refl _ _ | refine Below.alloc ?_ (by simp; try omega) _)

set_option maxHeartbeats 1000000 in
theorem refContains_any (f t x : Int) (w : World) :
    Calls Tryd.prog 24 #[.agg #[.int .i64 f, .int .i64 t], .int .i64 x] w fun e w' => e = .returned (.bool (inP f t x)) ∧ Below w.heap.size w w' := by
  go_enter Tryd.func24, Tryd.ntmps24
  go_wp2
  all_goals
    go_ret
    refine ⟨ret_bool (by simp only [inP]; first | (symm; rw [decide_eq_false_iff_not]; omega) | (symm; rw [decide_eq_true_eq]; omega) | (rw [Bool.eq_iff_iff]; simp; omega)), ?_⟩
    repeat (first | exact Below.refl _ _ | refine Below.alloc ?_ (by simp; try omega) _)

set_option maxHeartbeats 1000000 in
theorem refCovers_any (f t a b : Int) (w : World) :
    Calls Tryd.prog 26 #[.agg #[.int .i64 f, .int .i64 t], .agg #[.int .i64 a, .int .i64 b]] w fun e w' => e = .returned (.bool (covP f t a b)) ∧ Below w.heap.size w w' := by
  go_enter Tryd.func26, Tryd.ntmps26
  go_wp2
  all_goals
    go_ret
    refine ⟨ret_bool (by simp only [covP]; first | (symm; rw [decide_eq_false_iff_not]; omega) | (symm; rw [decide_eq_true_eq]; omega) | (rw [Bool.eq_iff_iff]; simp; omega)), ?_⟩
    repeat (first | exact Below.refl _ _ | refine Below.alloc ?_ (by simp; try omega) _)

set_option maxHeartbeats 1000000 in
theorem refOverlaps_any (f t a b : Int) (w : World) :
    Calls Tryd.prog 28 #[.agg #[.int .i64 f, .int .i64 t], .agg #[.int .i64 a, .int .i64 b]] w fun e w' => e = .returned (.bool (ovP f t a b)) ∧ Below w.heap.size w w' := by
  go_enter Tryd.func28, Tryd.ntmps28
  go_wp2
  all_goals
    go_ret
    refine ⟨ret_bool (by simp only [ovP]; first | (symm; rw [decide_eq_false_iff_not]; omega) | (symm; rw [decide_eq_true_eq]; omega) | (rw [Bool.eq_iff_iff]; simp; omega)), ?_⟩
    repeat (first | exact Below.refl _ _ | refine Below.alloc ?_ (by simp; try omega) _)

set_option maxHeartbeats 1000000 in
theorem refAdjacent_any (f t a b : Int) (w : World) :
    Calls Tryd.prog 30 #[.agg #[.int .i64 f, .int .i64 t], .agg #[.int .i64 a, .int .i64 b]] w fun e w' => e = .returned (.bool (adP f t a b)) ∧ Below w.heap.size w w' := by
  go_enter Tryd.func30, Tryd.ntmps30
  go_wp2
  all_goals
    go_ret
    refine ⟨ret_bool (by simp only [adP]; first | (symm; rw [decide_eq_false_iff_not]; omega) | (symm; rw [decide_eq_true_eq]; omega) | (rw [Bool.eq_iff_iff]; simp; omega)), ?_⟩
    repeat (first | exact Below.refl _ _ | refine Below.alloc ?_ (by simp; try omega) _)

end Go.Proofs.YtipngnejiddkdaaDoor
