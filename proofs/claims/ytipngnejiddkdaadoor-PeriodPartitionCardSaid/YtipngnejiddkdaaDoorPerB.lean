/-
  Periods: intersections and unions, of the program and of the reference.
-/
import Derived.Test.YtipngnejiddkdaaDoorPerA
namespace Go.Proofs.YtipngnejiddkdaaDoor
open Go.RowKit Go.Lib

/-- two numbers and a bool -/
def Two (f t : Int) (k : Bool) (w0 : World) (e : Ending) (w : World) : Prop := e = .returned (.tuple #[.agg #[.int .i64 f, .int .i64 t], .bool k]) ∧ Below w0.heap.size w0 w
theorem bcell {W w1 : World} (hb : Below W.heap.size W w1) : (∀ b o, b < W.heap.size → w1.cell? ⟨b, o, none⟩ = W.cell? ⟨b, o, none⟩) ∧ (∀ b o, b < W.heap.size → w1.frozen? ⟨b, o, none⟩ = W.frozen? ⟨b, o, none⟩) :=
  ⟨fun b o h => hb.cell (p := ⟨b, o, none⟩) h, fun b o h => hb.frozen (p := ⟨b, o, none⟩) h⟩
def interP (f t a b : Int) : Int × Int × Bool := if ovP f t a b = true then (max f a, min t b, true) else (0, 0, false)
def mergeP (f t a b : Int) : Int × Int × Bool := if ovP f t a b = true ∨ adP f t a b = true then (min f a, max t b, true) else (0, 0, false)

set_option maxHeartbeats 1000000 in
theorem inter_y1 (f t a b : Int) (w : World) (h : ovP f t a b = true) :
    Calls Tryd.prog 9 #[.agg #[.int .i64 f, .int .i64 t], .agg #[.int .i64 a, .int .i64 b]] w (Two (max f a) (min t b) true w) := by
  have H1 := Lib.hid h
  clear h
  go_enter Tryd.func9, Tryd.ntmps9
  go_wp2_with fail
  (with_reducible refine (overlaps_any f t a b _).mono ?_)
  rw [H1.out]
  rintro e w1 ⟨rfl, hb1⟩
  have hB1 := (((Below.of_alloc (w := w) _).alloc (by simp) _).alloc (by simp; omega) _).trans (hb1.mono (by simp; omega))
  obtain ⟨hc, _⟩ := bcell hb1
  simp only [World.size_alloc] at hc
  go_wp2_with fail
  all_goals exact bodyPost_ret (v := .tuple #[.agg #[.int .i64 (max f a), .int .i64 (min t b)], .bool true]) (by simp [results, Tryd.results9, go_sem, hc] <;> omega) rfl ⟨rfl, by first | exact hB1 | exact hB1.setCell (by simp <;> omega) _ | exact (hB1.setCell (by simp <;> omega) _).setCell (by simp <;> omega) _⟩

set_option maxHeartbeats 1000000 in
theorem inter_no (f t a b : Int) (w : World) (h : ovP f t a b = false) :
    Calls Tryd.prog 9 #[.agg #[.int .i64 f, .int .i64 t], .agg #[.int .i64 a, .int .i64 b]] w (Two 0 0 false w) := by
  have H1 := Lib.hid h
  clear h
  go_enter Tryd.func9, Tryd.ntmps9
  go_wp2_with fail
  (with_reducible refine (overlaps_any f t a b _).mono ?_)
  rw [H1.out]
  rintro e w1 ⟨rfl, hb1⟩
  have hB1 := (((Below.of_alloc (w := w) _).alloc (by simp) _).alloc (by simp; omega) _).trans (hb1.mono (by simp; omega))
  obtain ⟨hc, _⟩ := bcell hb1
  simp only [World.size_alloc] at hc
  go_wp2_with fail
  all_goals exact bodyPost_ret (v := .tuple #[.agg #[.int .i64 0, .int .i64 0], .bool false]) (by simp [results, Tryd.results9, go_sem, hc] <;> omega) rfl ⟨rfl, by first | exact hB1 | exact hB1.setCell (by simp <;> omega) _ | exact (hB1.setCell (by simp <;> omega) _).setCell (by simp <;> omega) _⟩

theorem inter_any (f t a b : Int) (w : World) : Calls Tryd.prog 9 #[.agg #[.int .i64 f, .int .i64 t], .agg #[.int .i64 a, .int .i64 b]] w (Two (interP f t a b).1 (interP f t a b).2.1 (interP f t a b).2.2 w) := by
  unfold interP
  cases h : ovP f t a b
  · exact inter_no f t a b w h
  · exact inter_y1 f t a b w h

set_option maxHeartbeats 1000000 in
theorem merge_y1 (f t a b : Int) (w : World) (h : ovP f t a b = true) :
    Calls Tryd.prog 11 #[.agg #[.int .i64 f, .int .i64 t], .agg #[.int .i64 a, .int .i64 b]] w (Two (min f a) (max t b) true w) := by
  have H1 := Lib.hid h
  clear h
  go_enter Tryd.func11, Tryd.ntmps11
  go_wp2_with fail
  (with_reducible refine (overlaps_any f t a b _).mono ?_)
  rw [H1.out]
  rintro e w1 ⟨rfl, hb1⟩
  have hB1 := (((Below.of_alloc (w := w) _).alloc (by simp) _).alloc (by simp; omega) _).trans (hb1.mono (by simp; omega))
  obtain ⟨hc, _⟩ := bcell hb1
  simp only [World.size_alloc] at hc
  go_wp2_with fail
  all_goals exact bodyPost_ret (v := .tuple #[.agg #[.int .i64 (min f a), .int .i64 (max t b)], .bool true]) (by simp [results, Tryd.results11, go_sem, hc] <;> omega) rfl ⟨rfl, by first | exact hB1 | exact hB1.setCell (by simp <;> omega) _ | exact (hB1.setCell (by simp <;> omega) _).setCell (by simp <;> omega) _⟩

set_option maxHeartbeats 1000000 in
theorem merge_y2 (f t a b : Int) (w : World) (h : ovP f t a b = false) (h' : adP f t a b = true) :
    Calls Tryd.prog 11 #[.agg #[.int .i64 f, .int .i64 t], .agg #[.int .i64 a, .int .i64 b]] w (Two (min f a) (max t b) true w) := by
  have H1 := Lib.hid h
  have H2 := Lib.hid h'
  clear h h'
  go_enter Tryd.func11, Tryd.ntmps11
  go_wp2_with fail
  (with_reducible refine (overlaps_any f t a b _).mono ?_)
  rw [H1.out]
  rintro e w1 ⟨rfl, hb1⟩
  have hB1 := (((Below.of_alloc (w := w) _).alloc (by simp) _).alloc (by simp; omega) _).trans (hb1.mono (by simp; omega))
  obtain ⟨hc, _⟩ := bcell hb1
  simp only [World.size_alloc] at hc
  go_wp2_with fail
  (with_reducible refine (adjacent_any f t a b _).mono ?_)
  rw [H2.out]
  rintro e w2 ⟨rfl, hb2⟩
  have hB2 := hB1.trans (hb2.mono hB1.size)
  clear hc
  obtain ⟨hc, _⟩ := bcell (hb1.trans (hb2.mono hb1.size))
  simp only [World.size_alloc] at hc
  go_wp2_with fail
  all_goals exact bodyPost_ret (v := .tuple #[.agg #[.int .i64 (min f a), .int .i64 (max t b)], .bool true]) (by simp [results, Tryd.results11, go_sem, hc] <;> omega) rfl ⟨rfl, by first | exact hB2 | exact hB2.setCell (by simp <;> omega) _ | exact (hB2.setCell (by simp <;> omega) _).setCell (by simp <;> omega) _⟩

set_option maxHeartbeats 1000000 in
theorem merge_no (f t a b : Int) (w : World) (h : ovP f t a b = false) (h' : adP f t a b = false) :
    Calls Tryd.prog 11 #[.agg #[.int .i64 f, .int .i64 t], .agg #[.int .i64 a, .int .i64 b]] w (Two 0 0 false w) := by
  have H1 := Lib.hid h
  have H2 := Lib.hid h'
  clear h h'
  go_enter Tryd.func11, Tryd.ntmps11
  go_wp2_with fail
  (with_reducible refine (overlaps_any f t a b _).mono ?_)
  rw [H1.out]
  rintro e w1 ⟨rfl, hb1⟩
  have hB1 := (((Below.of_alloc (w := w) _).alloc (by simp) _).alloc (by simp; omega) _).trans (hb1.mono (by simp; omega))
  obtain ⟨hc, _⟩ := bcell hb1
  simp only [World.size_alloc] at hc
  go_wp2_with fail
  (with_reducible refine (adjacent_any f t a b _).mono ?_)
  rw [H2.out]
  rintro e w2 ⟨rfl, hb2⟩
  have hB2 := hB1.trans (hb2.mono hB1.size)
  clear hc
  obtain ⟨hc, _⟩ := bcell (hb1.trans (hb2.mono hb1.size))
  simp only [World.size_alloc] at hc
  go_wp2_with fail
  all_goals exact bodyPost_ret (v := .tuple #[.agg #[.int .i64 0, .int .i64 0], .bool false]) (by simp [results, Tryd.results11, go_sem, hc] <;> omega) rfl ⟨rfl, by first | exact hB2 | exact hB2.setCell (by simp <;> omega) _ | exact (hB2.setCell (by simp <;> omega) _).setCell (by simp <;> omega) _⟩

theorem merge_any (f t a b : Int) (w : World) : Calls Tryd.prog 11 #[.agg #[.int .i64 f, .int .i64 t], .agg #[.int .i64 a, .int .i64 b]] w (Two (mergeP f t a b).1 (mergeP f t a b).2.1 (mergeP f t a b).2.2 w) := by
  unfold mergeP
  cases h : ovP f t a b
  · cases h' : adP f t a b
    · simp only [Bool.false_eq_true, or_self, if_false]; exact merge_no f t a b w h h'
    · simp only [Bool.false_eq_true, false_or, if_true]; exact merge_y2 f t a b w h h'
  · simp only [true_or, if_true]; exact merge_y1 f t a b w h

set_option maxHeartbeats 1000000 in
theorem refInter_y1 (f t a b : Int) (w : World) (h : ovP f t a b = true) :
    Calls Tryd.prog 10 #[.agg #[.int .i64 f, .int .i64 t], .agg #[.int .i64 a, .int .i64 b]] w (Two (max f a) (min t b) true w) := by
  have H1 := Lib.hid h
  clear h
  go_enter Tryd.func10, Tryd.ntmps10
  go_wp2_with fail
  (with_reducible refine (refOverlaps_any f t a b _).mono ?_)
  rw [H1.out]
  rintro e w1 ⟨rfl, hb1⟩
  have hB1 := (((Below.of_alloc (w := w) _).alloc (by simp) _).alloc (by simp; omega) _).trans (hb1.mono (by simp; omega))
  obtain ⟨hc, _⟩ := bcell hb1
  simp only [World.size_alloc] at hc
  go_wp2_with fail
  all_goals exact bodyPost_ret (v := .tuple #[.agg #[.int .i64 (max f a), .int .i64 (min t b)], .bool true]) (by simp [results, Tryd.results10, go_sem, hc] <;> omega) rfl ⟨rfl, by first | exact hB1 | exact hB1.setCell (by simp <;> omega) _ | exact (hB1.setCell (by simp <;> omega) _).setCell (by simp <;> omega) _⟩

set_option maxHeartbeats 1000000 in
theorem refInter_no (f t a b : Int) (w : World) (h : ovP f t a b = false) :
    Calls Tryd.prog 10 #[.agg #[.int .i64 f, .int .i64 t], .agg #[.int .i64 a, .int .i64 b]] w (Two 0 0 false w) := by
  have H1 := Lib.hid h
  clear h
  go_enter Tryd.func10, Tryd.ntmps10
  go_wp2_with fail
  (with_reducible refine (refOverlaps_any f t a b _).mono ?_)
  rw [H1.out]
  rintro e w1 ⟨rfl, hb1⟩
  have hB1 := (((Below.of_alloc (w := w) _).alloc (by simp) _).alloc (by simp; omega) _).trans (hb1.mono (by simp; omega))
  obtain ⟨hc, _⟩ := bcell hb1
  simp only [World.size_alloc] at hc
  go_wp2_with fail
  all_goals exact bodyPost_ret (v := .tuple #[.agg #[.int .i64 0, .int .i64 0], .bool false]) (by simp [results, Tryd.results10, go_sem, hc] <;> omega) rfl ⟨rfl, by first | exact hB1 | exact hB1.setCell (by simp <;> omega) _ | exact (hB1.setCell (by simp <;> omega) _).setCell (by simp <;> omega) _⟩

theorem refInter_any (f t a b : Int) (w : World) : Calls Tryd.prog 10 #[.agg #[.int .i64 f, .int .i64 t], .agg #[.int .i64 a, .int .i64 b]] w (Two (interP f t a b).1 (interP f t a b).2.1 (interP f t a b).2.2 w) := by
  unfold interP
  cases h : ovP f t a b
  · exact refInter_no f t a b w h
  · exact refInter_y1 f t a b w h

set_option maxHeartbeats 1000000 in
theorem refMerge_y1 (f t a b : Int) (w : World) (h : ovP f t a b = true) :
    Calls Tryd.prog 12 #[.agg #[.int .i64 f, .int .i64 t], .agg #[.int .i64 a, .int .i64 b]] w (Two (min f a) (max t b) true w) := by
  have H1 := Lib.hid h
  clear h
  go_enter Tryd.func12, Tryd.ntmps12
  go_wp2_with fail
  (with_reducible refine (refOverlaps_any f t a b _).mono ?_)
  rw [H1.out]
  rintro e w1 ⟨rfl, hb1⟩
  have hB1 := (((Below.of_alloc (w := w) _).alloc (by simp) _).alloc (by simp; omega) _).trans (hb1.mono (by simp; omega))
  obtain ⟨hc, _⟩ := bcell hb1
  simp only [World.size_alloc] at hc
  go_wp2_with fail
  all_goals exact bodyPost_ret (v := .tuple #[.agg #[.int .i64 (min f a), .int .i64 (max t b)], .bool true]) (by simp [results, Tryd.results12, go_sem, hc] <;> omega) rfl ⟨rfl, by first | exact hB1 | exact hB1.setCell (by simp <;> omega) _ | exact (hB1.setCell (by simp <;> omega) _).setCell (by simp <;> omega) _⟩

set_option maxHeartbeats 1000000 in
theorem refMerge_y2 (f t a b : Int) (w : World) (h : ovP f t a b = false) (h' : adP f t a b = true) :
    Calls Tryd.prog 12 #[.agg #[.int .i64 f, .int .i64 t], .agg #[.int .i64 a, .int .i64 b]] w (Two (min f a) (max t b) true w) := by
  have H1 := Lib.hid h
  have H2 := Lib.hid h'
  clear h h'
  go_enter Tryd.func12, Tryd.ntmps12
  go_wp2_with fail
  (with_reducible refine (refOverlaps_any f t a b _).mono ?_)
  rw [H1.out]
  rintro e w1 ⟨rfl, hb1⟩
  have hB1 := (((Below.of_alloc (w := w) _).alloc (by simp) _).alloc (by simp; omega) _).trans (hb1.mono (by simp; omega))
  obtain ⟨hc, _⟩ := bcell hb1
  simp only [World.size_alloc] at hc
  go_wp2_with fail
  (with_reducible refine (refAdjacent_any f t a b _).mono ?_)
  rw [H2.out]
  rintro e w2 ⟨rfl, hb2⟩
  have hB2 := hB1.trans (hb2.mono hB1.size)
  clear hc
  obtain ⟨hc, _⟩ := bcell (hb1.trans (hb2.mono hb1.size))
  simp only [World.size_alloc] at hc
  go_wp2_with fail
  all_goals exact bodyPost_ret (v := .tuple #[.agg #[.int .i64 (min f a), .int .i64 (max t b)], .bool true]) (by simp [results, Tryd.results12, go_sem, hc] <;> omega) rfl ⟨rfl, by first | exact hB2 | exact hB2.setCell (by simp <;> omega) _ | exact (hB2.setCell (by simp <;> omega) _).setCell (by simp <;> omega) _⟩

set_option maxHeartbeats 1000000 in
theorem refMerge_no (f t a b : Int) (w : World) (h : ovP f t a b = false) (h' : adP f t a b = false) :
    Calls Tryd.prog 12 #[.agg #[.int .i64 f, .int .i64 t], .agg #[.int .i64 a, .int .i64 b]] w (Two 0 0 false w) := by
  have H1 := Lib.hid h
  have H2 := Lib.hid h'
  clear h h'
  go_enter Tryd.func12, Tryd.ntmps12
  go_wp2_with fail
  (with_reducible refine (refOverlaps_any f t a b _).mono ?_)
  rw [H1.out]
  rintro e w1 ⟨rfl, hb1⟩
  have hB1 := (((Below.of_alloc (w := w) _).alloc (by simp) _).alloc (by simp; omega) _).trans (hb1.mono (by simp; omega))
  obtain ⟨hc, _⟩ := bcell hb1
  simp only [World.size_alloc] at hc
  go_wp2_with fail
  (with_reducible refine (refAdjacent_any f t a b _).mono ?_)
  rw [H2.out]
  rintro e w2 ⟨rfl, hb2⟩
  have hB2 := hB1.trans (hb2.mono hB1.size)
  clear hc
  obtain ⟨hc, _⟩ := bcell (hb1.trans (hb2.mono hb1.size))
  simp only [World.size_alloc] at hc
  go_wp2_with fail
  all_goals exact bodyPost_ret (v := .tuple #[.agg #[.int .i64 0, .int .i64 0], .bool false]) (by simp [results, Tryd.results12, go_sem, hc] <;> omega) rfl ⟨rfl, by first | exact hB2 | exact hB2.setCell (by simp <;> omega) _ | exact (hB2.setCell (by simp <;> omega) _).setCell (by simp <;> omega) _⟩

theorem refMerge_any (f t a b : Int) (w : World) : Calls Tryd.prog 12 #[.agg #[.int .i64 f, .int .i64 t], .agg #[.int .i64 a, .int .i64 b]] w (Two (mergeP f t a b).1 (mergeP f t a b).2.1 (mergeP f t a b).2.2 w) := by
  unfold mergeP
  cases h : ovP f t a b
  · cases h' : adP f t a b
    · simp only [Bool.false_eq_true, or_self, if_false]; exact refMerge_no f t a b w h h'
    · simp only [Bool.false_eq_true, false_or, if_true]; exact refMerge_y2 f t a b w h h'
  · simp only [true_or, if_true]; exact refMerge_y1 f t a b w h
end Go.Proofs.YtipngnejiddkdaaDoor
