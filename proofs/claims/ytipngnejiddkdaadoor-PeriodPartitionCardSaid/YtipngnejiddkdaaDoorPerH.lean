/-
  Periods: the program's parsing.
-/
import Derived.Test.YtipngnejiddkdaaDoorPerG
namespace Go.Proofs.YtipngnejiddkdaaDoor
open Go.RowKit Go.Lib

def Per3 (r : Int × Int × Int) (w0 : World) (e : Ending) (w : World) : Prop := e = .returned (.tuple #[.agg #[.int .i64 r.1, .int .i64 r.2.1], .int .i64 r.2.2]) ∧ Below w0.heap.size w0 w
theorem cutP_l (l : List UInt8) (w : World) : Calls Tryd.prog 34 #[.string ⟨l.toArray⟩, .string ⟨#[91]⟩] w fun e w' => e = .returned (.tuple #[.string ⟨(trimPrefix l [91]).toArray⟩, .bool (hasPrefix l [91])]) ∧ w = w' :=
  (Tryd.strings_CutPrefix ⟨l.toArray⟩ ⟨#[91]⟩ w).mono fun _ _ ⟨h1, h2⟩ => ⟨h1, h2.symm⟩
theorem cutS_l (l : List UInt8) (w : World) (h : l.length < 4294967281) : Calls Tryd.prog 35 #[.string ⟨l.toArray⟩, .string ⟨#[41]⟩] w fun e w' => e = .returned (.tuple #[.string ⟨(trimSuffix l [41]).toArray⟩, .bool (hasSuffix l [41])]) ∧ w = w' :=
  (Tryd.strings_CutSuffix ⟨l.toArray⟩ ⟨#[41]⟩ w (by rw [mk_size]; omega)).mono fun _ _ ⟨h1, h2⟩ => ⟨h1, h2.symm⟩
theorem cut_l (l : List UInt8) (w : World) (h : l.length < 4294967281) (he : Env w) : Calls Tryd.prog 36 #[.string ⟨l.toArray⟩, .string ⟨#[44, 32]⟩] w fun e w' => e = .returned (.tuple #[.string ⟨(Lib.cut l [44, 32]).1.toArray⟩, .string ⟨(Lib.cut l [44, 32]).2.1.toArray⟩, .bool (Lib.cut l [44, 32]).2.2]) ∧ Below w.heap.size w w' := by
  obtain ⟨m, hm⟩ := he.max
  refine (Tryd.strings_Cut ⟨l.toArray⟩ ⟨#[44, 32]⟩ m w (by rw [mk_size]; exact h) hm).mono ?_
  rintro e w' ⟨rfl, n, rfl⟩
  exact ⟨rfl, below_drewN' n⟩
theorem number_l (l : List UInt8) (w : World) (h : l.length < 4294967281) : Calls Tryd.prog 37 #[.string ⟨l.toArray⟩] w (Num2 (numB l) w) := number_any ⟨l.toArray⟩ w (by rw [mk_size]; exact h)

set_option maxHeartbeats 1000000 in
theorem parse_a (o2 : Bool) (o3 : Bool) (l l1 l2 fr to : List UInt8) (w : World) (g1 : trimPrefix l [91] = l1) (g2 : trimSuffix l1 [41] = l2) (b1 : hasPrefix l [91] = false) (b2 : hasSuffix l1 [41] = o2) (g3 : Lib.cut l2 [44, 32] = (fr, to, o3)) (n1 : l1.length < 4294967281) (n2 : l2.length < 4294967281) (he : Env w) :
    Calls Tryd.prog 18 #[.string ⟨l.toArray⟩] w (Per3 (0, 0, 1) w) := by
  have C1 := Lib.hid (fun w => cutP_l l w)
  rw [g1, b1] at C1
  have C2 := Lib.hid (fun w => cutS_l l1 w n1)
  rw [g2, b2] at C2
  have C3 := Lib.hid (fun w he => cut_l l2 w n2 he)
  rw [g3] at C3
  clear g1 g2 b1 b2 g3
  go_enter Tryd.func18, Tryd.ntmps18
  go_wp2_with fail
  (with_reducible refine (C1.out _).mono ?_)
  rintro e w1 ⟨rfl, rfl⟩
  go_wp2_with fail
  (with_reducible refine (C2.out _).mono ?_)
  rintro e w1 ⟨rfl, rfl⟩
  go_wp2_with fail
  (with_reducible refine (C3.out _ (he.below (Below.of_alloc _))).mono ?_)
  rintro e w1 ⟨rfl, hb1⟩
  obtain ⟨hc, _⟩ := bcell hb1
  simp only [World.size_alloc] at hc
  have hB1 := (Below.of_alloc (w := w) _).trans (hb1.mono (by simp))
  clear C1 C2 C3
  go_wp2_with fail
  all_goals exact bodyPost_ret (v := .tuple #[.agg #[.int .i64 0, .int .i64 0], .int .i64 1]) (by simp [results, Tryd.results18, go_sem, hc] <;> omega) rfl ⟨rfl, by first | exact hB1 | exact hB1.setCell (by simp <;> omega) _ | exact (hB1.setCell (by simp <;> omega) _).setCell (by simp <;> omega) _⟩

set_option maxHeartbeats 1000000 in
theorem parse_b (o3 : Bool) (l l1 l2 fr to : List UInt8) (w : World) (g1 : trimPrefix l [91] = l1) (g2 : trimSuffix l1 [41] = l2) (b1 : hasPrefix l [91] = true) (b2 : hasSuffix l1 [41] = false) (g3 : Lib.cut l2 [44, 32] = (fr, to, o3)) (n1 : l1.length < 4294967281) (n2 : l2.length < 4294967281) (he : Env w) :
    Calls Tryd.prog 18 #[.string ⟨l.toArray⟩] w (Per3 (0, 0, 1) w) := by
  have C1 := Lib.hid (fun w => cutP_l l w)
  rw [g1, b1] at C1
  have C2 := Lib.hid (fun w => cutS_l l1 w n1)
  rw [g2, b2] at C2
  have C3 := Lib.hid (fun w he => cut_l l2 w n2 he)
  rw [g3] at C3
  clear g1 g2 b1 b2 g3
  go_enter Tryd.func18, Tryd.ntmps18
  go_wp2_with fail
  (with_reducible refine (C1.out _).mono ?_)
  rintro e w1 ⟨rfl, rfl⟩
  go_wp2_with fail
  (with_reducible refine (C2.out _).mono ?_)
  rintro e w1 ⟨rfl, rfl⟩
  go_wp2_with fail
  (with_reducible refine (C3.out _ (he.below (Below.of_alloc _))).mono ?_)
  rintro e w1 ⟨rfl, hb1⟩
  obtain ⟨hc, _⟩ := bcell hb1
  simp only [World.size_alloc] at hc
  have hB1 := (Below.of_alloc (w := w) _).trans (hb1.mono (by simp))
  clear C1 C2 C3
  go_wp2_with fail
  all_goals exact bodyPost_ret (v := .tuple #[.agg #[.int .i64 0, .int .i64 0], .int .i64 1]) (by simp [results, Tryd.results18, go_sem, hc] <;> omega) rfl ⟨rfl, by first | exact hB1 | exact hB1.setCell (by simp <;> omega) _ | exact (hB1.setCell (by simp <;> omega) _).setCell (by simp <;> omega) _⟩

set_option maxHeartbeats 1000000 in
theorem parse_c  (l l1 l2 fr to : List UInt8) (w : World) (g1 : trimPrefix l [91] = l1) (g2 : trimSuffix l1 [41] = l2) (b1 : hasPrefix l [91] = true) (b2 : hasSuffix l1 [41] = true) (g3 : Lib.cut l2 [44, 32] = (fr, to, false)) (n1 : l1.length < 4294967281) (n2 : l2.length < 4294967281) (he : Env w) :
    Calls Tryd.prog 18 #[.string ⟨l.toArray⟩] w (Per3 (0, 0, 1) w) := by
  have C1 := Lib.hid (fun w => cutP_l l w)
  rw [g1, b1] at C1
  have C2 := Lib.hid (fun w => cutS_l l1 w n1)
  rw [g2, b2] at C2
  have C3 := Lib.hid (fun w he => cut_l l2 w n2 he)
  rw [g3] at C3
  clear g1 g2 b1 b2 g3
  go_enter Tryd.func18, Tryd.ntmps18
  go_wp2_with fail
  (with_reducible refine (C1.out _).mono ?_)
  rintro e w1 ⟨rfl, rfl⟩
  go_wp2_with fail
  (with_reducible refine (C2.out _).mono ?_)
  rintro e w1 ⟨rfl, rfl⟩
  go_wp2_with fail
  (with_reducible refine (C3.out _ (he.below (Below.of_alloc _))).mono ?_)
  rintro e w1 ⟨rfl, hb1⟩
  obtain ⟨hc, _⟩ := bcell hb1
  simp only [World.size_alloc] at hc
  have hB1 := (Below.of_alloc (w := w) _).trans (hb1.mono (by simp))
  clear C1 C2 C3
  go_wp2_with fail
  all_goals exact bodyPost_ret (v := .tuple #[.agg #[.int .i64 0, .int .i64 0], .int .i64 1]) (by simp [results, Tryd.results18, go_sem, hc] <;> omega) rfl ⟨rfl, by first | exact hB1 | exact hB1.setCell (by simp <;> omega) _ | exact (hB1.setCell (by simp <;> omega) _).setCell (by simp <;> omega) _⟩

set_option maxHeartbeats 1000000 in
theorem parse_e0 (x : Bool) (l l1 l2 fr to : List UInt8) (w : World) (g1 : trimPrefix l [91] = l1) (g2 : trimSuffix l1 [41] = l2) (b1 : hasPrefix l [91] = true) (b2 : hasSuffix l1 [41] = true) (g3 : Lib.cut l2 [44, 32] = (fr, to, true)) (n1 : l1.length < 4294967281) (n2 : l2.length < 4294967281) (he : Env w) (n3 : fr.length < 4294967281) (n4 : to.length < 4294967281) (a b : Int) (k1 : numB fr = (a, false)) (k2 : numB to = (b, x)) (hto : to = forever) :
    Calls Tryd.prog 18 #[.string ⟨l.toArray⟩] w (Per3 (0, 0, 1) w) := by
  have C1 := Lib.hid (fun w => cutP_l l w)
  rw [g1, b1] at C1
  have C2 := Lib.hid (fun w => cutS_l l1 w n1)
  rw [g2, b2] at C2
  have C3 := Lib.hid (fun w he => cut_l l2 w n2 he)
  rw [g3] at C3
  clear g1 g2 b1 b2 g3
  have D1 := Lib.hid (fun w => number_l fr w n3)
  rw [k1] at D1
  have D2 := Lib.hid (fun w => number_l to w n4)
  rw [k2] at D2
  clear k1 k2
  have hev : (to == [102, 111, 114, 101, 118, 101, 114]) = true := by rw [hto]; decide
  clear hto
  go_enter Tryd.func18, Tryd.ntmps18
  go_wp2_with fail
  (with_reducible refine (C1.out _).mono ?_)
  rintro e w1 ⟨rfl, rfl⟩
  go_wp2_with fail
  (with_reducible refine (C2.out _).mono ?_)
  rintro e w1 ⟨rfl, rfl⟩
  go_wp2_with fail
  (with_reducible refine (C3.out _ (he.below (Below.of_alloc _))).mono ?_)
  rintro e w1 ⟨rfl, hb1⟩
  obtain ⟨hc, _⟩ := bcell hb1
  simp only [World.size_alloc] at hc
  have hB1 := (Below.of_alloc (w := w) _).trans (hb1.mono (by simp))
  clear C1 C2 C3
  go_wp2_with fail
  (with_reducible refine (D1.out _).mono ?_)
  rintro e w2 ⟨rfl, rfl⟩
  go_wp2_with fail
  (with_reducible refine (D2.out _).mono ?_)
  rintro e w2 ⟨rfl, rfl⟩
  clear D1 D2
  go_wp2_with fail
  all_goals exact bodyPost_ret (v := .tuple #[.agg #[.int .i64 0, .int .i64 0], .int .i64 1]) (by simp [results, Tryd.results18, go_sem, hc] <;> omega) rfl ⟨rfl, by first | exact hB1 | exact hB1.setCell (by simp <;> omega) _ | exact (hB1.setCell (by simp <;> omega) _).setCell (by simp <;> omega) _⟩

set_option maxHeartbeats 1000000 in
theorem parse_e1 (x : Bool) (l l1 l2 fr to : List UInt8) (w : World) (g1 : trimPrefix l [91] = l1) (g2 : trimSuffix l1 [41] = l2) (b1 : hasPrefix l [91] = true) (b2 : hasSuffix l1 [41] = true) (g3 : Lib.cut l2 [44, 32] = (fr, to, true)) (n1 : l1.length < 4294967281) (n2 : l2.length < 4294967281) (he : Env w) (n3 : fr.length < 4294967281) (n4 : to.length < 4294967281) (a b : Int) (k1 : numB fr = (a, true)) (k2 : numB to = (b, x)) (hto : to = forever) (hab : 1099511627776 ≤ a) :
    Calls Tryd.prog 18 #[.string ⟨l.toArray⟩] w (Per3 (0, 0, 6) w) := by
  have C1 := Lib.hid (fun w => cutP_l l w)
  rw [g1, b1] at C1
  have C2 := Lib.hid (fun w => cutS_l l1 w n1)
  rw [g2, b2] at C2
  have C3 := Lib.hid (fun w he => cut_l l2 w n2 he)
  rw [g3] at C3
  clear g1 g2 b1 b2 g3
  have D1 := Lib.hid (fun w => number_l fr w n3)
  rw [k1] at D1
  have D2 := Lib.hid (fun w => number_l to w n4)
  rw [k2] at D2
  clear k1 k2
  have hev : (to == [102, 111, 114, 101, 118, 101, 114]) = true := by rw [hto]; decide
  clear hto
  go_enter Tryd.func18, Tryd.ntmps18
  go_wp2_with fail
  (with_reducible refine (C1.out _).mono ?_)
  rintro e w1 ⟨rfl, rfl⟩
  go_wp2_with fail
  (with_reducible refine (C2.out _).mono ?_)
  rintro e w1 ⟨rfl, rfl⟩
  go_wp2_with fail
  (with_reducible refine (C3.out _ (he.below (Below.of_alloc _))).mono ?_)
  rintro e w1 ⟨rfl, hb1⟩
  obtain ⟨hc, _⟩ := bcell hb1
  simp only [World.size_alloc] at hc
  have hB1 := (Below.of_alloc (w := w) _).trans (hb1.mono (by simp))
  clear C1 C2 C3
  go_wp2_with fail
  (with_reducible refine (D1.out _).mono ?_)
  rintro e w2 ⟨rfl, rfl⟩
  go_wp2_with fail
  (with_reducible refine (D2.out _).mono ?_)
  rintro e w2 ⟨rfl, rfl⟩
  clear D1 D2
  go_wp2_with fail
  all_goals exact bodyPost_ret (v := .tuple #[.agg #[.int .i64 0, .int .i64 0], .int .i64 6]) (by simp [results, Tryd.results18, go_sem, hc] <;> omega) rfl ⟨rfl, by first | exact hB1 | exact hB1.setCell (by simp <;> omega) _ | exact (hB1.setCell (by simp <;> omega) _).setCell (by simp <;> omega) _⟩

set_option maxHeartbeats 1000000 in
theorem parse_e2 (x : Bool) (l l1 l2 fr to : List UInt8) (w : World) (g1 : trimPrefix l [91] = l1) (g2 : trimSuffix l1 [41] = l2) (b1 : hasPrefix l [91] = true) (b2 : hasSuffix l1 [41] = true) (g3 : Lib.cut l2 [44, 32] = (fr, to, true)) (n1 : l1.length < 4294967281) (n2 : l2.length < 4294967281) (he : Env w) (n3 : fr.length < 4294967281) (n4 : to.length < 4294967281) (a b : Int) (k1 : numB fr = (a, true)) (k2 : numB to = (b, x)) (hto : to = forever) (hab : ¬ 1099511627776 ≤ a) :
    Calls Tryd.prog 18 #[.string ⟨l.toArray⟩] w (Per3 (a, 1099511627776, 0) w) := by
  have C1 := Lib.hid (fun w => cutP_l l w)
  rw [g1, b1] at C1
  have C2 := Lib.hid (fun w => cutS_l l1 w n1)
  rw [g2, b2] at C2
  have C3 := Lib.hid (fun w he => cut_l l2 w n2 he)
  rw [g3] at C3
  clear g1 g2 b1 b2 g3
  have D1 := Lib.hid (fun w => number_l fr w n3)
  rw [k1] at D1
  have D2 := Lib.hid (fun w => number_l to w n4)
  rw [k2] at D2
  clear k1 k2
  have hev : (to == [102, 111, 114, 101, 118, 101, 114]) = true := by rw [hto]; decide
  clear hto
  go_enter Tryd.func18, Tryd.ntmps18
  go_wp2_with fail
  (with_reducible refine (C1.out _).mono ?_)
  rintro e w1 ⟨rfl, rfl⟩
  go_wp2_with fail
  (with_reducible refine (C2.out _).mono ?_)
  rintro e w1 ⟨rfl, rfl⟩
  go_wp2_with fail
  (with_reducible refine (C3.out _ (he.below (Below.of_alloc _))).mono ?_)
  rintro e w1 ⟨rfl, hb1⟩
  obtain ⟨hc, _⟩ := bcell hb1
  simp only [World.size_alloc] at hc
  have hB1 := (Below.of_alloc (w := w) _).trans (hb1.mono (by simp))
  clear C1 C2 C3
  go_wp2_with fail
  (with_reducible refine (D1.out _).mono ?_)
  rintro e w2 ⟨rfl, rfl⟩
  go_wp2_with fail
  (with_reducible refine (D2.out _).mono ?_)
  rintro e w2 ⟨rfl, rfl⟩
  clear D1 D2
  go_wp2_with fail
  all_goals exact bodyPost_ret (v := .tuple #[.agg #[.int .i64 a, .int .i64 1099511627776], .int .i64 0]) (by simp [results, Tryd.results18, go_sem, hc] <;> omega) rfl ⟨rfl, by first | exact hB1 | exact hB1.setCell (by simp <;> omega) _ | exact (hB1.setCell (by simp <;> omega) _).setCell (by simp <;> omega) _⟩

set_option maxHeartbeats 1000000 in
theorem parse_n0 (x : Bool) (l l1 l2 fr to : List UInt8) (w : World) (g1 : trimPrefix l [91] = l1) (g2 : trimSuffix l1 [41] = l2) (b1 : hasPrefix l [91] = true) (b2 : hasSuffix l1 [41] = true) (g3 : Lib.cut l2 [44, 32] = (fr, to, true)) (n1 : l1.length < 4294967281) (n2 : l2.length < 4294967281) (he : Env w) (n3 : fr.length < 4294967281) (n4 : to.length < 4294967281) (a b : Int) (k1 : numB fr = (a, false)) (k2 : numB to = (b, x))  (hto : ¬ to = forever) (hbF : b = 1099511627776) :
    Calls Tryd.prog 18 #[.string ⟨l.toArray⟩] w (Per3 (0, 0, 1) w) := by
  have C1 := Lib.hid (fun w => cutP_l l w)
  rw [g1, b1] at C1
  have C2 := Lib.hid (fun w => cutS_l l1 w n1)
  rw [g2, b2] at C2
  have C3 := Lib.hid (fun w he => cut_l l2 w n2 he)
  rw [g3] at C3
  clear g1 g2 b1 b2 g3
  have D1 := Lib.hid (fun w => number_l fr w n3)
  rw [k1] at D1
  have D2 := Lib.hid (fun w => number_l to w n4)
  rw [k2] at D2
  clear k1 k2
  have hev : (to == [102, 111, 114, 101, 118, 101, 114]) = false := by simpa [forever] using hto
  have hev2 : ¬ to = [102, 111, 114, 101, 118, 101, 114] := by simpa [forever] using hto
  clear hto
  have hq : (b == 1099511627776) = true := by simpa using hbF
  clear hbF
  go_enter Tryd.func18, Tryd.ntmps18
  go_wp2_with fail
  (with_reducible refine (C1.out _).mono ?_)
  rintro e w1 ⟨rfl, rfl⟩
  go_wp2_with fail
  (with_reducible refine (C2.out _).mono ?_)
  rintro e w1 ⟨rfl, rfl⟩
  go_wp2_with fail
  (with_reducible refine (C3.out _ (he.below (Below.of_alloc _))).mono ?_)
  rintro e w1 ⟨rfl, hb1⟩
  obtain ⟨hc, _⟩ := bcell hb1
  simp only [World.size_alloc] at hc
  have hB1 := (Below.of_alloc (w := w) _).trans (hb1.mono (by simp))
  clear C1 C2 C3
  go_wp2_with fail
  (with_reducible refine (D1.out _).mono ?_)
  rintro e w2 ⟨rfl, rfl⟩
  go_wp2_with fail
  (with_reducible refine (D2.out _).mono ?_)
  rintro e w2 ⟨rfl, rfl⟩
  clear D1 D2
  go_wp2_with fail
  all_goals exact bodyPost_ret (v := .tuple #[.agg #[.int .i64 0, .int .i64 0], .int .i64 1]) (by simp [results, Tryd.results18, go_sem, hc] <;> omega) rfl ⟨rfl, by first | exact hB1 | exact hB1.setCell (by simp <;> omega) _ | exact (hB1.setCell (by simp <;> omega) _).setCell (by simp <;> omega) _⟩

set_option maxHeartbeats 1000000 in
theorem parse_n1 (x : Bool) (l l1 l2 fr to : List UInt8) (w : World) (g1 : trimPrefix l [91] = l1) (g2 : trimSuffix l1 [41] = l2) (b1 : hasPrefix l [91] = true) (b2 : hasSuffix l1 [41] = true) (g3 : Lib.cut l2 [44, 32] = (fr, to, true)) (n1 : l1.length < 4294967281) (n2 : l2.length < 4294967281) (he : Env w) (n3 : fr.length < 4294967281) (n4 : to.length < 4294967281) (a b : Int) (k1 : numB fr = (a, false)) (k2 : numB to = (b, x))  (hto : ¬ to = forever) (hbF : ¬ b = 1099511627776) :
    Calls Tryd.prog 18 #[.string ⟨l.toArray⟩] w (Per3 (0, 0, 1) w) := by
  have C1 := Lib.hid (fun w => cutP_l l w)
  rw [g1, b1] at C1
  have C2 := Lib.hid (fun w => cutS_l l1 w n1)
  rw [g2, b2] at C2
  have C3 := Lib.hid (fun w he => cut_l l2 w n2 he)
  rw [g3] at C3
  clear g1 g2 b1 b2 g3
  have D1 := Lib.hid (fun w => number_l fr w n3)
  rw [k1] at D1
  have D2 := Lib.hid (fun w => number_l to w n4)
  rw [k2] at D2
  clear k1 k2
  have hev : (to == [102, 111, 114, 101, 118, 101, 114]) = false := by simpa [forever] using hto
  have hev2 : ¬ to = [102, 111, 114, 101, 118, 101, 114] := by simpa [forever] using hto
  clear hto
  have hq : (b == 1099511627776) = false := by simpa using hbF
  clear hbF
  go_enter Tryd.func18, Tryd.ntmps18
  go_wp2_with fail
  (with_reducible refine (C1.out _).mono ?_)
  rintro e w1 ⟨rfl, rfl⟩
  go_wp2_with fail
  (with_reducible refine (C2.out _).mono ?_)
  rintro e w1 ⟨rfl, rfl⟩
  go_wp2_with fail
  (with_reducible refine (C3.out _ (he.below (Below.of_alloc _))).mono ?_)
  rintro e w1 ⟨rfl, hb1⟩
  obtain ⟨hc, _⟩ := bcell hb1
  simp only [World.size_alloc] at hc
  have hB1 := (Below.of_alloc (w := w) _).trans (hb1.mono (by simp))
  clear C1 C2 C3
  go_wp2_with fail
  (with_reducible refine (D1.out _).mono ?_)
  rintro e w2 ⟨rfl, rfl⟩
  go_wp2_with fail
  (with_reducible refine (D2.out _).mono ?_)
  rintro e w2 ⟨rfl, rfl⟩
  clear D1 D2
  go_wp2_with fail
  all_goals exact bodyPost_ret (v := .tuple #[.agg #[.int .i64 0, .int .i64 0], .int .i64 1]) (by simp [results, Tryd.results18, go_sem, hc] <;> omega) rfl ⟨rfl, by first | exact hB1 | exact hB1.setCell (by simp <;> omega) _ | exact (hB1.setCell (by simp <;> omega) _).setCell (by simp <;> omega) _⟩

set_option maxHeartbeats 1000000 in
theorem parse_n2 (l l1 l2 fr to : List UInt8) (w : World) (g1 : trimPrefix l [91] = l1) (g2 : trimSuffix l1 [41] = l2) (b1 : hasPrefix l [91] = true) (b2 : hasSuffix l1 [41] = true) (g3 : Lib.cut l2 [44, 32] = (fr, to, true)) (n1 : l1.length < 4294967281) (n2 : l2.length < 4294967281) (he : Env w) (n3 : fr.length < 4294967281) (n4 : to.length < 4294967281) (a b : Int) (k1 : numB fr = (a, true)) (k2 : numB to = (b, false))  (hto : ¬ to = forever) (hbF : ¬ b = 1099511627776) :
    Calls Tryd.prog 18 #[.string ⟨l.toArray⟩] w (Per3 (0, 0, 1) w) := by
  have C1 := Lib.hid (fun w => cutP_l l w)
  rw [g1, b1] at C1
  have C2 := Lib.hid (fun w => cutS_l l1 w n1)
  rw [g2, b2] at C2
  have C3 := Lib.hid (fun w he => cut_l l2 w n2 he)
  rw [g3] at C3
  clear g1 g2 b1 b2 g3
  have D1 := Lib.hid (fun w => number_l fr w n3)
  rw [k1] at D1
  have D2 := Lib.hid (fun w => number_l to w n4)
  rw [k2] at D2
  clear k1 k2
  have hev : (to == [102, 111, 114, 101, 118, 101, 114]) = false := by simpa [forever] using hto
  have hev2 : ¬ to = [102, 111, 114, 101, 118, 101, 114] := by simpa [forever] using hto
  clear hto
  have hq : (b == 1099511627776) = false := by simpa using hbF
  clear hbF
  go_enter Tryd.func18, Tryd.ntmps18
  go_wp2_with fail
  (with_reducible refine (C1.out _).mono ?_)
  rintro e w1 ⟨rfl, rfl⟩
  go_wp2_with fail
  (with_reducible refine (C2.out _).mono ?_)
  rintro e w1 ⟨rfl, rfl⟩
  go_wp2_with fail
  (with_reducible refine (C3.out _ (he.below (Below.of_alloc _))).mono ?_)
  rintro e w1 ⟨rfl, hb1⟩
  obtain ⟨hc, _⟩ := bcell hb1
  simp only [World.size_alloc] at hc
  have hB1 := (Below.of_alloc (w := w) _).trans (hb1.mono (by simp))
  clear C1 C2 C3
  go_wp2_with fail
  (with_reducible refine (D1.out _).mono ?_)
  rintro e w2 ⟨rfl, rfl⟩
  go_wp2_with fail
  (with_reducible refine (D2.out _).mono ?_)
  rintro e w2 ⟨rfl, rfl⟩
  clear D1 D2
  go_wp2_with fail
  all_goals exact bodyPost_ret (v := .tuple #[.agg #[.int .i64 0, .int .i64 0], .int .i64 1]) (by simp [results, Tryd.results18, go_sem, hc] <;> omega) rfl ⟨rfl, by first | exact hB1 | exact hB1.setCell (by simp <;> omega) _ | exact (hB1.setCell (by simp <;> omega) _).setCell (by simp <;> omega) _⟩

set_option maxHeartbeats 1000000 in
theorem parse_n3 (l l1 l2 fr to : List UInt8) (w : World) (g1 : trimPrefix l [91] = l1) (g2 : trimSuffix l1 [41] = l2) (b1 : hasPrefix l [91] = true) (b2 : hasSuffix l1 [41] = true) (g3 : Lib.cut l2 [44, 32] = (fr, to, true)) (n1 : l1.length < 4294967281) (n2 : l2.length < 4294967281) (he : Env w) (n3 : fr.length < 4294967281) (n4 : to.length < 4294967281) (a b : Int) (k1 : numB fr = (a, true)) (k2 : numB to = (b, true))  (hto : ¬ to = forever) (hbF : b = 1099511627776) :
    Calls Tryd.prog 18 #[.string ⟨l.toArray⟩] w (Per3 (0, 0, 6) w) := by
  have C1 := Lib.hid (fun w => cutP_l l w)
  rw [g1, b1] at C1
  have C2 := Lib.hid (fun w => cutS_l l1 w n1)
  rw [g2, b2] at C2
  have C3 := Lib.hid (fun w he => cut_l l2 w n2 he)
  rw [g3] at C3
  clear g1 g2 b1 b2 g3
  have D1 := Lib.hid (fun w => number_l fr w n3)
  rw [k1] at D1
  have D2 := Lib.hid (fun w => number_l to w n4)
  rw [k2] at D2
  clear k1 k2
  have hev : (to == [102, 111, 114, 101, 118, 101, 114]) = false := by simpa [forever] using hto
  have hev2 : ¬ to = [102, 111, 114, 101, 118, 101, 114] := by simpa [forever] using hto
  clear hto
  subst hbF
  go_enter Tryd.func18, Tryd.ntmps18
  go_wp2_with fail
  (with_reducible refine (C1.out _).mono ?_)
  rintro e w1 ⟨rfl, rfl⟩
  go_wp2_with fail
  (with_reducible refine (C2.out _).mono ?_)
  rintro e w1 ⟨rfl, rfl⟩
  go_wp2_with fail
  (with_reducible refine (C3.out _ (he.below (Below.of_alloc _))).mono ?_)
  rintro e w1 ⟨rfl, hb1⟩
  obtain ⟨hc, _⟩ := bcell hb1
  simp only [World.size_alloc] at hc
  have hB1 := (Below.of_alloc (w := w) _).trans (hb1.mono (by simp))
  clear C1 C2 C3
  go_wp2_with fail
  (with_reducible refine (D1.out _).mono ?_)
  rintro e w2 ⟨rfl, rfl⟩
  go_wp2_with fail
  (with_reducible refine (D2.out _).mono ?_)
  rintro e w2 ⟨rfl, rfl⟩
  clear D1 D2
  go_wp2_with fail
  all_goals exact bodyPost_ret (v := .tuple #[.agg #[.int .i64 0, .int .i64 0], .int .i64 6]) (by simp [results, Tryd.results18, go_sem, hc] <;> omega) rfl ⟨rfl, by first | exact hB1 | exact hB1.setCell (by simp <;> omega) _ | exact (hB1.setCell (by simp <;> omega) _).setCell (by simp <;> omega) _⟩

set_option maxHeartbeats 1000000 in
theorem parse_n4 (l l1 l2 fr to : List UInt8) (w : World) (g1 : trimPrefix l [91] = l1) (g2 : trimSuffix l1 [41] = l2) (b1 : hasPrefix l [91] = true) (b2 : hasSuffix l1 [41] = true) (g3 : Lib.cut l2 [44, 32] = (fr, to, true)) (n1 : l1.length < 4294967281) (n2 : l2.length < 4294967281) (he : Env w) (n3 : fr.length < 4294967281) (n4 : to.length < 4294967281) (a b : Int) (k1 : numB fr = (a, true)) (k2 : numB to = (b, true))  (hto : ¬ to = forever) (hbF : ¬ b = 1099511627776) (hab : b ≤ a) :
    Calls Tryd.prog 18 #[.string ⟨l.toArray⟩] w (Per3 (0, 0, 6) w) := by
  have C1 := Lib.hid (fun w => cutP_l l w)
  rw [g1, b1] at C1
  have C2 := Lib.hid (fun w => cutS_l l1 w n1)
  rw [g2, b2] at C2
  have C3 := Lib.hid (fun w he => cut_l l2 w n2 he)
  rw [g3] at C3
  clear g1 g2 b1 b2 g3
  have D1 := Lib.hid (fun w => number_l fr w n3)
  rw [k1] at D1
  have D2 := Lib.hid (fun w => number_l to w n4)
  rw [k2] at D2
  clear k1 k2
  have hev : (to == [102, 111, 114, 101, 118, 101, 114]) = false := by simpa [forever] using hto
  have hev2 : ¬ to = [102, 111, 114, 101, 118, 101, 114] := by simpa [forever] using hto
  clear hto
  have hq : (b == 1099511627776) = false := by simpa using hbF
  clear hbF
  go_enter Tryd.func18, Tryd.ntmps18
  go_wp2_with fail
  (with_reducible refine (C1.out _).mono ?_)
  rintro e w1 ⟨rfl, rfl⟩
  go_wp2_with fail
  (with_reducible refine (C2.out _).mono ?_)
  rintro e w1 ⟨rfl, rfl⟩
  go_wp2_with fail
  (with_reducible refine (C3.out _ (he.below (Below.of_alloc _))).mono ?_)
  rintro e w1 ⟨rfl, hb1⟩
  obtain ⟨hc, _⟩ := bcell hb1
  simp only [World.size_alloc] at hc
  have hB1 := (Below.of_alloc (w := w) _).trans (hb1.mono (by simp))
  clear C1 C2 C3
  go_wp2_with fail
  (with_reducible refine (D1.out _).mono ?_)
  rintro e w2 ⟨rfl, rfl⟩
  go_wp2_with fail
  (with_reducible refine (D2.out _).mono ?_)
  rintro e w2 ⟨rfl, rfl⟩
  clear D1 D2
  go_wp2_with fail
  all_goals exact bodyPost_ret (v := .tuple #[.agg #[.int .i64 0, .int .i64 0], .int .i64 6]) (by simp [results, Tryd.results18, go_sem, hc] <;> omega) rfl ⟨rfl, by first | exact hB1 | exact hB1.setCell (by simp <;> omega) _ | exact (hB1.setCell (by simp <;> omega) _).setCell (by simp <;> omega) _⟩

set_option maxHeartbeats 1000000 in
theorem parse_n5 (l l1 l2 fr to : List UInt8) (w : World) (g1 : trimPrefix l [91] = l1) (g2 : trimSuffix l1 [41] = l2) (b1 : hasPrefix l [91] = true) (b2 : hasSuffix l1 [41] = true) (g3 : Lib.cut l2 [44, 32] = (fr, to, true)) (n1 : l1.length < 4294967281) (n2 : l2.length < 4294967281) (he : Env w) (n3 : fr.length < 4294967281) (n4 : to.length < 4294967281) (a b : Int) (k1 : numB fr = (a, true)) (k2 : numB to = (b, true))  (hto : ¬ to = forever) (hbF : ¬ b = 1099511627776) (hab : ¬ b ≤ a) (hb2 : 1099511627776 < b) :
    Calls Tryd.prog 18 #[.string ⟨l.toArray⟩] w (Per3 (0, 0, 6) w) := by
  have C1 := Lib.hid (fun w => cutP_l l w)
  rw [g1, b1] at C1
  have C2 := Lib.hid (fun w => cutS_l l1 w n1)
  rw [g2, b2] at C2
  have C3 := Lib.hid (fun w he => cut_l l2 w n2 he)
  rw [g3] at C3
  clear g1 g2 b1 b2 g3
  have D1 := Lib.hid (fun w => number_l fr w n3)
  rw [k1] at D1
  have D2 := Lib.hid (fun w => number_l to w n4)
  rw [k2] at D2
  clear k1 k2
  have hev : (to == [102, 111, 114, 101, 118, 101, 114]) = false := by simpa [forever] using hto
  have hev2 : ¬ to = [102, 111, 114, 101, 118, 101, 114] := by simpa [forever] using hto
  clear hto
  have hq : (b == 1099511627776) = false := by simpa using hbF
  clear hbF
  go_enter Tryd.func18, Tryd.ntmps18
  go_wp2_with fail
  (with_reducible refine (C1.out _).mono ?_)
  rintro e w1 ⟨rfl, rfl⟩
  go_wp2_with fail
  (with_reducible refine (C2.out _).mono ?_)
  rintro e w1 ⟨rfl, rfl⟩
  go_wp2_with fail
  (with_reducible refine (C3.out _ (he.below (Below.of_alloc _))).mono ?_)
  rintro e w1 ⟨rfl, hb1⟩
  obtain ⟨hc, _⟩ := bcell hb1
  simp only [World.size_alloc] at hc
  have hB1 := (Below.of_alloc (w := w) _).trans (hb1.mono (by simp))
  clear C1 C2 C3
  go_wp2_with fail
  (with_reducible refine (D1.out _).mono ?_)
  rintro e w2 ⟨rfl, rfl⟩
  go_wp2_with fail
  (with_reducible refine (D2.out _).mono ?_)
  rintro e w2 ⟨rfl, rfl⟩
  clear D1 D2
  go_wp2_with fail
  all_goals exact bodyPost_ret (v := .tuple #[.agg #[.int .i64 0, .int .i64 0], .int .i64 6]) (by simp [results, Tryd.results18, go_sem, hc] <;> omega) rfl ⟨rfl, by first | exact hB1 | exact hB1.setCell (by simp <;> omega) _ | exact (hB1.setCell (by simp <;> omega) _).setCell (by simp <;> omega) _⟩

set_option maxHeartbeats 1000000 in
theorem parse_n6 (l l1 l2 fr to : List UInt8) (w : World) (g1 : trimPrefix l [91] = l1) (g2 : trimSuffix l1 [41] = l2) (b1 : hasPrefix l [91] = true) (b2 : hasSuffix l1 [41] = true) (g3 : Lib.cut l2 [44, 32] = (fr, to, true)) (n1 : l1.length < 4294967281) (n2 : l2.length < 4294967281) (he : Env w) (n3 : fr.length < 4294967281) (n4 : to.length < 4294967281) (a b : Int) (k1 : numB fr = (a, true)) (k2 : numB to = (b, true))  (hto : ¬ to = forever) (hbF : ¬ b = 1099511627776) (hab : ¬ b ≤ a) (hb2 : ¬ 1099511627776 < b) :
    Calls Tryd.prog 18 #[.string ⟨l.toArray⟩] w (Per3 (a, b, 0) w) := by
  have C1 := Lib.hid (fun w => cutP_l l w)
  rw [g1, b1] at C1
  have C2 := Lib.hid (fun w => cutS_l l1 w n1)
  rw [g2, b2] at C2
  have C3 := Lib.hid (fun w he => cut_l l2 w n2 he)
  rw [g3] at C3
  clear g1 g2 b1 b2 g3
  have D1 := Lib.hid (fun w => number_l fr w n3)
  rw [k1] at D1
  have D2 := Lib.hid (fun w => number_l to w n4)
  rw [k2] at D2
  clear k1 k2
  have hev : (to == [102, 111, 114, 101, 118, 101, 114]) = false := by simpa [forever] using hto
  have hev2 : ¬ to = [102, 111, 114, 101, 118, 101, 114] := by simpa [forever] using hto
  clear hto
  have hq : (b == 1099511627776) = false := by simpa using hbF
  clear hbF
  go_enter Tryd.func18, Tryd.ntmps18
  go_wp2_with fail
  (with_reducible refine (C1.out _).mono ?_)
  rintro e w1 ⟨rfl, rfl⟩
  go_wp2_with fail
  (with_reducible refine (C2.out _).mono ?_)
  rintro e w1 ⟨rfl, rfl⟩
  go_wp2_with fail
  (with_reducible refine (C3.out _ (he.below (Below.of_alloc _))).mono ?_)
  rintro e w1 ⟨rfl, hb1⟩
  obtain ⟨hc, _⟩ := bcell hb1
  simp only [World.size_alloc] at hc
  have hB1 := (Below.of_alloc (w := w) _).trans (hb1.mono (by simp))
  clear C1 C2 C3
  go_wp2_with fail
  (with_reducible refine (D1.out _).mono ?_)
  rintro e w2 ⟨rfl, rfl⟩
  go_wp2_with fail
  (with_reducible refine (D2.out _).mono ?_)
  rintro e w2 ⟨rfl, rfl⟩
  clear D1 D2
  go_wp2_with fail
  all_goals exact bodyPost_ret (v := .tuple #[.agg #[.int .i64 a, .int .i64 b], .int .i64 0]) (by simp [results, Tryd.results18, go_sem, hc] <;> omega) rfl ⟨rfl, by first | exact hB1 | exact hB1.setCell (by simp <;> omega) _ | exact (hB1.setCell (by simp <;> omega) _).setCell (by simp <;> omega) _⟩

theorem cut_len {s sep fr to : List UInt8} {b : Bool} (h : Lib.cut s sep = (fr, to, b)) : fr.length ≤ s.length ∧ to.length ≤ s.length := by
  unfold Lib.cut at h
  split at h
  · simp only [Prod.mk.injEq] at h
    obtain ⟨rfl, rfl, _⟩ := h
    rw [List.length_take, List.length_drop]; omega
  · simp only [Prod.mk.injEq] at h
    obtain ⟨rfl, rfl, _⟩ := h
    simp
theorem parse_any (s : ByteArray) (w : World) (hs : s.size < 4294967281) (he : Env w) :
    Calls Tryd.prog 18 #[.string s] w (Per3 (progP s.data.toList) w) := by
  have hsl : s = ⟨s.data.toList.toArray⟩ := by simp
  have hlen : s.data.toList.length < 4294967281 := by rw [str_len]; exact hs
  generalize s.data.toList = l at *
  subst hsl
  clear hs
  have n1 : (trimPrefix l [91]).length < 4294967281 := Nat.lt_of_le_of_lt (trimPrefix_le l [91]) hlen
  have n2 : (trimSuffix (trimPrefix l [91]) [41]).length < 4294967281 := Nat.lt_of_le_of_lt (trimSuffix_le _ [41]) n1
  rcases g3 : Lib.cut (trimSuffix (trimPrefix l [91]) [41]) [44, 32] with ⟨fr, to, o3⟩
  have hcl := cut_len g3
  unfold progP okCut pieces
  rw [g3]
  simp only
  cases b1 : hasPrefix l [91]
  · rw [if_pos (by simp)]; exact parse_a _ _ l _ _ fr to w rfl rfl b1 rfl g3 n1 n2 he
  · cases b2 : hasSuffix (trimPrefix l [91]) [41]
    · rw [if_pos (by simp)]; exact parse_b _ l _ _ fr to w rfl rfl b1 b2 g3 n1 n2 he
    · cases o3
      · rw [if_pos (by simp)]; exact parse_c l _ _ fr to w rfl rfl b1 b2 g3 n1 n2 he
      · rw [if_neg (by simp)]
        have n3 : fr.length < 4294967281 := by omega
        have n4 : to.length < 4294967281 := by omega
        rcases k1 : numB fr with ⟨a, x⟩
        rcases k2 : numB to with ⟨b, y⟩
        unfold endB progR
        rw [k2]
        simp only
        by_cases hto : to = forever
        · rw [if_pos hto]
          simp only
          cases x
          · rw [if_pos (.inl rfl)]; exact parse_e0 _ l _ _ fr to w rfl rfl b1 b2 g3 n1 n2 he n3 n4 a b k1 k2 hto
          · rw [if_neg (by simp)]
            by_cases hab : 1099511627776 ≤ a
            · rw [if_pos (.inl hab)]; exact parse_e1 _ l _ _ fr to w rfl rfl b1 b2 g3 n1 n2 he n3 n4 a b k1 k2 hto hab
            · rw [if_neg (by omega)]; exact parse_e2 _ l _ _ fr to w rfl rfl b1 b2 g3 n1 n2 he n3 n4 a b k1 k2 hto hab
        · rw [if_neg hto]
          by_cases hbF : b = 1099511627776
          · rw [if_pos hbF]
            simp only
            cases x
            · rw [if_pos (.inl rfl)]; exact parse_n0 _ l _ _ fr to w rfl rfl b1 b2 g3 n1 n2 he n3 n4 a b k1 k2 hto hbF
            · cases y
              · have hb0 : b = 0 := by
                  unfold numB at k2
                  split at k2
                  · simp at k2
                  · simp only [Prod.mk.injEq] at k2; exact k2.1.symm
                omega
              · rw [if_neg (by simp), if_pos (.inr (by omega))]; exact parse_n3 l _ _ fr to w rfl rfl b1 b2 g3 n1 n2 he n3 n4 a b k1 k2 hto hbF
          · rw [if_neg hbF]
            simp only
            cases x
            · rw [if_pos (.inl rfl)]; exact parse_n1 _ l _ _ fr to w rfl rfl b1 b2 g3 n1 n2 he n3 n4 a b k1 k2 hto hbF
            · cases y
              · rw [if_pos (.inr rfl)]; exact parse_n2 l _ _ fr to w rfl rfl b1 b2 g3 n1 n2 he n3 n4 a b k1 k2 hto hbF
              · rw [if_neg (by simp)]
                by_cases hab : b ≤ a
                · rw [if_pos (.inl hab)]; exact parse_n4 l _ _ fr to w rfl rfl b1 b2 g3 n1 n2 he n3 n4 a b k1 k2 hto hbF hab
                · by_cases hb2 : 1099511627776 < b
                  · rw [if_pos (.inr hb2)]; exact parse_n5 l _ _ fr to w rfl rfl b1 b2 g3 n1 n2 he n3 n4 a b k1 k2 hto hbF hab hb2
                  · rw [if_neg (by omega)]; exact parse_n6 l _ _ fr to w rfl rfl b1 b2 g3 n1 n2 he n3 n4 a b k1 k2 hto hbF hab hb2
end Go.Proofs.YtipngnejiddkdaaDoor
