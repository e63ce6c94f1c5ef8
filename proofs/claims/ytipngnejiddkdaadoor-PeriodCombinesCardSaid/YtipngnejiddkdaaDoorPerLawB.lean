/-
  PeriodTells and PeriodCombines: the walks.
-/
import Derived.Test.YtipngnejiddkdaaDoorPerJ
namespace Go.Proofs.YtipngnejiddkdaaDoor
open Go.RowKit Go.Lib

set_option maxRecDepth 100000 in
set_option maxHeartbeats 4000000 in
theorem lawTells_any (f t a b x : Int) (w : World) (he : Env w) :
    Calls Tryd.prog 7 #[.agg #[.int .i64 f, .int .i64 t], .agg #[.int .i64 a, .int .i64 b], .int .i64 x] w fun e w' => e = .returned (.bool true) ∧ Below w.heap.size w w' := by
  have C0 := fun w => valid_any f t w
  have C1 := fun w => refValid_any f t w
  generalize validP f t = x0 at C0 C1
  have D0 := Lib.hid C0
  have D1 := Lib.hid C1
  clear C0 C1
  have C2 := fun w => contains_any f t x w
  have C3 := fun w => refContains_any f t x w
  generalize inP f t x = x1 at C2 C3
  have D2 := Lib.hid C2
  have D3 := Lib.hid C3
  clear C2 C3
  have C4 := fun w => covers_any f t a b w
  have C5 := fun w => refCovers_any f t a b w
  generalize covP f t a b = x2 at C4 C5
  have D4 := Lib.hid C4
  have D5 := Lib.hid C5
  clear C4 C5
  have C6 := fun w => overlaps_any f t a b w
  have C7 := fun w => refOverlaps_any f t a b w
  generalize ovP f t a b = x3 at C6 C7
  have D6 := Lib.hid C6
  have D7 := Lib.hid C7
  clear C6 C7
  have C8 := fun w => adjacent_any f t a b w
  have C9 := fun w => refAdjacent_any f t a b w
  generalize adP f t a b = x4 at C8 C9
  have D8 := Lib.hid C8
  have D9 := Lib.hid C9
  clear C8 C9
  go_enter Tryd.func7, Tryd.ntmps7
  go_wp2_with fail
  have hB0 := (Below.of_alloc (w := w) (.cells #[.int .i64 f, .int .i64 t] 23)).alloc (by simp) (.cells #[.int .i64 a, .int .i64 b] 23)
  have p0 := (((Below.of_alloc (w := w.alloc (.cells #[.int .i64 f, .int .i64 t] 23)) (.cells #[.int .i64 a, .int .i64 b] 23))).cell (p := ⟨w.heap.size, 0, none⟩) (by simp)).trans (box_cell w #[.int .i64 f, .int .i64 t] 23 0 (u := .int .i64 f) rfl)
  have p1 := (((Below.of_alloc (w := w.alloc (.cells #[.int .i64 f, .int .i64 t] 23)) (.cells #[.int .i64 a, .int .i64 b] 23))).cell (p := ⟨w.heap.size, 1, none⟩) (by simp)).trans (box_cell w #[.int .i64 f, .int .i64 t] 23 1 (u := .int .i64 t) rfl)
  have q0 := box_cell' (w.alloc (.cells #[.int .i64 f, .int .i64 t] 23)) (w.heap.size + 1) (by simp) #[.int .i64 a, .int .i64 b] 23 0 (u := .int .i64 a) rfl
  have q1 := box_cell' (w.alloc (.cells #[.int .i64 f, .int .i64 t] 23)) (w.heap.size + 1) (by simp) #[.int .i64 a, .int .i64 b] 23 1 (u := .int .i64 b) rfl
  have sz : w.heap.size + 1 < ((w.alloc (.cells #[.int .i64 f, .int .i64 t] 23)).alloc (.cells #[.int .i64 a, .int .i64 b] 23)).heap.size := by simp
  generalize (w.alloc (.cells #[.int .i64 f, .int .i64 t] 23)).alloc (.cells #[.int .i64 a, .int .i64 b] 23) = w0 at *
  have sz' : w.heap.size < w0.heap.size := by omega
  refine wp_region_noPanic ?_
  refine wp_region_held_drew (S := (fun w' => w'.cell? ⟨w.heap.size, 0, none⟩ = some (.int .i64 f) ∧ w'.cell? ⟨w.heap.size, 1, none⟩ = some (.int .i64 t) ∧ w'.cell? ⟨w.heap.size + 1, 0, none⟩ = some (.int .i64 a) ∧ w'.cell? ⟨w.heap.size + 1, 1, none⟩ = some (.int .i64 b))) (by kernel_rfl) ?_ (fun hHeld => ?_)
  · exact ⟨p0, p1, q0, q1⟩
  refine heldTake 0 (some 7) (v := ?_) rfl rfl (by kernel_rfl) (by kernel_rfl) (by kernel_rfl) (by rfl) hHeld (fun _ _ _ h => h) ?_ ?_
  rotate_left
  · intro w' hSw; (try dsimp only at hSw); go_simp <;> with_reducible rfl
  simp only [Act.put, List.setIfInBounds_toArray, List.set_cons_zero, List.set_cons_succ]
  refine heldTake 2 (some 9) (v := ?_) rfl rfl (by kernel_rfl) (by kernel_rfl) (by kernel_rfl) (by rfl) hHeld (fun _ _ _ h => h) ?_ ?_
  rotate_left
  · intro w' hSw; (try dsimp only at hSw); go_simp <;> with_reducible rfl
  simp only [Act.put, List.setIfInBounds_toArray, List.set_cons_zero, List.set_cons_succ]
  refine heldCall 1 (some 8) (f := ?_) (args := ?_) rfl rfl (by kernel_rfl) (by rfl) ?_ ?_
  rotate_left 2
  · go_simp <;> first | (constructor <;> with_reducible rfl) | with_reducible rfl
  (with_reducible refine (D0.out _).mono ?_)
  rintro e w1 ⟨rfl, hb1⟩
  have hB1 := hB0.drew.trans (hb1.mono hB0.drew.size)
  have p0 := (hb1.cell (p := ⟨w.heap.size, 0, none⟩) sz').trans p0
  have p1 := (hb1.cell (p := ⟨w.heap.size, 1, none⟩) sz').trans p1
  have q0 := (hb1.cell (p := ⟨w.heap.size + 1, 0, none⟩) sz).trans q0
  have q1 := (hb1.cell (p := ⟨w.heap.size + 1, 1, none⟩) sz).trans q1
  have sz := Nat.lt_of_lt_of_le sz hb1.size
  have sz' := Nat.lt_of_lt_of_le sz' hb1.size
  refine ⟨_, rfl, keepAnd ?_ (fun hNew => ?_)⟩
  · exact ⟨p0, p1, q0, q1⟩
  clear hHeld
  have hHeld := hNew
  clear hNew
  simp only [Act.put, List.setIfInBounds_toArray, List.set_cons_zero, List.set_cons_succ]
  refine heldCall 3 (some 10) (f := ?_) (args := ?_) rfl rfl (by kernel_rfl) (by rfl) ?_ ?_
  rotate_left 2
  · go_simp <;> first | (constructor <;> with_reducible rfl) | with_reducible rfl
  (with_reducible refine (D1.out _).mono ?_)
  rintro e w2 ⟨rfl, hb2⟩
  have hB2 := hB1.trans (hb2.mono hB1.size)
  have p0 := (hb2.cell (p := ⟨w.heap.size, 0, none⟩) sz').trans p0
  have p1 := (hb2.cell (p := ⟨w.heap.size, 1, none⟩) sz').trans p1
  have q0 := (hb2.cell (p := ⟨w.heap.size + 1, 0, none⟩) sz).trans q0
  have q1 := (hb2.cell (p := ⟨w.heap.size + 1, 1, none⟩) sz).trans q1
  have sz := Nat.lt_of_lt_of_le sz hb2.size
  have sz' := Nat.lt_of_lt_of_le sz' hb2.size
  refine ⟨_, rfl, keepAnd ?_ (fun hNew => ?_)⟩
  · exact ⟨p0, p1, q0, q1⟩
  clear hHeld
  have hHeld := hNew
  clear hNew
  simp only [Act.put, List.setIfInBounds_toArray, List.set_cons_zero, List.set_cons_succ]
  refine heldTake 4 (some 11) (v := ?_) rfl rfl (by kernel_rfl) (by kernel_rfl) (by kernel_rfl) (by rfl) hHeld (fun _ _ _ h => h) ?_ ?_
  rotate_left
  · intro w' hSw; (try dsimp only at hSw); go_simp <;> with_reducible rfl
  simp only [Act.put, List.setIfInBounds_toArray, List.set_cons_zero, List.set_cons_succ]
  refine heldTake 5 (some 12) (v := ?_) rfl rfl (by kernel_rfl) (by kernel_rfl) (by kernel_rfl) (by rfl) hHeld (fun _ _ _ h => h) ?_ ?_
  rotate_left
  · intro w' hSw; (try dsimp only at hSw); go_simp <;> with_reducible rfl
  simp only [Act.put, List.setIfInBounds_toArray, List.set_cons_zero, List.set_cons_succ]
  refine heldTake 6 (some 13) (v := ?_) rfl rfl (by kernel_rfl) (by kernel_rfl) (by kernel_rfl) (by rfl) hHeld (fun _ _ _ h => h) ?_ ?_
  rotate_left
  · intro w' hSw; (try dsimp only at hSw); go_simp <;> with_reducible rfl
  simp only [Act.put, List.setIfInBounds_toArray, List.set_cons_zero, List.set_cons_succ]
  refine heldTake 7 (some 14) (v := ?_) rfl rfl (by kernel_rfl) (by kernel_rfl) (by kernel_rfl) (by rfl) hHeld (fun _ _ _ h => h) ?_ ?_
  rotate_left
  · intro w' hSw; (try dsimp only at hSw); go_simp <;> with_reducible rfl
  simp only [Act.put, List.setIfInBounds_toArray, List.set_cons_zero, List.set_cons_succ]
  refine heldTake 9 (some 16) (v := ?_) rfl rfl (by kernel_rfl) (by kernel_rfl) (by kernel_rfl) (by rfl) hHeld (fun _ _ _ h => h) ?_ ?_
  rotate_left
  · intro w' hSw; (try dsimp only at hSw); go_simp <;> with_reducible rfl
  simp only [Act.put, List.setIfInBounds_toArray, List.set_cons_zero, List.set_cons_succ]
  refine heldTake 10 (some 17) (v := ?_) rfl rfl (by kernel_rfl) (by kernel_rfl) (by kernel_rfl) (by rfl) hHeld (fun _ _ _ h => h) ?_ ?_
  rotate_left
  · intro w' hSw; (try dsimp only at hSw); go_simp <;> with_reducible rfl
  simp only [Act.put, List.setIfInBounds_toArray, List.set_cons_zero, List.set_cons_succ]
  refine heldCall 8 (some 15) (f := ?_) (args := ?_) rfl rfl (by kernel_rfl) (by rfl) ?_ ?_
  rotate_left 2
  · go_simp <;> first | (constructor <;> with_reducible rfl) | with_reducible rfl
  (with_reducible refine (D2.out _).mono ?_)
  rintro e w3 ⟨rfl, hb3⟩
  have hB3 := hB2.trans (hb3.mono hB2.size)
  have p0 := (hb3.cell (p := ⟨w.heap.size, 0, none⟩) sz').trans p0
  have p1 := (hb3.cell (p := ⟨w.heap.size, 1, none⟩) sz').trans p1
  have q0 := (hb3.cell (p := ⟨w.heap.size + 1, 0, none⟩) sz).trans q0
  have q1 := (hb3.cell (p := ⟨w.heap.size + 1, 1, none⟩) sz).trans q1
  have sz := Nat.lt_of_lt_of_le sz hb3.size
  have sz' := Nat.lt_of_lt_of_le sz' hb3.size
  refine ⟨_, rfl, keepAnd ?_ (fun hNew => ?_)⟩
  · exact ⟨p0, p1, q0, q1⟩
  clear hHeld
  have hHeld := hNew
  clear hNew
  simp only [Act.put, List.setIfInBounds_toArray, List.set_cons_zero, List.set_cons_succ]
  refine heldCall 11 (some 18) (f := ?_) (args := ?_) rfl rfl (by kernel_rfl) (by rfl) ?_ ?_
  rotate_left 2
  · go_simp <;> first | (constructor <;> with_reducible rfl) | with_reducible rfl
  (with_reducible refine (D3.out _).mono ?_)
  rintro e w4 ⟨rfl, hb4⟩
  have hB4 := hB3.trans (hb4.mono hB3.size)
  have p0 := (hb4.cell (p := ⟨w.heap.size, 0, none⟩) sz').trans p0
  have p1 := (hb4.cell (p := ⟨w.heap.size, 1, none⟩) sz').trans p1
  have q0 := (hb4.cell (p := ⟨w.heap.size + 1, 0, none⟩) sz).trans q0
  have q1 := (hb4.cell (p := ⟨w.heap.size + 1, 1, none⟩) sz).trans q1
  have sz := Nat.lt_of_lt_of_le sz hb4.size
  have sz' := Nat.lt_of_lt_of_le sz' hb4.size
  refine ⟨_, rfl, keepAnd ?_ (fun hNew => ?_)⟩
  · exact ⟨p0, p1, q0, q1⟩
  clear hHeld
  have hHeld := hNew
  clear hNew
  simp only [Act.put, List.setIfInBounds_toArray, List.set_cons_zero, List.set_cons_succ]
  refine heldTake 12 (some 19) (v := ?_) rfl rfl (by kernel_rfl) (by kernel_rfl) (by kernel_rfl) (by rfl) hHeld (fun _ _ _ h => h) ?_ ?_
  rotate_left
  · intro w' hSw; (try dsimp only at hSw); go_simp <;> with_reducible rfl
  simp only [Act.put, List.setIfInBounds_toArray, List.set_cons_zero, List.set_cons_succ]
  refine heldTake 13 (some 20) (v := ?_) rfl rfl (by kernel_rfl) (by kernel_rfl) (by kernel_rfl) (by rfl) hHeld (fun _ _ _ h => h) ?_ ?_
  rotate_left
  · intro w' hSw; (try dsimp only at hSw); go_simp <;> with_reducible rfl
  simp only [Act.put, List.setIfInBounds_toArray, List.set_cons_zero, List.set_cons_succ]
  refine heldTake 14 (some 21) (v := ?_) rfl rfl (by kernel_rfl) (by kernel_rfl) (by kernel_rfl) (by rfl) hHeld (fun _ _ _ h => h) ?_ ?_
  rotate_left
  · intro w' hSw; (try dsimp only at hSw); go_simp <;> with_reducible rfl
  simp only [Act.put, List.setIfInBounds_toArray, List.set_cons_zero, List.set_cons_succ]
  refine heldTake 15 (some 22) (v := ?_) rfl rfl (by kernel_rfl) (by kernel_rfl) (by kernel_rfl) (by rfl) hHeld (fun _ _ _ h => h) ?_ ?_
  rotate_left
  · intro w' hSw; (try dsimp only at hSw); go_simp <;> with_reducible rfl
  simp only [Act.put, List.setIfInBounds_toArray, List.set_cons_zero, List.set_cons_succ]
  refine heldTake 16 (some 23) (v := ?_) rfl rfl (by kernel_rfl) (by kernel_rfl) (by kernel_rfl) (by rfl) hHeld (fun _ _ _ h => h) ?_ ?_
  rotate_left
  · intro w' hSw; (try dsimp only at hSw); go_simp <;> with_reducible rfl
  simp only [Act.put, List.setIfInBounds_toArray, List.set_cons_zero, List.set_cons_succ]
  refine heldTake 18 (some 25) (v := ?_) rfl rfl (by kernel_rfl) (by kernel_rfl) (by kernel_rfl) (by rfl) hHeld (fun _ _ _ h => h) ?_ ?_
  rotate_left
  · intro w' hSw; (try dsimp only at hSw); go_simp <;> with_reducible rfl
  simp only [Act.put, List.setIfInBounds_toArray, List.set_cons_zero, List.set_cons_succ]
  refine heldTake 19 (some 26) (v := ?_) rfl rfl (by kernel_rfl) (by kernel_rfl) (by kernel_rfl) (by rfl) hHeld (fun _ _ _ h => h) ?_ ?_
  rotate_left
  · intro w' hSw; (try dsimp only at hSw); go_simp <;> with_reducible rfl
  simp only [Act.put, List.setIfInBounds_toArray, List.set_cons_zero, List.set_cons_succ]
  refine heldCall 17 (some 24) (f := ?_) (args := ?_) rfl rfl (by kernel_rfl) (by rfl) ?_ ?_
  rotate_left 2
  · go_simp <;> first | (constructor <;> with_reducible rfl) | with_reducible rfl
  (with_reducible refine (D4.out _).mono ?_)
  rintro e w5 ⟨rfl, hb5⟩
  have hB5 := hB4.trans (hb5.mono hB4.size)
  have p0 := (hb5.cell (p := ⟨w.heap.size, 0, none⟩) sz').trans p0
  have p1 := (hb5.cell (p := ⟨w.heap.size, 1, none⟩) sz').trans p1
  have q0 := (hb5.cell (p := ⟨w.heap.size + 1, 0, none⟩) sz).trans q0
  have q1 := (hb5.cell (p := ⟨w.heap.size + 1, 1, none⟩) sz).trans q1
  have sz := Nat.lt_of_lt_of_le sz hb5.size
  have sz' := Nat.lt_of_lt_of_le sz' hb5.size
  refine ⟨_, rfl, keepAnd ?_ (fun hNew => ?_)⟩
  · exact ⟨p0, p1, q0, q1⟩
  clear hHeld
  have hHeld := hNew
  clear hNew
  simp only [Act.put, List.setIfInBounds_toArray, List.set_cons_zero, List.set_cons_succ]
  refine heldCall 20 (some 27) (f := ?_) (args := ?_) rfl rfl (by kernel_rfl) (by rfl) ?_ ?_
  rotate_left 2
  · go_simp <;> first | (constructor <;> with_reducible rfl) | with_reducible rfl
  (with_reducible refine (D5.out _).mono ?_)
  rintro e w6 ⟨rfl, hb6⟩
  have hB6 := hB5.trans (hb6.mono hB5.size)
  have p0 := (hb6.cell (p := ⟨w.heap.size, 0, none⟩) sz').trans p0
  have p1 := (hb6.cell (p := ⟨w.heap.size, 1, none⟩) sz').trans p1
  have q0 := (hb6.cell (p := ⟨w.heap.size + 1, 0, none⟩) sz).trans q0
  have q1 := (hb6.cell (p := ⟨w.heap.size + 1, 1, none⟩) sz).trans q1
  have sz := Nat.lt_of_lt_of_le sz hb6.size
  have sz' := Nat.lt_of_lt_of_le sz' hb6.size
  refine ⟨_, rfl, keepAnd ?_ (fun hNew => ?_)⟩
  · exact ⟨p0, p1, q0, q1⟩
  clear hHeld
  have hHeld := hNew
  clear hNew
  simp only [Act.put, List.setIfInBounds_toArray, List.set_cons_zero, List.set_cons_succ]
  refine heldTake 21 (some 28) (v := ?_) rfl rfl (by kernel_rfl) (by kernel_rfl) (by kernel_rfl) (by rfl) hHeld (fun _ _ _ h => h) ?_ ?_
  rotate_left
  · intro w' hSw; (try dsimp only at hSw); go_simp <;> with_reducible rfl
  simp only [Act.put, List.setIfInBounds_toArray, List.set_cons_zero, List.set_cons_succ]
  refine heldTake 22 (some 29) (v := ?_) rfl rfl (by kernel_rfl) (by kernel_rfl) (by kernel_rfl) (by rfl) hHeld (fun _ _ _ h => h) ?_ ?_
  rotate_left
  · intro w' hSw; (try dsimp only at hSw); go_simp <;> with_reducible rfl
  simp only [Act.put, List.setIfInBounds_toArray, List.set_cons_zero, List.set_cons_succ]
  refine heldTake 23 (some 30) (v := ?_) rfl rfl (by kernel_rfl) (by kernel_rfl) (by kernel_rfl) (by rfl) hHeld (fun _ _ _ h => h) ?_ ?_
  rotate_left
  · intro w' hSw; (try dsimp only at hSw); go_simp <;> with_reducible rfl
  simp only [Act.put, List.setIfInBounds_toArray, List.set_cons_zero, List.set_cons_succ]
  refine heldTake 24 (some 31) (v := ?_) rfl rfl (by kernel_rfl) (by kernel_rfl) (by kernel_rfl) (by rfl) hHeld (fun _ _ _ h => h) ?_ ?_
  rotate_left
  · intro w' hSw; (try dsimp only at hSw); go_simp <;> with_reducible rfl
  simp only [Act.put, List.setIfInBounds_toArray, List.set_cons_zero, List.set_cons_succ]
  refine heldTake 25 (some 32) (v := ?_) rfl rfl (by kernel_rfl) (by kernel_rfl) (by kernel_rfl) (by rfl) hHeld (fun _ _ _ h => h) ?_ ?_
  rotate_left
  · intro w' hSw; (try dsimp only at hSw); go_simp <;> with_reducible rfl
  simp only [Act.put, List.setIfInBounds_toArray, List.set_cons_zero, List.set_cons_succ]
  refine heldTake 27 (some 34) (v := ?_) rfl rfl (by kernel_rfl) (by kernel_rfl) (by kernel_rfl) (by rfl) hHeld (fun _ _ _ h => h) ?_ ?_
  rotate_left
  · intro w' hSw; (try dsimp only at hSw); go_simp <;> with_reducible rfl
  simp only [Act.put, List.setIfInBounds_toArray, List.set_cons_zero, List.set_cons_succ]
  refine heldTake 28 (some 35) (v := ?_) rfl rfl (by kernel_rfl) (by kernel_rfl) (by kernel_rfl) (by rfl) hHeld (fun _ _ _ h => h) ?_ ?_
  rotate_left
  · intro w' hSw; (try dsimp only at hSw); go_simp <;> with_reducible rfl
  simp only [Act.put, List.setIfInBounds_toArray, List.set_cons_zero, List.set_cons_succ]
  refine heldCall 26 (some 33) (f := ?_) (args := ?_) rfl rfl (by kernel_rfl) (by rfl) ?_ ?_
  rotate_left 2
  · go_simp <;> first | (constructor <;> with_reducible rfl) | with_reducible rfl
  (with_reducible refine (D6.out _).mono ?_)
  rintro e w7 ⟨rfl, hb7⟩
  have hB7 := hB6.trans (hb7.mono hB6.size)
  have p0 := (hb7.cell (p := ⟨w.heap.size, 0, none⟩) sz').trans p0
  have p1 := (hb7.cell (p := ⟨w.heap.size, 1, none⟩) sz').trans p1
  have q0 := (hb7.cell (p := ⟨w.heap.size + 1, 0, none⟩) sz).trans q0
  have q1 := (hb7.cell (p := ⟨w.heap.size + 1, 1, none⟩) sz).trans q1
  have sz := Nat.lt_of_lt_of_le sz hb7.size
  have sz' := Nat.lt_of_lt_of_le sz' hb7.size
  refine ⟨_, rfl, keepAnd ?_ (fun hNew => ?_)⟩
  · exact ⟨p0, p1, q0, q1⟩
  clear hHeld
  have hHeld := hNew
  clear hNew
  simp only [Act.put, List.setIfInBounds_toArray, List.set_cons_zero, List.set_cons_succ]
  refine heldCall 29 (some 36) (f := ?_) (args := ?_) rfl rfl (by kernel_rfl) (by rfl) ?_ ?_
  rotate_left 2
  · go_simp <;> first | (constructor <;> with_reducible rfl) | with_reducible rfl
  (with_reducible refine (D7.out _).mono ?_)
  rintro e w8 ⟨rfl, hb8⟩
  have hB8 := hB7.trans (hb8.mono hB7.size)
  have p0 := (hb8.cell (p := ⟨w.heap.size, 0, none⟩) sz').trans p0
  have p1 := (hb8.cell (p := ⟨w.heap.size, 1, none⟩) sz').trans p1
  have q0 := (hb8.cell (p := ⟨w.heap.size + 1, 0, none⟩) sz).trans q0
  have q1 := (hb8.cell (p := ⟨w.heap.size + 1, 1, none⟩) sz).trans q1
  have sz := Nat.lt_of_lt_of_le sz hb8.size
  have sz' := Nat.lt_of_lt_of_le sz' hb8.size
  refine ⟨_, rfl, keepAnd ?_ (fun hNew => ?_)⟩
  · exact ⟨p0, p1, q0, q1⟩
  clear hHeld
  have hHeld := hNew
  clear hNew
  simp only [Act.put, List.setIfInBounds_toArray, List.set_cons_zero, List.set_cons_succ]
  refine heldTake 30 (some 37) (v := ?_) rfl rfl (by kernel_rfl) (by kernel_rfl) (by kernel_rfl) (by rfl) hHeld (fun _ _ _ h => h) ?_ ?_
  rotate_left
  · intro w' hSw; (try dsimp only at hSw); go_simp <;> with_reducible rfl
  simp only [Act.put, List.setIfInBounds_toArray, List.set_cons_zero, List.set_cons_succ]
  refine heldTake 31 (some 38) (v := ?_) rfl rfl (by kernel_rfl) (by kernel_rfl) (by kernel_rfl) (by rfl) hHeld (fun _ _ _ h => h) ?_ ?_
  rotate_left
  · intro w' hSw; (try dsimp only at hSw); go_simp <;> with_reducible rfl
  simp only [Act.put, List.setIfInBounds_toArray, List.set_cons_zero, List.set_cons_succ]
  refine heldTake 32 (some 39) (v := ?_) rfl rfl (by kernel_rfl) (by kernel_rfl) (by kernel_rfl) (by rfl) hHeld (fun _ _ _ h => h) ?_ ?_
  rotate_left
  · intro w' hSw; (try dsimp only at hSw); go_simp <;> with_reducible rfl
  simp only [Act.put, List.setIfInBounds_toArray, List.set_cons_zero, List.set_cons_succ]
  refine heldTake 33 (some 40) (v := ?_) rfl rfl (by kernel_rfl) (by kernel_rfl) (by kernel_rfl) (by rfl) hHeld (fun _ _ _ h => h) ?_ ?_
  rotate_left
  · intro w' hSw; (try dsimp only at hSw); go_simp <;> with_reducible rfl
  simp only [Act.put, List.setIfInBounds_toArray, List.set_cons_zero, List.set_cons_succ]
  refine heldTake 34 (some 41) (v := ?_) rfl rfl (by kernel_rfl) (by kernel_rfl) (by kernel_rfl) (by rfl) hHeld (fun _ _ _ h => h) ?_ ?_
  rotate_left
  · intro w' hSw; (try dsimp only at hSw); go_simp <;> with_reducible rfl
  simp only [Act.put, List.setIfInBounds_toArray, List.set_cons_zero, List.set_cons_succ]
  refine heldTake 36 (some 43) (v := ?_) rfl rfl (by kernel_rfl) (by kernel_rfl) (by kernel_rfl) (by rfl) hHeld (fun _ _ _ h => h) ?_ ?_
  rotate_left
  · intro w' hSw; (try dsimp only at hSw); go_simp <;> with_reducible rfl
  simp only [Act.put, List.setIfInBounds_toArray, List.set_cons_zero, List.set_cons_succ]
  refine heldTake 37 (some 44) (v := ?_) rfl rfl (by kernel_rfl) (by kernel_rfl) (by kernel_rfl) (by rfl) hHeld (fun _ _ _ h => h) ?_ ?_
  rotate_left
  · intro w' hSw; (try dsimp only at hSw); go_simp <;> with_reducible rfl
  simp only [Act.put, List.setIfInBounds_toArray, List.set_cons_zero, List.set_cons_succ]
  refine heldCall 35 (some 42) (f := ?_) (args := ?_) rfl rfl (by kernel_rfl) (by rfl) ?_ ?_
  rotate_left 2
  · go_simp <;> first | (constructor <;> with_reducible rfl) | with_reducible rfl
  (with_reducible refine (D8.out _).mono ?_)
  rintro e w9 ⟨rfl, hb9⟩
  have hB9 := hB8.trans (hb9.mono hB8.size)
  have p0 := (hb9.cell (p := ⟨w.heap.size, 0, none⟩) sz').trans p0
  have p1 := (hb9.cell (p := ⟨w.heap.size, 1, none⟩) sz').trans p1
  have q0 := (hb9.cell (p := ⟨w.heap.size + 1, 0, none⟩) sz).trans q0
  have q1 := (hb9.cell (p := ⟨w.heap.size + 1, 1, none⟩) sz).trans q1
  have sz := Nat.lt_of_lt_of_le sz hb9.size
  have sz' := Nat.lt_of_lt_of_le sz' hb9.size
  refine ⟨_, rfl, keepAnd ?_ (fun hNew => ?_)⟩
  · exact ⟨p0, p1, q0, q1⟩
  clear hHeld
  have hHeld := hNew
  clear hNew
  simp only [Act.put, List.setIfInBounds_toArray, List.set_cons_zero, List.set_cons_succ]
  refine heldCall 38 (some 45) (f := ?_) (args := ?_) rfl rfl (by kernel_rfl) (by rfl) ?_ ?_
  rotate_left 2
  · go_simp <;> first | (constructor <;> with_reducible rfl) | with_reducible rfl
  (with_reducible refine (D9.out _).mono ?_)
  rintro e w10 ⟨rfl, hb10⟩
  have hB10 := hB9.trans (hb10.mono hB9.size)
  have p0 := (hb10.cell (p := ⟨w.heap.size, 0, none⟩) sz').trans p0
  have p1 := (hb10.cell (p := ⟨w.heap.size, 1, none⟩) sz').trans p1
  have q0 := (hb10.cell (p := ⟨w.heap.size + 1, 0, none⟩) sz).trans q0
  have q1 := (hb10.cell (p := ⟨w.heap.size + 1, 1, none⟩) sz).trans q1
  have sz := Nat.lt_of_lt_of_le sz hb10.size
  have sz' := Nat.lt_of_lt_of_le sz' hb10.size
  refine ⟨_, rfl, keepAnd ?_ (fun hNew => ?_)⟩
  · exact ⟨p0, p1, q0, q1⟩
  clear hHeld
  have hHeld := hNew
  clear hNew
  simp only [Act.put, List.setIfInBounds_toArray, List.set_cons_zero, List.set_cons_succ]
  refine heldTake 39 (some 46) (v := ?_) rfl rfl (by kernel_rfl) (by kernel_rfl) (by kernel_rfl) (by rfl) hHeld (fun _ _ _ h => h) ?_ ?_
  rotate_left
  · intro w' hSw; (try dsimp only at hSw); go_simp <;> with_reducible rfl
  simp only [Act.put, List.setIfInBounds_toArray, List.set_cons_zero, List.set_cons_succ]
  refine heldTake 40 (some 47) (v := ?_) rfl rfl (by kernel_rfl) (by kernel_rfl) (by kernel_rfl) (by rfl) hHeld (fun _ _ _ h => h) ?_ ?_
  rotate_left
  · intro w' hSw; (try dsimp only at hSw); go_simp <;> with_reducible rfl
  simp only [Act.put, List.setIfInBounds_toArray, List.set_cons_zero, List.set_cons_succ]
  refine heldTake 41 (some 48) (v := ?_) rfl rfl (by kernel_rfl) (by kernel_rfl) (by kernel_rfl) (by rfl) hHeld (fun _ _ _ h => h) ?_ ?_
  rotate_left
  · intro w' hSw; (try dsimp only at hSw); go_simp <;> with_reducible rfl
  simp only [Act.put, List.setIfInBounds_toArray, List.set_cons_zero, List.set_cons_succ]
  refine heldCall 42 (some 49) (f := ?_) (args := ?_) rfl rfl (by kernel_rfl) (by rfl) ?_ ?_
  rotate_left 2
  · go_simp <;> first | (constructor <;> with_reducible rfl) | with_reducible rfl
  (with_reducible refine (awake_any _ (he.below hB10)).mono ?_)
  rintro e w11 ⟨rfl, hb11⟩
  have hB11 := hB10.trans (hb11.mono hB10.size)
  have p0 := (hb11.cell (p := ⟨w.heap.size, 0, none⟩) sz').trans p0
  have p1 := (hb11.cell (p := ⟨w.heap.size, 1, none⟩) sz').trans p1
  have q0 := (hb11.cell (p := ⟨w.heap.size + 1, 0, none⟩) sz).trans q0
  have q1 := (hb11.cell (p := ⟨w.heap.size + 1, 1, none⟩) sz).trans q1
  have sz := Nat.lt_of_lt_of_le sz hb11.size
  have sz' := Nat.lt_of_lt_of_le sz' hb11.size
  refine ⟨_, rfl, keepAnd ?_ (fun hNew => ?_)⟩
  · exact ⟨p0, p1, q0, q1⟩
  clear hHeld
  have hHeld := hNew
  clear hNew
  simp only [Act.put, List.setIfInBounds_toArray, List.set_cons_zero, List.set_cons_succ]
  refine heldTake 43 (some 50) (v := ?_) rfl rfl (by kernel_rfl) (by kernel_rfl) (by kernel_rfl) (by rfl) hHeld (fun _ _ _ h => h) ?_ ?_
  rotate_left
  · intro w' hSw; (try dsimp only at hSw); go_simp <;> with_reducible rfl
  simp only [Act.put, List.setIfInBounds_toArray, List.set_cons_zero, List.set_cons_succ]
  refine heldTake 44 (some 6) (v := ?_) rfl rfl (by kernel_rfl) (by kernel_rfl) (by kernel_rfl) (by rfl) hHeld (fun _ _ _ h => h) ?_ ?_
  rotate_left
  · intro w' hSw; (try dsimp only at hSw); go_simp <;> with_reducible rfl
  simp only [Act.put, List.setIfInBounds_toArray, List.set_cons_zero, List.set_cons_succ]
  refine wpAnyH_done (by kernel_rfl) ?_ _
  refine NoPanic.normal ?_
  go_wp2_with fail
  go_ret
  exact ⟨rfl, hB11⟩

set_option maxRecDepth 100000 in
set_option maxHeartbeats 4000000 in
theorem lawCombines_any (f t a b : Int) (w : World) (he : Env w) :
    Calls Tryd.prog 3 #[.agg #[.int .i64 f, .int .i64 t], .agg #[.int .i64 a, .int .i64 b]] w fun e w' => e = .returned (.bool true) ∧ Below w.heap.size w w' := by
  have C0 := fun w => inter_any f t a b w
  have C1 := fun w => refInter_any f t a b w
  generalize interP f t a b = r at C0 C1
  obtain ⟨i0, i1, i2⟩ := r
  have C2 := fun w => merge_any f t a b w
  have C3 := fun w => refMerge_any f t a b w
  generalize mergeP f t a b = r at C2 C3
  obtain ⟨m0, m1, m2⟩ := r
  have C4 := fun w => sub_any f t a b w
  have C5 := fun w => refSub_any f t a b w
  generalize subP f t a b = L at C4 C5
  have D0 := Lib.hid C0
  clear C0
  have D1 := Lib.hid C1
  clear C1
  have D2 := Lib.hid C2
  clear C2
  have D3 := Lib.hid C3
  clear C3
  have D4 := Lib.hid C4
  clear C4
  have D5 := Lib.hid C5
  clear C5
  go_enter Tryd.func3, Tryd.ntmps3
  go_wp2_with fail
  have hB0 := (Below.of_alloc (w := w) (.cells #[.int .i64 f, .int .i64 t] 23)).alloc (by simp) (.cells #[.int .i64 a, .int .i64 b] 23)
  have p0 := (((Below.of_alloc (w := w.alloc (.cells #[.int .i64 f, .int .i64 t] 23)) (.cells #[.int .i64 a, .int .i64 b] 23))).cell (p := ⟨w.heap.size, 0, none⟩) (by simp)).trans (box_cell w #[.int .i64 f, .int .i64 t] 23 0 (u := .int .i64 f) rfl)
  have p1 := (((Below.of_alloc (w := w.alloc (.cells #[.int .i64 f, .int .i64 t] 23)) (.cells #[.int .i64 a, .int .i64 b] 23))).cell (p := ⟨w.heap.size, 1, none⟩) (by simp)).trans (box_cell w #[.int .i64 f, .int .i64 t] 23 1 (u := .int .i64 t) rfl)
  have q0 := box_cell' (w.alloc (.cells #[.int .i64 f, .int .i64 t] 23)) (w.heap.size + 1) (by simp) #[.int .i64 a, .int .i64 b] 23 0 (u := .int .i64 a) rfl
  have q1 := box_cell' (w.alloc (.cells #[.int .i64 f, .int .i64 t] 23)) (w.heap.size + 1) (by simp) #[.int .i64 a, .int .i64 b] 23 1 (u := .int .i64 b) rfl
  have sz : w.heap.size + 1 < ((w.alloc (.cells #[.int .i64 f, .int .i64 t] 23)).alloc (.cells #[.int .i64 a, .int .i64 b] 23)).heap.size := by simp
  generalize (w.alloc (.cells #[.int .i64 f, .int .i64 t] 23)).alloc (.cells #[.int .i64 a, .int .i64 b] 23) = w0 at *
  have sz' : w.heap.size < w0.heap.size := by omega
  (with_reducible refine (D0.out _).mono ?_)
  rintro e w1 ⟨rfl, hb1⟩
  have hB1 := hB0.trans (hb1.mono hB0.size)
  have p0 := (hb1.cell (p := ⟨w.heap.size, 0, none⟩) sz').trans p0
  have p1 := (hb1.cell (p := ⟨w.heap.size, 1, none⟩) sz').trans p1
  have q0 := (hb1.cell (p := ⟨w.heap.size + 1, 0, none⟩) sz).trans q0
  have q1 := (hb1.cell (p := ⟨w.heap.size + 1, 1, none⟩) sz).trans q1
  have sz := Nat.lt_of_lt_of_le sz hb1.size
  have sz' := Nat.lt_of_lt_of_le sz' hb1.size
  go_wp2_with fail
  have ha1a := Below.of_alloc (w := w1) (.cells #[.int .i64 i0, .int .i64 i1] 23)
  have hB1a := hB1.trans (ha1a.mono hB1.size)
  have p0 := (ha1a.cell (p := ⟨w.heap.size, 0, none⟩) sz').trans p0
  have p1 := (ha1a.cell (p := ⟨w.heap.size, 1, none⟩) sz').trans p1
  have q0 := (ha1a.cell (p := ⟨w.heap.size + 1, 0, none⟩) sz).trans q0
  have q1 := (ha1a.cell (p := ⟨w.heap.size + 1, 1, none⟩) sz).trans q1
  have sz := Nat.lt_of_lt_of_le sz ha1a.size
  have sz' := Nat.lt_of_lt_of_le sz' ha1a.size
  have g1 := box_cell w1 #[.int .i64 i0, .int .i64 i1] 23 0 (u := .int .i64 i0) rfl
  have g1' := box_cell w1 #[.int .i64 i0, .int .i64 i1] 23 1 (u := .int .i64 i1) rfl
  have s1 : w1.heap.size < (w1.alloc (.cells #[.int .i64 i0, .int .i64 i1] 23)).heap.size := by simp
  generalize w1.alloc (.cells #[.int .i64 i0, .int .i64 i1] 23) = w1a at *
  (with_reducible refine (D1.out _).mono ?_)
  rintro e w2 ⟨rfl, hb2⟩
  have hB2 := hB1a.trans (hb2.mono hB1a.size)
  have p0 := (hb2.cell (p := ⟨w.heap.size, 0, none⟩) sz').trans p0
  have p1 := (hb2.cell (p := ⟨w.heap.size, 1, none⟩) sz').trans p1
  have q0 := (hb2.cell (p := ⟨w.heap.size + 1, 0, none⟩) sz).trans q0
  have q1 := (hb2.cell (p := ⟨w.heap.size + 1, 1, none⟩) sz).trans q1
  have sz := Nat.lt_of_lt_of_le sz hb2.size
  have sz' := Nat.lt_of_lt_of_le sz' hb2.size
  have g1 := (hb2.cell (p := ⟨w1.heap.size, 0, none⟩) s1).trans g1
  have g1' := (hb2.cell (p := ⟨w1.heap.size, 1, none⟩) s1).trans g1'
  have s1 := Nat.lt_of_lt_of_le s1 hb2.size
  go_wp2_with fail
  have ha2a := Below.of_alloc (w := w2) (.cells #[.int .i64 i0, .int .i64 i1] 23)
  have hB2a := hB2.trans (ha2a.mono hB2.size)
  have p0 := (ha2a.cell (p := ⟨w.heap.size, 0, none⟩) sz').trans p0
  have p1 := (ha2a.cell (p := ⟨w.heap.size, 1, none⟩) sz').trans p1
  have q0 := (ha2a.cell (p := ⟨w.heap.size + 1, 0, none⟩) sz).trans q0
  have q1 := (ha2a.cell (p := ⟨w.heap.size + 1, 1, none⟩) sz).trans q1
  have sz := Nat.lt_of_lt_of_le sz ha2a.size
  have sz' := Nat.lt_of_lt_of_le sz' ha2a.size
  have g1 := (ha2a.cell (p := ⟨w1.heap.size, 0, none⟩) s1).trans g1
  have g1' := (ha2a.cell (p := ⟨w1.heap.size, 1, none⟩) s1).trans g1'
  have s1 := Nat.lt_of_lt_of_le s1 ha2a.size
  have g2 := box_cell w2 #[.int .i64 i0, .int .i64 i1] 23 0 (u := .int .i64 i0) rfl
  have g2' := box_cell w2 #[.int .i64 i0, .int .i64 i1] 23 1 (u := .int .i64 i1) rfl
  have s2 : w2.heap.size < (w2.alloc (.cells #[.int .i64 i0, .int .i64 i1] 23)).heap.size := by simp
  generalize w2.alloc (.cells #[.int .i64 i0, .int .i64 i1] 23) = w2a at *
  (with_reducible refine (D2.out _).mono ?_)
  rintro e w3 ⟨rfl, hb3⟩
  have hB3 := hB2a.trans (hb3.mono hB2a.size)
  have p0 := (hb3.cell (p := ⟨w.heap.size, 0, none⟩) sz').trans p0
  have p1 := (hb3.cell (p := ⟨w.heap.size, 1, none⟩) sz').trans p1
  have q0 := (hb3.cell (p := ⟨w.heap.size + 1, 0, none⟩) sz).trans q0
  have q1 := (hb3.cell (p := ⟨w.heap.size + 1, 1, none⟩) sz).trans q1
  have sz := Nat.lt_of_lt_of_le sz hb3.size
  have sz' := Nat.lt_of_lt_of_le sz' hb3.size
  have g1 := (hb3.cell (p := ⟨w1.heap.size, 0, none⟩) s1).trans g1
  have g1' := (hb3.cell (p := ⟨w1.heap.size, 1, none⟩) s1).trans g1'
  have s1 := Nat.lt_of_lt_of_le s1 hb3.size
  have g2 := (hb3.cell (p := ⟨w2.heap.size, 0, none⟩) s2).trans g2
  have g2' := (hb3.cell (p := ⟨w2.heap.size, 1, none⟩) s2).trans g2'
  have s2 := Nat.lt_of_lt_of_le s2 hb3.size
  go_wp2_with fail
  have ha3a := Below.of_alloc (w := w3) (.cells #[.int .i64 m0, .int .i64 m1] 23)
  have hB3a := hB3.trans (ha3a.mono hB3.size)
  have p0 := (ha3a.cell (p := ⟨w.heap.size, 0, none⟩) sz').trans p0
  have p1 := (ha3a.cell (p := ⟨w.heap.size, 1, none⟩) sz').trans p1
  have q0 := (ha3a.cell (p := ⟨w.heap.size + 1, 0, none⟩) sz).trans q0
  have q1 := (ha3a.cell (p := ⟨w.heap.size + 1, 1, none⟩) sz).trans q1
  have sz := Nat.lt_of_lt_of_le sz ha3a.size
  have sz' := Nat.lt_of_lt_of_le sz' ha3a.size
  have g1 := (ha3a.cell (p := ⟨w1.heap.size, 0, none⟩) s1).trans g1
  have g1' := (ha3a.cell (p := ⟨w1.heap.size, 1, none⟩) s1).trans g1'
  have s1 := Nat.lt_of_lt_of_le s1 ha3a.size
  have g2 := (ha3a.cell (p := ⟨w2.heap.size, 0, none⟩) s2).trans g2
  have g2' := (ha3a.cell (p := ⟨w2.heap.size, 1, none⟩) s2).trans g2'
  have s2 := Nat.lt_of_lt_of_le s2 ha3a.size
  have g3 := box_cell w3 #[.int .i64 m0, .int .i64 m1] 23 0 (u := .int .i64 m0) rfl
  have g3' := box_cell w3 #[.int .i64 m0, .int .i64 m1] 23 1 (u := .int .i64 m1) rfl
  have s3 : w3.heap.size < (w3.alloc (.cells #[.int .i64 m0, .int .i64 m1] 23)).heap.size := by simp
  generalize w3.alloc (.cells #[.int .i64 m0, .int .i64 m1] 23) = w3a at *
  (with_reducible refine (D3.out _).mono ?_)
  rintro e w4 ⟨rfl, hb4⟩
  have hB4 := hB3a.trans (hb4.mono hB3a.size)
  have p0 := (hb4.cell (p := ⟨w.heap.size, 0, none⟩) sz').trans p0
  have p1 := (hb4.cell (p := ⟨w.heap.size, 1, none⟩) sz').trans p1
  have q0 := (hb4.cell (p := ⟨w.heap.size + 1, 0, none⟩) sz).trans q0
  have q1 := (hb4.cell (p := ⟨w.heap.size + 1, 1, none⟩) sz).trans q1
  have sz := Nat.lt_of_lt_of_le sz hb4.size
  have sz' := Nat.lt_of_lt_of_le sz' hb4.size
  have g1 := (hb4.cell (p := ⟨w1.heap.size, 0, none⟩) s1).trans g1
  have g1' := (hb4.cell (p := ⟨w1.heap.size, 1, none⟩) s1).trans g1'
  have s1 := Nat.lt_of_lt_of_le s1 hb4.size
  have g2 := (hb4.cell (p := ⟨w2.heap.size, 0, none⟩) s2).trans g2
  have g2' := (hb4.cell (p := ⟨w2.heap.size, 1, none⟩) s2).trans g2'
  have s2 := Nat.lt_of_lt_of_le s2 hb4.size
  have g3 := (hb4.cell (p := ⟨w3.heap.size, 0, none⟩) s3).trans g3
  have g3' := (hb4.cell (p := ⟨w3.heap.size, 1, none⟩) s3).trans g3'
  have s3 := Nat.lt_of_lt_of_le s3 hb4.size
  go_wp2_with fail
  have ha4a := Below.of_alloc (w := w4) (.cells #[.int .i64 m0, .int .i64 m1] 23)
  have hB4a := hB4.trans (ha4a.mono hB4.size)
  have p0 := (ha4a.cell (p := ⟨w.heap.size, 0, none⟩) sz').trans p0
  have p1 := (ha4a.cell (p := ⟨w.heap.size, 1, none⟩) sz').trans p1
  have q0 := (ha4a.cell (p := ⟨w.heap.size + 1, 0, none⟩) sz).trans q0
  have q1 := (ha4a.cell (p := ⟨w.heap.size + 1, 1, none⟩) sz).trans q1
  have sz := Nat.lt_of_lt_of_le sz ha4a.size
  have sz' := Nat.lt_of_lt_of_le sz' ha4a.size
  have g1 := (ha4a.cell (p := ⟨w1.heap.size, 0, none⟩) s1).trans g1
  have g1' := (ha4a.cell (p := ⟨w1.heap.size, 1, none⟩) s1).trans g1'
  have s1 := Nat.lt_of_lt_of_le s1 ha4a.size
  have g2 := (ha4a.cell (p := ⟨w2.heap.size, 0, none⟩) s2).trans g2
  have g2' := (ha4a.cell (p := ⟨w2.heap.size, 1, none⟩) s2).trans g2'
  have s2 := Nat.lt_of_lt_of_le s2 ha4a.size
  have g3 := (ha4a.cell (p := ⟨w3.heap.size, 0, none⟩) s3).trans g3
  have g3' := (ha4a.cell (p := ⟨w3.heap.size, 1, none⟩) s3).trans g3'
  have s3 := Nat.lt_of_lt_of_le s3 ha4a.size
  have g4 := box_cell w4 #[.int .i64 m0, .int .i64 m1] 23 0 (u := .int .i64 m0) rfl
  have g4' := box_cell w4 #[.int .i64 m0, .int .i64 m1] 23 1 (u := .int .i64 m1) rfl
  have s4 : w4.heap.size < (w4.alloc (.cells #[.int .i64 m0, .int .i64 m1] 23)).heap.size := by simp
  generalize w4.alloc (.cells #[.int .i64 m0, .int .i64 m1] 23) = w4a at *
  refine wp_region_noPanic ?_
  refine wp_region_held_drew (S := (fun w' => w'.cell? ⟨w.heap.size, 0, none⟩ = some (.int .i64 f) ∧ w'.cell? ⟨w.heap.size, 1, none⟩ = some (.int .i64 t) ∧ w'.cell? ⟨w.heap.size + 1, 0, none⟩ = some (.int .i64 a) ∧ w'.cell? ⟨w.heap.size + 1, 1, none⟩ = some (.int .i64 b) ∧ w'.cell? ⟨w1.heap.size, 0, none⟩ = some (.int .i64 i0) ∧ w'.cell? ⟨w1.heap.size, 1, none⟩ = some (.int .i64 i1) ∧ w'.cell? ⟨w2.heap.size, 0, none⟩ = some (.int .i64 i0) ∧ w'.cell? ⟨w2.heap.size, 1, none⟩ = some (.int .i64 i1) ∧ w'.cell? ⟨w3.heap.size, 0, none⟩ = some (.int .i64 m0) ∧ w'.cell? ⟨w3.heap.size, 1, none⟩ = some (.int .i64 m1) ∧ w'.cell? ⟨w4.heap.size, 0, none⟩ = some (.int .i64 m0) ∧ w'.cell? ⟨w4.heap.size, 1, none⟩ = some (.int .i64 m1))) (by kernel_rfl) ?_ (fun hHeld => ?_)
  · exact ⟨p0, p1, q0, q1, g1, g1', g2, g2', g3, g3', g4, g4'⟩
  refine heldTake 0 (some 37) (v := ?_) rfl rfl (by kernel_rfl) (by kernel_rfl) (by kernel_rfl) (by rfl) hHeld (fun _ _ _ h => h) ?_ ?_
  rotate_left
  · intro w' hSw; (try dsimp only at hSw); go_simp <;> with_reducible rfl
  simp only [Act.put, List.setIfInBounds_toArray, List.set_cons_zero, List.set_cons_succ]
  refine heldTake 1 (some 38) (v := ?_) rfl rfl (by kernel_rfl) (by kernel_rfl) (by kernel_rfl) (by rfl) hHeld (fun _ _ _ h => h) ?_ ?_
  rotate_left
  · intro w' hSw; (try dsimp only at hSw); go_simp <;> with_reducible rfl
  simp only [Act.put, List.setIfInBounds_toArray, List.set_cons_zero, List.set_cons_succ]
  refine heldTake 2 (some 39) (v := ?_) rfl rfl (by kernel_rfl) (by kernel_rfl) (by kernel_rfl) (by rfl) hHeld (fun _ _ _ h => h) ?_ ?_
  rotate_left
  · intro w' hSw; (try dsimp only at hSw); go_simp <;> with_reducible rfl
  simp only [Act.put, List.setIfInBounds_toArray, List.set_cons_zero, List.set_cons_succ]
  refine heldTake 3 (some 40) (v := ?_) rfl rfl (by kernel_rfl) (by kernel_rfl) (by kernel_rfl) (by rfl) hHeld (fun _ _ _ h => h) ?_ ?_
  rotate_left
  · intro w' hSw; (try dsimp only at hSw); go_simp <;> with_reducible rfl
  simp only [Act.put, List.setIfInBounds_toArray, List.set_cons_zero, List.set_cons_succ]
  refine heldTake 4 (some 41) (v := ?_) rfl rfl (by kernel_rfl) (by kernel_rfl) (by kernel_rfl) (by rfl) hHeld (fun _ _ _ h => h) ?_ ?_
  rotate_left
  · intro w' hSw; (try dsimp only at hSw); go_simp <;> with_reducible rfl
  simp only [Act.put, List.setIfInBounds_toArray, List.set_cons_zero, List.set_cons_succ]
  refine heldTake 5 (some 42) (v := ?_) rfl rfl (by kernel_rfl) (by kernel_rfl) (by kernel_rfl) (by rfl) hHeld (fun _ _ _ h => h) ?_ ?_
  rotate_left
  · intro w' hSw; (try dsimp only at hSw); go_simp <;> with_reducible rfl
  simp only [Act.put, List.setIfInBounds_toArray, List.set_cons_zero, List.set_cons_succ]
  refine heldTake 6 (some 43) (v := ?_) rfl rfl (by kernel_rfl) (by kernel_rfl) (by kernel_rfl) (by rfl) hHeld (fun _ _ _ h => h) ?_ ?_
  rotate_left
  · intro w' hSw; (try dsimp only at hSw); go_simp <;> with_reducible rfl
  simp only [Act.put, List.setIfInBounds_toArray, List.set_cons_zero, List.set_cons_succ]
  refine heldTake 7 (some 44) (v := ?_) rfl rfl (by kernel_rfl) (by kernel_rfl) (by kernel_rfl) (by rfl) hHeld (fun _ _ _ h => h) ?_ ?_
  rotate_left
  · intro w' hSw; (try dsimp only at hSw); go_simp <;> with_reducible rfl
  simp only [Act.put, List.setIfInBounds_toArray, List.set_cons_zero, List.set_cons_succ]
  refine heldTake 8 (some 45) (v := ?_) rfl rfl (by kernel_rfl) (by kernel_rfl) (by kernel_rfl) (by rfl) hHeld (fun _ _ _ h => h) ?_ ?_
  rotate_left
  · intro w' hSw; (try dsimp only at hSw); go_simp <;> with_reducible rfl
  simp only [Act.put, List.setIfInBounds_toArray, List.set_cons_zero, List.set_cons_succ]
  refine heldTake 9 (some 46) (v := ?_) rfl rfl (by kernel_rfl) (by kernel_rfl) (by kernel_rfl) (by rfl) hHeld (fun _ _ _ h => h) ?_ ?_
  rotate_left
  · intro w' hSw; (try dsimp only at hSw); go_simp <;> with_reducible rfl
  simp only [Act.put, List.setIfInBounds_toArray, List.set_cons_zero, List.set_cons_succ]
  refine heldTake 10 (some 47) (v := ?_) rfl rfl (by kernel_rfl) (by kernel_rfl) (by kernel_rfl) (by rfl) hHeld (fun _ _ _ h => h) ?_ ?_
  rotate_left
  · intro w' hSw; (try dsimp only at hSw); go_simp <;> with_reducible rfl
  simp only [Act.put, List.setIfInBounds_toArray, List.set_cons_zero, List.set_cons_succ]
  refine heldTake 11 (some 48) (v := ?_) rfl rfl (by kernel_rfl) (by kernel_rfl) (by kernel_rfl) (by rfl) hHeld (fun _ _ _ h => h) ?_ ?_
  rotate_left
  · intro w' hSw; (try dsimp only at hSw); go_simp <;> with_reducible rfl
  simp only [Act.put, List.setIfInBounds_toArray, List.set_cons_zero, List.set_cons_succ]
  refine heldTake 12 (some 49) (v := ?_) rfl rfl (by kernel_rfl) (by kernel_rfl) (by kernel_rfl) (by rfl) hHeld (fun _ _ _ h => h) ?_ ?_
  rotate_left
  · intro w' hSw; (try dsimp only at hSw); go_simp <;> with_reducible rfl
  simp only [Act.put, List.setIfInBounds_toArray, List.set_cons_zero, List.set_cons_succ]
  refine heldTake 13 (some 50) (v := ?_) rfl rfl (by kernel_rfl) (by kernel_rfl) (by kernel_rfl) (by rfl) hHeld (fun _ _ _ h => h) ?_ ?_
  rotate_left
  · intro w' hSw; (try dsimp only at hSw); go_simp <;> with_reducible rfl
  simp only [Act.put, List.setIfInBounds_toArray, List.set_cons_zero, List.set_cons_succ]
  refine heldTake 14 (some 51) (v := ?_) rfl rfl (by kernel_rfl) (by kernel_rfl) (by kernel_rfl) (by rfl) hHeld (fun _ _ _ h => h) ?_ ?_
  rotate_left
  · intro w' hSw; (try dsimp only at hSw); go_simp <;> with_reducible rfl
  simp only [Act.put, List.setIfInBounds_toArray, List.set_cons_zero, List.set_cons_succ]
  refine heldTake 15 (some 52) (v := ?_) rfl rfl (by kernel_rfl) (by kernel_rfl) (by kernel_rfl) (by rfl) hHeld (fun _ _ _ h => h) ?_ ?_
  rotate_left
  · intro w' hSw; (try dsimp only at hSw); go_simp <;> with_reducible rfl
  simp only [Act.put, List.setIfInBounds_toArray, List.set_cons_zero, List.set_cons_succ]
  refine heldTake 16 (some 53) (v := ?_) rfl rfl (by kernel_rfl) (by kernel_rfl) (by kernel_rfl) (by rfl) hHeld (fun _ _ _ h => h) ?_ ?_
  rotate_left
  · intro w' hSw; (try dsimp only at hSw); go_simp <;> with_reducible rfl
  simp only [Act.put, List.setIfInBounds_toArray, List.set_cons_zero, List.set_cons_succ]
  refine heldTake 17 (some 54) (v := ?_) rfl rfl (by kernel_rfl) (by kernel_rfl) (by kernel_rfl) (by rfl) hHeld (fun _ _ _ h => h) ?_ ?_
  rotate_left
  · intro w' hSw; (try dsimp only at hSw); go_simp <;> with_reducible rfl
  simp only [Act.put, List.setIfInBounds_toArray, List.set_cons_zero, List.set_cons_succ]
  refine heldTake 18 (some 55) (v := ?_) rfl rfl (by kernel_rfl) (by kernel_rfl) (by kernel_rfl) (by rfl) hHeld (fun _ _ _ h => h) ?_ ?_
  rotate_left
  · intro w' hSw; (try dsimp only at hSw); go_simp <;> with_reducible rfl
  simp only [Act.put, List.setIfInBounds_toArray, List.set_cons_zero, List.set_cons_succ]
  refine heldTake 19 (some 56) (v := ?_) rfl rfl (by kernel_rfl) (by kernel_rfl) (by kernel_rfl) (by rfl) hHeld (fun _ _ _ h => h) ?_ ?_
  rotate_left
  · intro w' hSw; (try dsimp only at hSw); go_simp <;> with_reducible rfl
  simp only [Act.put, List.setIfInBounds_toArray, List.set_cons_zero, List.set_cons_succ]
  refine heldTake 20 (some 57) (v := ?_) rfl rfl (by kernel_rfl) (by kernel_rfl) (by kernel_rfl) (by rfl) hHeld (fun _ _ _ h => h) ?_ ?_
  rotate_left
  · intro w' hSw; (try dsimp only at hSw); go_simp <;> with_reducible rfl
  simp only [Act.put, List.setIfInBounds_toArray, List.set_cons_zero, List.set_cons_succ]
  refine heldTake 22 (some 59) (v := ?_) rfl rfl (by kernel_rfl) (by kernel_rfl) (by kernel_rfl) (by rfl) hHeld (fun _ _ _ h => h) ?_ ?_
  rotate_left
  · intro w' hSw; (try dsimp only at hSw); go_simp <;> with_reducible rfl
  simp only [Act.put, List.setIfInBounds_toArray, List.set_cons_zero, List.set_cons_succ]
  refine heldTake 23 (some 60) (v := ?_) rfl rfl (by kernel_rfl) (by kernel_rfl) (by kernel_rfl) (by rfl) hHeld (fun _ _ _ h => h) ?_ ?_
  rotate_left
  · intro w' hSw; (try dsimp only at hSw); go_simp <;> with_reducible rfl
  simp only [Act.put, List.setIfInBounds_toArray, List.set_cons_zero, List.set_cons_succ]
  refine heldCall 21 (some 58) (f := ?_) (args := ?_) rfl rfl (by kernel_rfl) (by rfl) ?_ ?_
  rotate_left 2
  · go_simp <;> first | (constructor <;> with_reducible rfl) | with_reducible rfl
  (with_reducible refine (D4.out _).mono ?_)
  rintro e w5 ⟨v5, rfl, hr5, hb5⟩
  have hB5 := hB4a.drew.trans (hb5.mono hB4a.drew.size)
  have p0 := (hb5.cell (p := ⟨w.heap.size, 0, none⟩) sz').trans p0
  have p1 := (hb5.cell (p := ⟨w.heap.size, 1, none⟩) sz').trans p1
  have q0 := (hb5.cell (p := ⟨w.heap.size + 1, 0, none⟩) sz).trans q0
  have q1 := (hb5.cell (p := ⟨w.heap.size + 1, 1, none⟩) sz).trans q1
  have sz := Nat.lt_of_lt_of_le sz hb5.size
  have sz' := Nat.lt_of_lt_of_le sz' hb5.size
  have g1 := (hb5.cell (p := ⟨w1.heap.size, 0, none⟩) s1).trans g1
  have g1' := (hb5.cell (p := ⟨w1.heap.size, 1, none⟩) s1).trans g1'
  have s1 := Nat.lt_of_lt_of_le s1 hb5.size
  have g2 := (hb5.cell (p := ⟨w2.heap.size, 0, none⟩) s2).trans g2
  have g2' := (hb5.cell (p := ⟨w2.heap.size, 1, none⟩) s2).trans g2'
  have s2 := Nat.lt_of_lt_of_le s2 hb5.size
  have g3 := (hb5.cell (p := ⟨w3.heap.size, 0, none⟩) s3).trans g3
  have g3' := (hb5.cell (p := ⟨w3.heap.size, 1, none⟩) s3).trans g3'
  have s3 := Nat.lt_of_lt_of_le s3 hb5.size
  have g4 := (hb5.cell (p := ⟨w4.heap.size, 0, none⟩) s4).trans g4
  have g4' := (hb5.cell (p := ⟨w4.heap.size, 1, none⟩) s4).trans g4'
  have s4 := Nat.lt_of_lt_of_le s4 hb5.size
  refine ⟨_, rfl, keepAnd ?_ (fun hNew => ?_)⟩
  · exact ⟨p0, p1, q0, q1, g1, g1', g2, g2', g3, g3', g4, g4'⟩
  clear hHeld
  have hHeld := hNew
  clear hNew
  simp only [Act.put, List.setIfInBounds_toArray, List.set_cons_zero, List.set_cons_succ]
  refine heldCall 24 (some 61) (f := ?_) (args := ?_) rfl rfl (by kernel_rfl) (by rfl) ?_ ?_
  rotate_left 2
  · go_simp <;> first | (constructor <;> with_reducible rfl) | with_reducible rfl
  (with_reducible refine (D5.out _).mono ?_)
  rintro e w6 ⟨v6, rfl, hr6, hb6⟩
  have hB6 := hB5.trans (hb6.mono hB5.size)
  have p0 := (hb6.cell (p := ⟨w.heap.size, 0, none⟩) sz').trans p0
  have p1 := (hb6.cell (p := ⟨w.heap.size, 1, none⟩) sz').trans p1
  have q0 := (hb6.cell (p := ⟨w.heap.size + 1, 0, none⟩) sz).trans q0
  have q1 := (hb6.cell (p := ⟨w.heap.size + 1, 1, none⟩) sz).trans q1
  have sz := Nat.lt_of_lt_of_le sz hb6.size
  have sz' := Nat.lt_of_lt_of_le sz' hb6.size
  have g1 := (hb6.cell (p := ⟨w1.heap.size, 0, none⟩) s1).trans g1
  have g1' := (hb6.cell (p := ⟨w1.heap.size, 1, none⟩) s1).trans g1'
  have s1 := Nat.lt_of_lt_of_le s1 hb6.size
  have g2 := (hb6.cell (p := ⟨w2.heap.size, 0, none⟩) s2).trans g2
  have g2' := (hb6.cell (p := ⟨w2.heap.size, 1, none⟩) s2).trans g2'
  have s2 := Nat.lt_of_lt_of_le s2 hb6.size
  have g3 := (hb6.cell (p := ⟨w3.heap.size, 0, none⟩) s3).trans g3
  have g3' := (hb6.cell (p := ⟨w3.heap.size, 1, none⟩) s3).trans g3'
  have s3 := Nat.lt_of_lt_of_le s3 hb6.size
  have g4 := (hb6.cell (p := ⟨w4.heap.size, 0, none⟩) s4).trans g4
  have g4' := (hb6.cell (p := ⟨w4.heap.size, 1, none⟩) s4).trans g4'
  have s4 := Nat.lt_of_lt_of_le s4 hb6.size
  refine ⟨_, rfl, keepAnd ?_ (fun hNew => ?_)⟩
  · exact ⟨p0, p1, q0, q1, g1, g1', g2, g2', g3, g3', g4, g4'⟩
  clear hHeld
  have hHeld := hNew
  clear hNew
  simp only [Act.put, List.setIfInBounds_toArray, List.set_cons_zero, List.set_cons_succ]
  refine heldCall 25 (some 62) (f := ?_) (args := ?_) rfl rfl (by kernel_rfl) (by rfl) ?_ ?_
  rotate_left 2
  · go_simp <;> first | (constructor <;> with_reducible rfl) | with_reducible rfl
  (with_reducible refine (same_same v5 v6 L _ (hr5.below hb6) hr6).mono ?_)
  rintro e w7 ⟨rfl, hb7⟩
  have hB7 := hB6.trans (hb7.mono hB6.size)
  have p0 := (hb7.cell (p := ⟨w.heap.size, 0, none⟩) sz').trans p0
  have p1 := (hb7.cell (p := ⟨w.heap.size, 1, none⟩) sz').trans p1
  have q0 := (hb7.cell (p := ⟨w.heap.size + 1, 0, none⟩) sz).trans q0
  have q1 := (hb7.cell (p := ⟨w.heap.size + 1, 1, none⟩) sz).trans q1
  have sz := Nat.lt_of_lt_of_le sz hb7.size
  have sz' := Nat.lt_of_lt_of_le sz' hb7.size
  have g1 := (hb7.cell (p := ⟨w1.heap.size, 0, none⟩) s1).trans g1
  have g1' := (hb7.cell (p := ⟨w1.heap.size, 1, none⟩) s1).trans g1'
  have s1 := Nat.lt_of_lt_of_le s1 hb7.size
  have g2 := (hb7.cell (p := ⟨w2.heap.size, 0, none⟩) s2).trans g2
  have g2' := (hb7.cell (p := ⟨w2.heap.size, 1, none⟩) s2).trans g2'
  have s2 := Nat.lt_of_lt_of_le s2 hb7.size
  have g3 := (hb7.cell (p := ⟨w3.heap.size, 0, none⟩) s3).trans g3
  have g3' := (hb7.cell (p := ⟨w3.heap.size, 1, none⟩) s3).trans g3'
  have s3 := Nat.lt_of_lt_of_le s3 hb7.size
  have g4 := (hb7.cell (p := ⟨w4.heap.size, 0, none⟩) s4).trans g4
  have g4' := (hb7.cell (p := ⟨w4.heap.size, 1, none⟩) s4).trans g4'
  have s4 := Nat.lt_of_lt_of_le s4 hb7.size
  refine ⟨_, rfl, keepAnd ?_ (fun hNew => ?_)⟩
  · exact ⟨p0, p1, q0, q1, g1, g1', g2, g2', g3, g3', g4, g4'⟩
  clear hHeld
  have hHeld := hNew
  clear hNew
  simp only [Act.put, List.setIfInBounds_toArray, List.set_cons_zero, List.set_cons_succ]
  refine heldTake 26 (some 63) (v := ?_) rfl rfl (by kernel_rfl) (by kernel_rfl) (by kernel_rfl) (by rfl) hHeld (fun _ _ _ h => h) ?_ ?_
  rotate_left
  · intro w' hSw; (try dsimp only at hSw); go_simp <;> with_reducible rfl
  simp only [Act.put, List.setIfInBounds_toArray, List.set_cons_zero, List.set_cons_succ]
  refine heldTake 27 (some 64) (v := ?_) rfl rfl (by kernel_rfl) (by kernel_rfl) (by kernel_rfl) (by rfl) hHeld (fun _ _ _ h => h) ?_ ?_
  rotate_left
  · intro w' hSw; (try dsimp only at hSw); go_simp <;> with_reducible rfl
  simp only [Act.put, List.setIfInBounds_toArray, List.set_cons_zero, List.set_cons_succ]
  refine heldCall 28 (some 65) (f := ?_) (args := ?_) rfl rfl (by kernel_rfl) (by rfl) ?_ ?_
  rotate_left 2
  · go_simp <;> first | (constructor <;> with_reducible rfl) | with_reducible rfl
  (with_reducible refine (awake_any _ (he.below hB7)).mono ?_)
  rintro e w8 ⟨rfl, hb8⟩
  have hB8 := hB7.trans (hb8.mono hB7.size)
  have p0 := (hb8.cell (p := ⟨w.heap.size, 0, none⟩) sz').trans p0
  have p1 := (hb8.cell (p := ⟨w.heap.size, 1, none⟩) sz').trans p1
  have q0 := (hb8.cell (p := ⟨w.heap.size + 1, 0, none⟩) sz).trans q0
  have q1 := (hb8.cell (p := ⟨w.heap.size + 1, 1, none⟩) sz).trans q1
  have sz := Nat.lt_of_lt_of_le sz hb8.size
  have sz' := Nat.lt_of_lt_of_le sz' hb8.size
  have g1 := (hb8.cell (p := ⟨w1.heap.size, 0, none⟩) s1).trans g1
  have g1' := (hb8.cell (p := ⟨w1.heap.size, 1, none⟩) s1).trans g1'
  have s1 := Nat.lt_of_lt_of_le s1 hb8.size
  have g2 := (hb8.cell (p := ⟨w2.heap.size, 0, none⟩) s2).trans g2
  have g2' := (hb8.cell (p := ⟨w2.heap.size, 1, none⟩) s2).trans g2'
  have s2 := Nat.lt_of_lt_of_le s2 hb8.size
  have g3 := (hb8.cell (p := ⟨w3.heap.size, 0, none⟩) s3).trans g3
  have g3' := (hb8.cell (p := ⟨w3.heap.size, 1, none⟩) s3).trans g3'
  have s3 := Nat.lt_of_lt_of_le s3 hb8.size
  have g4 := (hb8.cell (p := ⟨w4.heap.size, 0, none⟩) s4).trans g4
  have g4' := (hb8.cell (p := ⟨w4.heap.size, 1, none⟩) s4).trans g4'
  have s4 := Nat.lt_of_lt_of_le s4 hb8.size
  refine ⟨_, rfl, keepAnd ?_ (fun hNew => ?_)⟩
  · exact ⟨p0, p1, q0, q1, g1, g1', g2, g2', g3, g3', g4, g4'⟩
  clear hHeld
  have hHeld := hNew
  clear hNew
  simp only [Act.put, List.setIfInBounds_toArray, List.set_cons_zero, List.set_cons_succ]
  refine heldTake 29 (some 66) (v := ?_) rfl rfl (by kernel_rfl) (by kernel_rfl) (by kernel_rfl) (by rfl) hHeld (fun _ _ _ h => h) ?_ ?_
  rotate_left
  · intro w' hSw; (try dsimp only at hSw); go_simp <;> with_reducible rfl
  simp only [Act.put, List.setIfInBounds_toArray, List.set_cons_zero, List.set_cons_succ]
  refine heldTake 30 (some 4) (v := ?_) rfl rfl (by kernel_rfl) (by kernel_rfl) (by kernel_rfl) (by rfl) hHeld (fun _ _ _ h => h) ?_ ?_
  rotate_left
  · intro w' hSw; (try dsimp only at hSw); go_simp <;> with_reducible rfl
  simp only [Act.put, List.setIfInBounds_toArray, List.set_cons_zero, List.set_cons_succ]
  refine wpAnyH_done (by kernel_rfl) ?_ _
  refine NoPanic.normal ?_
  go_wp2_with fail
  go_ret
  exact ⟨rfl, hB8⟩

end Go.Proofs.YtipngnejiddkdaaDoor
