/-
  PeriodOrder and PeriodPartition: the walks.
-/
import Derived.Test.YtipngnejiddkdaaDoorPerJ
namespace Go.Proofs.YtipngnejiddkdaaDoor
open Go.RowKit Go.Lib

theorem cmp_neg (f t a b : Int) : cmpP a b f t = -cmpP f t a b := by unfold cmpP; (repeat' split) <;> omega
theorem cmp_bd (f t a b : Int) : -1 ≤ cmpP f t a b ∧ cmpP f t a b ≤ 1 := by unfold cmpP; (repeat' split) <;> omega
theorem cmp_zero (f t a b : Int) : cmpP f t a b = 0 ↔ f = a ∧ t = b := by unfold cmpP; (repeat' split) <;> omega
theorem cmp_trans (f t a b c d : Int) (h1 : ¬ 0 < cmpP f t a b) (h2 : ¬ 0 < cmpP a b c d) : cmpP f t c d ≤ 0 := by
  unfold cmpP at *
  (repeat' split at h1) <;> (repeat' split at h2) <;> (repeat' split) <;> omega

set_option maxRecDepth 100000 in
set_option maxHeartbeats 4000000 in
theorem order_e2 (f t a b c d x y z : Int) (w : World) (he : Env w) (hx : cmpP f t a b = x) (hx' : cmpP a b f t = -x) (hy : cmpP a b c d = y) (hz : cmpP f t c d = z) (bx1 : -1 ≤ x) (bx2 : x ≤ 1) (k1 : (f == a) = true) (k2 : (t == b) = true) (k3 : (x == 0) = true) (k4 : ¬ 0 < x) (g2 : 0 < y) :
    Calls Tryd.prog 8 #[.agg #[.int .i64 f, .int .i64 t], .agg #[.int .i64 a, .int .i64 b], .agg #[.int .i64 c, .int .i64 d]] w fun e w' => e = .returned (.bool true) ∧ Below w.heap.size w w' := by
  have C0 := fun w => compare_any f t a b w
  have C1 := fun w => compare_any a b c d w
  have C2 := fun w => compare_any f t c d w
  have C3 := fun w => refCompare_any f t a b w
  have C4 := fun w => compare_any a b f t w
  rw [hx] at C0 C3
  rw [hy] at C1
  rw [hz] at C2
  rw [hx'] at C4
  have D0 := Lib.hid C0
  clear C0
  have D1 := Lib.hid C1
  clear C1
  have D2 := Lib.hid C2
  clear C2
  have D3 := Lib.hid C3
  clear C3
  have D4 := Lib.hid C4
  clear C4
  clear hx hx' hy hz
  go_enter Tryd.func8, Tryd.ntmps8
  go_wp2_with fail
  have hB0 := ((Below.of_alloc (w := w) (.cells #[.int .i64 f, .int .i64 t] 23)).alloc (by simp) (.cells #[.int .i64 a, .int .i64 b] 23)).alloc (by simp; omega) (.cells #[.int .i64 c, .int .i64 d] 23)
  have p0 := ((Below.of_alloc (w := ((w.alloc (.cells #[.int .i64 f, .int .i64 t] 23)).alloc (.cells #[.int .i64 a, .int .i64 b] 23))) (.cells #[.int .i64 c, .int .i64 d] 23)).cell (p := ⟨w.heap.size, 0, none⟩) (by simp; omega)).trans (((Below.of_alloc (w := (w.alloc (.cells #[.int .i64 f, .int .i64 t] 23))) (.cells #[.int .i64 a, .int .i64 b] 23)).cell (p := ⟨w.heap.size, 0, none⟩) (by simp)).trans (box_cell w #[.int .i64 f, .int .i64 t] 23 0 (u := .int .i64 f) rfl))
  have p1 := ((Below.of_alloc (w := ((w.alloc (.cells #[.int .i64 f, .int .i64 t] 23)).alloc (.cells #[.int .i64 a, .int .i64 b] 23))) (.cells #[.int .i64 c, .int .i64 d] 23)).cell (p := ⟨w.heap.size, 1, none⟩) (by simp; omega)).trans (((Below.of_alloc (w := (w.alloc (.cells #[.int .i64 f, .int .i64 t] 23))) (.cells #[.int .i64 a, .int .i64 b] 23)).cell (p := ⟨w.heap.size, 1, none⟩) (by simp)).trans (box_cell w #[.int .i64 f, .int .i64 t] 23 1 (u := .int .i64 t) rfl))
  have q0 := ((Below.of_alloc (w := ((w.alloc (.cells #[.int .i64 f, .int .i64 t] 23)).alloc (.cells #[.int .i64 a, .int .i64 b] 23))) (.cells #[.int .i64 c, .int .i64 d] 23)).cell (p := ⟨w.heap.size + 1, 0, none⟩) (by simp)).trans (box_cell' (w.alloc (.cells #[.int .i64 f, .int .i64 t] 23)) (w.heap.size + 1) (by simp) #[.int .i64 a, .int .i64 b] 23 0 (u := .int .i64 a) rfl)
  have q1 := ((Below.of_alloc (w := ((w.alloc (.cells #[.int .i64 f, .int .i64 t] 23)).alloc (.cells #[.int .i64 a, .int .i64 b] 23))) (.cells #[.int .i64 c, .int .i64 d] 23)).cell (p := ⟨w.heap.size + 1, 1, none⟩) (by simp)).trans (box_cell' (w.alloc (.cells #[.int .i64 f, .int .i64 t] 23)) (w.heap.size + 1) (by simp) #[.int .i64 a, .int .i64 b] 23 1 (u := .int .i64 b) rfl)
  have r0 := box_cell' ((w.alloc (.cells #[.int .i64 f, .int .i64 t] 23)).alloc (.cells #[.int .i64 a, .int .i64 b] 23)) (w.heap.size + 2) (by simp) #[.int .i64 c, .int .i64 d] 23 0 (u := .int .i64 c) rfl
  have r1 := box_cell' ((w.alloc (.cells #[.int .i64 f, .int .i64 t] 23)).alloc (.cells #[.int .i64 a, .int .i64 b] 23)) (w.heap.size + 2) (by simp) #[.int .i64 c, .int .i64 d] 23 1 (u := .int .i64 d) rfl
  have zr : w.heap.size + 2 < (((w.alloc (.cells #[.int .i64 f, .int .i64 t] 23)).alloc (.cells #[.int .i64 a, .int .i64 b] 23)).alloc (.cells #[.int .i64 c, .int .i64 d] 23)).heap.size := by simp
  generalize (((w.alloc (.cells #[.int .i64 f, .int .i64 t] 23)).alloc (.cells #[.int .i64 a, .int .i64 b] 23)).alloc (.cells #[.int .i64 c, .int .i64 d] 23)) = w0 at *
  have zq : w.heap.size + 1 < w0.heap.size := by omega
  have zp : w.heap.size < w0.heap.size := by omega
  refine wp_region_noPanic ?_
  refine wp_region_held_drew (S := (fun w' => w'.cell? ⟨w.heap.size, 0, none⟩ = some (.int .i64 f) ∧ w'.cell? ⟨w.heap.size, 1, none⟩ = some (.int .i64 t) ∧ w'.cell? ⟨w.heap.size + 1, 0, none⟩ = some (.int .i64 a) ∧ w'.cell? ⟨w.heap.size + 1, 1, none⟩ = some (.int .i64 b) ∧ w'.cell? ⟨w.heap.size + 2, 0, none⟩ = some (.int .i64 c) ∧ w'.cell? ⟨w.heap.size + 2, 1, none⟩ = some (.int .i64 d))) (by kernel_rfl) ?_ (fun hHeld => ?_)
  · exact ⟨p0, p1, q0, q1, r0, r1⟩
  refine heldTake 0 (some 10) (v := ?_) rfl rfl (by kernel_rfl) (by kernel_rfl) (by kernel_rfl) (by rfl) hHeld (fun _ _ _ h => h) ?_ ?_
  rotate_left
  · intro w' hSw; (try dsimp only at hSw); go_simp <;> with_reducible rfl
  simp only [Act.put, List.setIfInBounds_toArray, List.set_cons_zero, List.set_cons_succ]
  refine heldTake 1 (some 11) (v := ?_) rfl rfl (by kernel_rfl) (by kernel_rfl) (by kernel_rfl) (by rfl) hHeld (fun _ _ _ h => h) ?_ ?_
  rotate_left
  · intro w' hSw; (try dsimp only at hSw); go_simp <;> with_reducible rfl
  simp only [Act.put, List.setIfInBounds_toArray, List.set_cons_zero, List.set_cons_succ]
  refine heldTake 3 (some 13) (v := ?_) rfl rfl (by kernel_rfl) (by kernel_rfl) (by kernel_rfl) (by rfl) hHeld (fun _ _ _ h => h) ?_ ?_
  rotate_left
  · intro w' hSw; (try dsimp only at hSw); go_simp <;> with_reducible rfl
  simp only [Act.put, List.setIfInBounds_toArray, List.set_cons_zero, List.set_cons_succ]
  refine heldTake 4 (some 14) (v := ?_) rfl rfl (by kernel_rfl) (by kernel_rfl) (by kernel_rfl) (by rfl) hHeld (fun _ _ _ h => h) ?_ ?_
  rotate_left
  · intro w' hSw; (try dsimp only at hSw); go_simp <;> with_reducible rfl
  simp only [Act.put, List.setIfInBounds_toArray, List.set_cons_zero, List.set_cons_succ]
  refine heldTake 6 (some 16) (v := ?_) rfl rfl (by kernel_rfl) (by kernel_rfl) (by kernel_rfl) (by rfl) hHeld (fun _ _ _ h => h) ?_ ?_
  rotate_left
  · intro w' hSw; (try dsimp only at hSw); go_simp <;> with_reducible rfl
  simp only [Act.put, List.setIfInBounds_toArray, List.set_cons_zero, List.set_cons_succ]
  refine heldTake 7 (some 17) (v := ?_) rfl rfl (by kernel_rfl) (by kernel_rfl) (by kernel_rfl) (by rfl) hHeld (fun _ _ _ h => h) ?_ ?_
  rotate_left
  · intro w' hSw; (try dsimp only at hSw); go_simp <;> with_reducible rfl
  simp only [Act.put, List.setIfInBounds_toArray, List.set_cons_zero, List.set_cons_succ]
  refine heldCall 2 (some 12) (f := ?_) (args := ?_) rfl rfl (by kernel_rfl) (by rfl) ?_ ?_
  rotate_left 2
  · go_simp <;> first | (constructor <;> with_reducible rfl) | with_reducible rfl
  (with_reducible refine (D0.out _).mono ?_)
  rintro e w1 ⟨rfl, hb1⟩
  have hB1 := hB0.drew.trans (hb1.mono hB0.drew.size)
  have p0 := (hb1.cell (p := ⟨w.heap.size, 0, none⟩) zp).trans p0
  have p1 := (hb1.cell (p := ⟨w.heap.size, 1, none⟩) zp).trans p1
  have q0 := (hb1.cell (p := ⟨w.heap.size + 1, 0, none⟩) zq).trans q0
  have q1 := (hb1.cell (p := ⟨w.heap.size + 1, 1, none⟩) zq).trans q1
  have r0 := (hb1.cell (p := ⟨w.heap.size + 2, 0, none⟩) zr).trans r0
  have r1 := (hb1.cell (p := ⟨w.heap.size + 2, 1, none⟩) zr).trans r1
  have zp := Nat.lt_of_lt_of_le zp hb1.size
  have zq := Nat.lt_of_lt_of_le zq hb1.size
  have zr := Nat.lt_of_lt_of_le zr hb1.size
  refine ⟨_, rfl, keepAnd ?_ (fun hNew => ?_)⟩
  · exact ⟨p0, p1, q0, q1, r0, r1⟩
  clear hHeld
  have hHeld := hNew
  clear hNew
  simp only [Act.put, List.setIfInBounds_toArray, List.set_cons_zero, List.set_cons_succ]
  refine heldCall 5 (some 15) (f := ?_) (args := ?_) rfl rfl (by kernel_rfl) (by rfl) ?_ ?_
  rotate_left 2
  · go_simp <;> first | (constructor <;> with_reducible rfl) | with_reducible rfl
  (with_reducible refine (D1.out _).mono ?_)
  rintro e w2 ⟨rfl, hb2⟩
  have hB2 := hB1.trans (hb2.mono hB1.size)
  have p0 := (hb2.cell (p := ⟨w.heap.size, 0, none⟩) zp).trans p0
  have p1 := (hb2.cell (p := ⟨w.heap.size, 1, none⟩) zp).trans p1
  have q0 := (hb2.cell (p := ⟨w.heap.size + 1, 0, none⟩) zq).trans q0
  have q1 := (hb2.cell (p := ⟨w.heap.size + 1, 1, none⟩) zq).trans q1
  have r0 := (hb2.cell (p := ⟨w.heap.size + 2, 0, none⟩) zr).trans r0
  have r1 := (hb2.cell (p := ⟨w.heap.size + 2, 1, none⟩) zr).trans r1
  have zp := Nat.lt_of_lt_of_le zp hb2.size
  have zq := Nat.lt_of_lt_of_le zq hb2.size
  have zr := Nat.lt_of_lt_of_le zr hb2.size
  refine ⟨_, rfl, keepAnd ?_ (fun hNew => ?_)⟩
  · exact ⟨p0, p1, q0, q1, r0, r1⟩
  clear hHeld
  have hHeld := hNew
  clear hNew
  simp only [Act.put, List.setIfInBounds_toArray, List.set_cons_zero, List.set_cons_succ]
  refine heldCall 8 (some 18) (f := ?_) (args := ?_) rfl rfl (by kernel_rfl) (by rfl) ?_ ?_
  rotate_left 2
  · go_simp <;> first | (constructor <;> with_reducible rfl) | with_reducible rfl
  (with_reducible refine (D2.out _).mono ?_)
  rintro e w3 ⟨rfl, hb3⟩
  have hB3 := hB2.trans (hb3.mono hB2.size)
  have p0 := (hb3.cell (p := ⟨w.heap.size, 0, none⟩) zp).trans p0
  have p1 := (hb3.cell (p := ⟨w.heap.size, 1, none⟩) zp).trans p1
  have q0 := (hb3.cell (p := ⟨w.heap.size + 1, 0, none⟩) zq).trans q0
  have q1 := (hb3.cell (p := ⟨w.heap.size + 1, 1, none⟩) zq).trans q1
  have r0 := (hb3.cell (p := ⟨w.heap.size + 2, 0, none⟩) zr).trans r0
  have r1 := (hb3.cell (p := ⟨w.heap.size + 2, 1, none⟩) zr).trans r1
  have zp := Nat.lt_of_lt_of_le zp hb3.size
  have zq := Nat.lt_of_lt_of_le zq hb3.size
  have zr := Nat.lt_of_lt_of_le zr hb3.size
  refine ⟨_, rfl, keepAnd ?_ (fun hNew => ?_)⟩
  · exact ⟨p0, p1, q0, q1, r0, r1⟩
  clear hHeld
  have hHeld := hNew
  clear hNew
  simp only [Act.put, List.setIfInBounds_toArray, List.set_cons_zero, List.set_cons_succ]
  refine heldTake 9 (some 7) (v := ?_) rfl rfl (by kernel_rfl) (by kernel_rfl) (by kernel_rfl) (by rfl) hHeld (fun _ _ _ h => h) ?_ ?_
  rotate_left
  · intro w' hSw; (try dsimp only at hSw); go_simp <;> with_reducible rfl
  simp only [Act.put, List.setIfInBounds_toArray, List.set_cons_zero, List.set_cons_succ]
  refine heldTake 10 (some 8) (v := ?_) rfl rfl (by kernel_rfl) (by kernel_rfl) (by kernel_rfl) (by rfl) hHeld (fun _ _ _ h => h) ?_ ?_
  rotate_left
  · intro w' hSw; (try dsimp only at hSw); go_simp <;> with_reducible rfl
  simp only [Act.put, List.setIfInBounds_toArray, List.set_cons_zero, List.set_cons_succ]
  refine heldTake 11 (some 9) (v := ?_) rfl rfl (by kernel_rfl) (by kernel_rfl) (by kernel_rfl) (by rfl) hHeld (fun _ _ _ h => h) ?_ ?_
  rotate_left
  · intro w' hSw; (try dsimp only at hSw); go_simp <;> with_reducible rfl
  simp only [Act.put, List.setIfInBounds_toArray, List.set_cons_zero, List.set_cons_succ]
  refine wpAnyH_done (by kernel_rfl) ?_ _
  refine NoPanic.normal ?_
  go_wp2_with fail
  (with_reducible refine (D3.out _).mono ?_)
  rintro e w4 ⟨rfl, hb4⟩
  have hB4 := hB3.trans (hb4.mono hB3.size)
  have p0 := (hb4.cell (p := ⟨w.heap.size, 0, none⟩) zp).trans p0
  have p1 := (hb4.cell (p := ⟨w.heap.size, 1, none⟩) zp).trans p1
  have q0 := (hb4.cell (p := ⟨w.heap.size + 1, 0, none⟩) zq).trans q0
  have q1 := (hb4.cell (p := ⟨w.heap.size + 1, 1, none⟩) zq).trans q1
  have r0 := (hb4.cell (p := ⟨w.heap.size + 2, 0, none⟩) zr).trans r0
  have r1 := (hb4.cell (p := ⟨w.heap.size + 2, 1, none⟩) zr).trans r1
  have zp := Nat.lt_of_lt_of_le zp hb4.size
  have zq := Nat.lt_of_lt_of_le zq hb4.size
  have zr := Nat.lt_of_lt_of_le zr hb4.size
  go_wp2_with fail
  (with_reducible refine (D4.out _).mono ?_)
  rintro e w5 ⟨rfl, hb5⟩
  have hB5 := hB4.trans (hb5.mono hB4.size)
  have p0 := (hb5.cell (p := ⟨w.heap.size, 0, none⟩) zp).trans p0
  have p1 := (hb5.cell (p := ⟨w.heap.size, 1, none⟩) zp).trans p1
  have q0 := (hb5.cell (p := ⟨w.heap.size + 1, 0, none⟩) zq).trans q0
  have q1 := (hb5.cell (p := ⟨w.heap.size + 1, 1, none⟩) zq).trans q1
  have r0 := (hb5.cell (p := ⟨w.heap.size + 2, 0, none⟩) zr).trans r0
  have r1 := (hb5.cell (p := ⟨w.heap.size + 2, 1, none⟩) zr).trans r1
  have zp := Nat.lt_of_lt_of_le zp hb5.size
  have zq := Nat.lt_of_lt_of_le zq hb5.size
  have zr := Nat.lt_of_lt_of_le zr hb5.size
  go_wp2_with fail
  (with_reducible refine (awake_any _ (he.below hB5)).mono ?_)
  rintro e w6 ⟨rfl, hb6⟩
  go_wp2_with fail
  go_ret
  exact ⟨rfl, hB5.trans (hb6.mono hB5.size)⟩

set_option maxRecDepth 100000 in
set_option maxHeartbeats 4000000 in
theorem order_e3 (f t a b c d x y z : Int) (w : World) (he : Env w) (hx : cmpP f t a b = x) (hx' : cmpP a b f t = -x) (hy : cmpP a b c d = y) (hz : cmpP f t c d = z) (bx1 : -1 ≤ x) (bx2 : x ≤ 1) (k1 : (f == a) = true) (k2 : (t == b) = true) (k3 : (x == 0) = true) (k4 : ¬ 0 < x) (g2 : ¬ 0 < y) (g3 : z ≤ 0) :
    Calls Tryd.prog 8 #[.agg #[.int .i64 f, .int .i64 t], .agg #[.int .i64 a, .int .i64 b], .agg #[.int .i64 c, .int .i64 d]] w fun e w' => e = .returned (.bool true) ∧ Below w.heap.size w w' := by
  have C0 := fun w => compare_any f t a b w
  have C1 := fun w => compare_any a b c d w
  have C2 := fun w => compare_any f t c d w
  have C3 := fun w => refCompare_any f t a b w
  have C4 := fun w => compare_any a b f t w
  rw [hx] at C0 C3
  rw [hy] at C1
  rw [hz] at C2
  rw [hx'] at C4
  have D0 := Lib.hid C0
  clear C0
  have D1 := Lib.hid C1
  clear C1
  have D2 := Lib.hid C2
  clear C2
  have D3 := Lib.hid C3
  clear C3
  have D4 := Lib.hid C4
  clear C4
  clear hx hx' hy hz
  go_enter Tryd.func8, Tryd.ntmps8
  go_wp2_with fail
  have hB0 := ((Below.of_alloc (w := w) (.cells #[.int .i64 f, .int .i64 t] 23)).alloc (by simp) (.cells #[.int .i64 a, .int .i64 b] 23)).alloc (by simp; omega) (.cells #[.int .i64 c, .int .i64 d] 23)
  have p0 := ((Below.of_alloc (w := ((w.alloc (.cells #[.int .i64 f, .int .i64 t] 23)).alloc (.cells #[.int .i64 a, .int .i64 b] 23))) (.cells #[.int .i64 c, .int .i64 d] 23)).cell (p := ⟨w.heap.size, 0, none⟩) (by simp; omega)).trans (((Below.of_alloc (w := (w.alloc (.cells #[.int .i64 f, .int .i64 t] 23))) (.cells #[.int .i64 a, .int .i64 b] 23)).cell (p := ⟨w.heap.size, 0, none⟩) (by simp)).trans (box_cell w #[.int .i64 f, .int .i64 t] 23 0 (u := .int .i64 f) rfl))
  have p1 := ((Below.of_alloc (w := ((w.alloc (.cells #[.int .i64 f, .int .i64 t] 23)).alloc (.cells #[.int .i64 a, .int .i64 b] 23))) (.cells #[.int .i64 c, .int .i64 d] 23)).cell (p := ⟨w.heap.size, 1, none⟩) (by simp; omega)).trans (((Below.of_alloc (w := (w.alloc (.cells #[.int .i64 f, .int .i64 t] 23))) (.cells #[.int .i64 a, .int .i64 b] 23)).cell (p := ⟨w.heap.size, 1, none⟩) (by simp)).trans (box_cell w #[.int .i64 f, .int .i64 t] 23 1 (u := .int .i64 t) rfl))
  have q0 := ((Below.of_alloc (w := ((w.alloc (.cells #[.int .i64 f, .int .i64 t] 23)).alloc (.cells #[.int .i64 a, .int .i64 b] 23))) (.cells #[.int .i64 c, .int .i64 d] 23)).cell (p := ⟨w.heap.size + 1, 0, none⟩) (by simp)).trans (box_cell' (w.alloc (.cells #[.int .i64 f, .int .i64 t] 23)) (w.heap.size + 1) (by simp) #[.int .i64 a, .int .i64 b] 23 0 (u := .int .i64 a) rfl)
  have q1 := ((Below.of_alloc (w := ((w.alloc (.cells #[.int .i64 f, .int .i64 t] 23)).alloc (.cells #[.int .i64 a, .int .i64 b] 23))) (.cells #[.int .i64 c, .int .i64 d] 23)).cell (p := ⟨w.heap.size + 1, 1, none⟩) (by simp)).trans (box_cell' (w.alloc (.cells #[.int .i64 f, .int .i64 t] 23)) (w.heap.size + 1) (by simp) #[.int .i64 a, .int .i64 b] 23 1 (u := .int .i64 b) rfl)
  have r0 := box_cell' ((w.alloc (.cells #[.int .i64 f, .int .i64 t] 23)).alloc (.cells #[.int .i64 a, .int .i64 b] 23)) (w.heap.size + 2) (by simp) #[.int .i64 c, .int .i64 d] 23 0 (u := .int .i64 c) rfl
  have r1 := box_cell' ((w.alloc (.cells #[.int .i64 f, .int .i64 t] 23)).alloc (.cells #[.int .i64 a, .int .i64 b] 23)) (w.heap.size + 2) (by simp) #[.int .i64 c, .int .i64 d] 23 1 (u := .int .i64 d) rfl
  have zr : w.heap.size + 2 < (((w.alloc (.cells #[.int .i64 f, .int .i64 t] 23)).alloc (.cells #[.int .i64 a, .int .i64 b] 23)).alloc (.cells #[.int .i64 c, .int .i64 d] 23)).heap.size := by simp
  generalize (((w.alloc (.cells #[.int .i64 f, .int .i64 t] 23)).alloc (.cells #[.int .i64 a, .int .i64 b] 23)).alloc (.cells #[.int .i64 c, .int .i64 d] 23)) = w0 at *
  have zq : w.heap.size + 1 < w0.heap.size := by omega
  have zp : w.heap.size < w0.heap.size := by omega
  refine wp_region_noPanic ?_
  refine wp_region_held_drew (S := (fun w' => w'.cell? ⟨w.heap.size, 0, none⟩ = some (.int .i64 f) ∧ w'.cell? ⟨w.heap.size, 1, none⟩ = some (.int .i64 t) ∧ w'.cell? ⟨w.heap.size + 1, 0, none⟩ = some (.int .i64 a) ∧ w'.cell? ⟨w.heap.size + 1, 1, none⟩ = some (.int .i64 b) ∧ w'.cell? ⟨w.heap.size + 2, 0, none⟩ = some (.int .i64 c) ∧ w'.cell? ⟨w.heap.size + 2, 1, none⟩ = some (.int .i64 d))) (by kernel_rfl) ?_ (fun hHeld => ?_)
  · exact ⟨p0, p1, q0, q1, r0, r1⟩
  refine heldTake 0 (some 10) (v := ?_) rfl rfl (by kernel_rfl) (by kernel_rfl) (by kernel_rfl) (by rfl) hHeld (fun _ _ _ h => h) ?_ ?_
  rotate_left
  · intro w' hSw; (try dsimp only at hSw); go_simp <;> with_reducible rfl
  simp only [Act.put, List.setIfInBounds_toArray, List.set_cons_zero, List.set_cons_succ]
  refine heldTake 1 (some 11) (v := ?_) rfl rfl (by kernel_rfl) (by kernel_rfl) (by kernel_rfl) (by rfl) hHeld (fun _ _ _ h => h) ?_ ?_
  rotate_left
  · intro w' hSw; (try dsimp only at hSw); go_simp <;> with_reducible rfl
  simp only [Act.put, List.setIfInBounds_toArray, List.set_cons_zero, List.set_cons_succ]
  refine heldTake 3 (some 13) (v := ?_) rfl rfl (by kernel_rfl) (by kernel_rfl) (by kernel_rfl) (by rfl) hHeld (fun _ _ _ h => h) ?_ ?_
  rotate_left
  · intro w' hSw; (try dsimp only at hSw); go_simp <;> with_reducible rfl
  simp only [Act.put, List.setIfInBounds_toArray, List.set_cons_zero, List.set_cons_succ]
  refine heldTake 4 (some 14) (v := ?_) rfl rfl (by kernel_rfl) (by kernel_rfl) (by kernel_rfl) (by rfl) hHeld (fun _ _ _ h => h) ?_ ?_
  rotate_left
  · intro w' hSw; (try dsimp only at hSw); go_simp <;> with_reducible rfl
  simp only [Act.put, List.setIfInBounds_toArray, List.set_cons_zero, List.set_cons_succ]
  refine heldTake 6 (some 16) (v := ?_) rfl rfl (by kernel_rfl) (by kernel_rfl) (by kernel_rfl) (by rfl) hHeld (fun _ _ _ h => h) ?_ ?_
  rotate_left
  · intro w' hSw; (try dsimp only at hSw); go_simp <;> with_reducible rfl
  simp only [Act.put, List.setIfInBounds_toArray, List.set_cons_zero, List.set_cons_succ]
  refine heldTake 7 (some 17) (v := ?_) rfl rfl (by kernel_rfl) (by kernel_rfl) (by kernel_rfl) (by rfl) hHeld (fun _ _ _ h => h) ?_ ?_
  rotate_left
  · intro w' hSw; (try dsimp only at hSw); go_simp <;> with_reducible rfl
  simp only [Act.put, List.setIfInBounds_toArray, List.set_cons_zero, List.set_cons_succ]
  refine heldCall 2 (some 12) (f := ?_) (args := ?_) rfl rfl (by kernel_rfl) (by rfl) ?_ ?_
  rotate_left 2
  · go_simp <;> first | (constructor <;> with_reducible rfl) | with_reducible rfl
  (with_reducible refine (D0.out _).mono ?_)
  rintro e w1 ⟨rfl, hb1⟩
  have hB1 := hB0.drew.trans (hb1.mono hB0.drew.size)
  have p0 := (hb1.cell (p := ⟨w.heap.size, 0, none⟩) zp).trans p0
  have p1 := (hb1.cell (p := ⟨w.heap.size, 1, none⟩) zp).trans p1
  have q0 := (hb1.cell (p := ⟨w.heap.size + 1, 0, none⟩) zq).trans q0
  have q1 := (hb1.cell (p := ⟨w.heap.size + 1, 1, none⟩) zq).trans q1
  have r0 := (hb1.cell (p := ⟨w.heap.size + 2, 0, none⟩) zr).trans r0
  have r1 := (hb1.cell (p := ⟨w.heap.size + 2, 1, none⟩) zr).trans r1
  have zp := Nat.lt_of_lt_of_le zp hb1.size
  have zq := Nat.lt_of_lt_of_le zq hb1.size
  have zr := Nat.lt_of_lt_of_le zr hb1.size
  refine ⟨_, rfl, keepAnd ?_ (fun hNew => ?_)⟩
  · exact ⟨p0, p1, q0, q1, r0, r1⟩
  clear hHeld
  have hHeld := hNew
  clear hNew
  simp only [Act.put, List.setIfInBounds_toArray, List.set_cons_zero, List.set_cons_succ]
  refine heldCall 5 (some 15) (f := ?_) (args := ?_) rfl rfl (by kernel_rfl) (by rfl) ?_ ?_
  rotate_left 2
  · go_simp <;> first | (constructor <;> with_reducible rfl) | with_reducible rfl
  (with_reducible refine (D1.out _).mono ?_)
  rintro e w2 ⟨rfl, hb2⟩
  have hB2 := hB1.trans (hb2.mono hB1.size)
  have p0 := (hb2.cell (p := ⟨w.heap.size, 0, none⟩) zp).trans p0
  have p1 := (hb2.cell (p := ⟨w.heap.size, 1, none⟩) zp).trans p1
  have q0 := (hb2.cell (p := ⟨w.heap.size + 1, 0, none⟩) zq).trans q0
  have q1 := (hb2.cell (p := ⟨w.heap.size + 1, 1, none⟩) zq).trans q1
  have r0 := (hb2.cell (p := ⟨w.heap.size + 2, 0, none⟩) zr).trans r0
  have r1 := (hb2.cell (p := ⟨w.heap.size + 2, 1, none⟩) zr).trans r1
  have zp := Nat.lt_of_lt_of_le zp hb2.size
  have zq := Nat.lt_of_lt_of_le zq hb2.size
  have zr := Nat.lt_of_lt_of_le zr hb2.size
  refine ⟨_, rfl, keepAnd ?_ (fun hNew => ?_)⟩
  · exact ⟨p0, p1, q0, q1, r0, r1⟩
  clear hHeld
  have hHeld := hNew
  clear hNew
  simp only [Act.put, List.setIfInBounds_toArray, List.set_cons_zero, List.set_cons_succ]
  refine heldCall 8 (some 18) (f := ?_) (args := ?_) rfl rfl (by kernel_rfl) (by rfl) ?_ ?_
  rotate_left 2
  · go_simp <;> first | (constructor <;> with_reducible rfl) | with_reducible rfl
  (with_reducible refine (D2.out _).mono ?_)
  rintro e w3 ⟨rfl, hb3⟩
  have hB3 := hB2.trans (hb3.mono hB2.size)
  have p0 := (hb3.cell (p := ⟨w.heap.size, 0, none⟩) zp).trans p0
  have p1 := (hb3.cell (p := ⟨w.heap.size, 1, none⟩) zp).trans p1
  have q0 := (hb3.cell (p := ⟨w.heap.size + 1, 0, none⟩) zq).trans q0
  have q1 := (hb3.cell (p := ⟨w.heap.size + 1, 1, none⟩) zq).trans q1
  have r0 := (hb3.cell (p := ⟨w.heap.size + 2, 0, none⟩) zr).trans r0
  have r1 := (hb3.cell (p := ⟨w.heap.size + 2, 1, none⟩) zr).trans r1
  have zp := Nat.lt_of_lt_of_le zp hb3.size
  have zq := Nat.lt_of_lt_of_le zq hb3.size
  have zr := Nat.lt_of_lt_of_le zr hb3.size
  refine ⟨_, rfl, keepAnd ?_ (fun hNew => ?_)⟩
  · exact ⟨p0, p1, q0, q1, r0, r1⟩
  clear hHeld
  have hHeld := hNew
  clear hNew
  simp only [Act.put, List.setIfInBounds_toArray, List.set_cons_zero, List.set_cons_succ]
  refine heldTake 9 (some 7) (v := ?_) rfl rfl (by kernel_rfl) (by kernel_rfl) (by kernel_rfl) (by rfl) hHeld (fun _ _ _ h => h) ?_ ?_
  rotate_left
  · intro w' hSw; (try dsimp only at hSw); go_simp <;> with_reducible rfl
  simp only [Act.put, List.setIfInBounds_toArray, List.set_cons_zero, List.set_cons_succ]
  refine heldTake 10 (some 8) (v := ?_) rfl rfl (by kernel_rfl) (by kernel_rfl) (by kernel_rfl) (by rfl) hHeld (fun _ _ _ h => h) ?_ ?_
  rotate_left
  · intro w' hSw; (try dsimp only at hSw); go_simp <;> with_reducible rfl
  simp only [Act.put, List.setIfInBounds_toArray, List.set_cons_zero, List.set_cons_succ]
  refine heldTake 11 (some 9) (v := ?_) rfl rfl (by kernel_rfl) (by kernel_rfl) (by kernel_rfl) (by rfl) hHeld (fun _ _ _ h => h) ?_ ?_
  rotate_left
  · intro w' hSw; (try dsimp only at hSw); go_simp <;> with_reducible rfl
  simp only [Act.put, List.setIfInBounds_toArray, List.set_cons_zero, List.set_cons_succ]
  refine wpAnyH_done (by kernel_rfl) ?_ _
  refine NoPanic.normal ?_
  go_wp2_with fail
  (with_reducible refine (D3.out _).mono ?_)
  rintro e w4 ⟨rfl, hb4⟩
  have hB4 := hB3.trans (hb4.mono hB3.size)
  have p0 := (hb4.cell (p := ⟨w.heap.size, 0, none⟩) zp).trans p0
  have p1 := (hb4.cell (p := ⟨w.heap.size, 1, none⟩) zp).trans p1
  have q0 := (hb4.cell (p := ⟨w.heap.size + 1, 0, none⟩) zq).trans q0
  have q1 := (hb4.cell (p := ⟨w.heap.size + 1, 1, none⟩) zq).trans q1
  have r0 := (hb4.cell (p := ⟨w.heap.size + 2, 0, none⟩) zr).trans r0
  have r1 := (hb4.cell (p := ⟨w.heap.size + 2, 1, none⟩) zr).trans r1
  have zp := Nat.lt_of_lt_of_le zp hb4.size
  have zq := Nat.lt_of_lt_of_le zq hb4.size
  have zr := Nat.lt_of_lt_of_le zr hb4.size
  go_wp2_with fail
  (with_reducible refine (D4.out _).mono ?_)
  rintro e w5 ⟨rfl, hb5⟩
  have hB5 := hB4.trans (hb5.mono hB4.size)
  have p0 := (hb5.cell (p := ⟨w.heap.size, 0, none⟩) zp).trans p0
  have p1 := (hb5.cell (p := ⟨w.heap.size, 1, none⟩) zp).trans p1
  have q0 := (hb5.cell (p := ⟨w.heap.size + 1, 0, none⟩) zq).trans q0
  have q1 := (hb5.cell (p := ⟨w.heap.size + 1, 1, none⟩) zq).trans q1
  have r0 := (hb5.cell (p := ⟨w.heap.size + 2, 0, none⟩) zr).trans r0
  have r1 := (hb5.cell (p := ⟨w.heap.size + 2, 1, none⟩) zr).trans r1
  have zp := Nat.lt_of_lt_of_le zp hb5.size
  have zq := Nat.lt_of_lt_of_le zq hb5.size
  have zr := Nat.lt_of_lt_of_le zr hb5.size
  go_wp2_with fail
  (with_reducible refine (awake_any _ (he.below hB5)).mono ?_)
  rintro e w6 ⟨rfl, hb6⟩
  go_wp2_with fail
  go_ret
  exact ⟨rfl, hB5.trans (hb6.mono hB5.size)⟩

set_option maxRecDepth 100000 in
set_option maxHeartbeats 4000000 in
theorem order_n1 (f t a b c d x y z : Int) (w : World) (he : Env w) (hx : cmpP f t a b = x) (hx' : cmpP a b f t = -x) (hy : cmpP a b c d = y) (hz : cmpP f t c d = z) (bx1 : -1 ≤ x) (bx2 : x ≤ 1) (k1 : (f == a) = false) (k3 : (x == 0) = false) (g1 : 0 < x) :
    Calls Tryd.prog 8 #[.agg #[.int .i64 f, .int .i64 t], .agg #[.int .i64 a, .int .i64 b], .agg #[.int .i64 c, .int .i64 d]] w fun e w' => e = .returned (.bool true) ∧ Below w.heap.size w w' := by
  have C0 := fun w => compare_any f t a b w
  have C1 := fun w => compare_any a b c d w
  have C2 := fun w => compare_any f t c d w
  have C3 := fun w => refCompare_any f t a b w
  have C4 := fun w => compare_any a b f t w
  rw [hx] at C0 C3
  rw [hy] at C1
  rw [hz] at C2
  rw [hx'] at C4
  have D0 := Lib.hid C0
  clear C0
  have D1 := Lib.hid C1
  clear C1
  have D2 := Lib.hid C2
  clear C2
  have D3 := Lib.hid C3
  clear C3
  have D4 := Lib.hid C4
  clear C4
  clear hx hx' hy hz
  go_enter Tryd.func8, Tryd.ntmps8
  go_wp2_with fail
  have hB0 := ((Below.of_alloc (w := w) (.cells #[.int .i64 f, .int .i64 t] 23)).alloc (by simp) (.cells #[.int .i64 a, .int .i64 b] 23)).alloc (by simp; omega) (.cells #[.int .i64 c, .int .i64 d] 23)
  have p0 := ((Below.of_alloc (w := ((w.alloc (.cells #[.int .i64 f, .int .i64 t] 23)).alloc (.cells #[.int .i64 a, .int .i64 b] 23))) (.cells #[.int .i64 c, .int .i64 d] 23)).cell (p := ⟨w.heap.size, 0, none⟩) (by simp; omega)).trans (((Below.of_alloc (w := (w.alloc (.cells #[.int .i64 f, .int .i64 t] 23))) (.cells #[.int .i64 a, .int .i64 b] 23)).cell (p := ⟨w.heap.size, 0, none⟩) (by simp)).trans (box_cell w #[.int .i64 f, .int .i64 t] 23 0 (u := .int .i64 f) rfl))
  have p1 := ((Below.of_alloc (w := ((w.alloc (.cells #[.int .i64 f, .int .i64 t] 23)).alloc (.cells #[.int .i64 a, .int .i64 b] 23))) (.cells #[.int .i64 c, .int .i64 d] 23)).cell (p := ⟨w.heap.size, 1, none⟩) (by simp; omega)).trans (((Below.of_alloc (w := (w.alloc (.cells #[.int .i64 f, .int .i64 t] 23))) (.cells #[.int .i64 a, .int .i64 b] 23)).cell (p := ⟨w.heap.size, 1, none⟩) (by simp)).trans (box_cell w #[.int .i64 f, .int .i64 t] 23 1 (u := .int .i64 t) rfl))
  have q0 := ((Below.of_alloc (w := ((w.alloc (.cells #[.int .i64 f, .int .i64 t] 23)).alloc (.cells #[.int .i64 a, .int .i64 b] 23))) (.cells #[.int .i64 c, .int .i64 d] 23)).cell (p := ⟨w.heap.size + 1, 0, none⟩) (by simp)).trans (box_cell' (w.alloc (.cells #[.int .i64 f, .int .i64 t] 23)) (w.heap.size + 1) (by simp) #[.int .i64 a, .int .i64 b] 23 0 (u := .int .i64 a) rfl)
  have q1 := ((Below.of_alloc (w := ((w.alloc (.cells #[.int .i64 f, .int .i64 t] 23)).alloc (.cells #[.int .i64 a, .int .i64 b] 23))) (.cells #[.int .i64 c, .int .i64 d] 23)).cell (p := ⟨w.heap.size + 1, 1, none⟩) (by simp)).trans (box_cell' (w.alloc (.cells #[.int .i64 f, .int .i64 t] 23)) (w.heap.size + 1) (by simp) #[.int .i64 a, .int .i64 b] 23 1 (u := .int .i64 b) rfl)
  have r0 := box_cell' ((w.alloc (.cells #[.int .i64 f, .int .i64 t] 23)).alloc (.cells #[.int .i64 a, .int .i64 b] 23)) (w.heap.size + 2) (by simp) #[.int .i64 c, .int .i64 d] 23 0 (u := .int .i64 c) rfl
  have r1 := box_cell' ((w.alloc (.cells #[.int .i64 f, .int .i64 t] 23)).alloc (.cells #[.int .i64 a, .int .i64 b] 23)) (w.heap.size + 2) (by simp) #[.int .i64 c, .int .i64 d] 23 1 (u := .int .i64 d) rfl
  have zr : w.heap.size + 2 < (((w.alloc (.cells #[.int .i64 f, .int .i64 t] 23)).alloc (.cells #[.int .i64 a, .int .i64 b] 23)).alloc (.cells #[.int .i64 c, .int .i64 d] 23)).heap.size := by simp
  generalize (((w.alloc (.cells #[.int .i64 f, .int .i64 t] 23)).alloc (.cells #[.int .i64 a, .int .i64 b] 23)).alloc (.cells #[.int .i64 c, .int .i64 d] 23)) = w0 at *
  have zq : w.heap.size + 1 < w0.heap.size := by omega
  have zp : w.heap.size < w0.heap.size := by omega
  refine wp_region_noPanic ?_
  refine wp_region_held_drew (S := (fun w' => w'.cell? ⟨w.heap.size, 0, none⟩ = some (.int .i64 f) ∧ w'.cell? ⟨w.heap.size, 1, none⟩ = some (.int .i64 t) ∧ w'.cell? ⟨w.heap.size + 1, 0, none⟩ = some (.int .i64 a) ∧ w'.cell? ⟨w.heap.size + 1, 1, none⟩ = some (.int .i64 b) ∧ w'.cell? ⟨w.heap.size + 2, 0, none⟩ = some (.int .i64 c) ∧ w'.cell? ⟨w.heap.size + 2, 1, none⟩ = some (.int .i64 d))) (by kernel_rfl) ?_ (fun hHeld => ?_)
  · exact ⟨p0, p1, q0, q1, r0, r1⟩
  refine heldTake 0 (some 10) (v := ?_) rfl rfl (by kernel_rfl) (by kernel_rfl) (by kernel_rfl) (by rfl) hHeld (fun _ _ _ h => h) ?_ ?_
  rotate_left
  · intro w' hSw; (try dsimp only at hSw); go_simp <;> with_reducible rfl
  simp only [Act.put, List.setIfInBounds_toArray, List.set_cons_zero, List.set_cons_succ]
  refine heldTake 1 (some 11) (v := ?_) rfl rfl (by kernel_rfl) (by kernel_rfl) (by kernel_rfl) (by rfl) hHeld (fun _ _ _ h => h) ?_ ?_
  rotate_left
  · intro w' hSw; (try dsimp only at hSw); go_simp <;> with_reducible rfl
  simp only [Act.put, List.setIfInBounds_toArray, List.set_cons_zero, List.set_cons_succ]
  refine heldTake 3 (some 13) (v := ?_) rfl rfl (by kernel_rfl) (by kernel_rfl) (by kernel_rfl) (by rfl) hHeld (fun _ _ _ h => h) ?_ ?_
  rotate_left
  · intro w' hSw; (try dsimp only at hSw); go_simp <;> with_reducible rfl
  simp only [Act.put, List.setIfInBounds_toArray, List.set_cons_zero, List.set_cons_succ]
  refine heldTake 4 (some 14) (v := ?_) rfl rfl (by kernel_rfl) (by kernel_rfl) (by kernel_rfl) (by rfl) hHeld (fun _ _ _ h => h) ?_ ?_
  rotate_left
  · intro w' hSw; (try dsimp only at hSw); go_simp <;> with_reducible rfl
  simp only [Act.put, List.setIfInBounds_toArray, List.set_cons_zero, List.set_cons_succ]
  refine heldTake 6 (some 16) (v := ?_) rfl rfl (by kernel_rfl) (by kernel_rfl) (by kernel_rfl) (by rfl) hHeld (fun _ _ _ h => h) ?_ ?_
  rotate_left
  · intro w' hSw; (try dsimp only at hSw); go_simp <;> with_reducible rfl
  simp only [Act.put, List.setIfInBounds_toArray, List.set_cons_zero, List.set_cons_succ]
  refine heldTake 7 (some 17) (v := ?_) rfl rfl (by kernel_rfl) (by kernel_rfl) (by kernel_rfl) (by rfl) hHeld (fun _ _ _ h => h) ?_ ?_
  rotate_left
  · intro w' hSw; (try dsimp only at hSw); go_simp <;> with_reducible rfl
  simp only [Act.put, List.setIfInBounds_toArray, List.set_cons_zero, List.set_cons_succ]
  refine heldCall 2 (some 12) (f := ?_) (args := ?_) rfl rfl (by kernel_rfl) (by rfl) ?_ ?_
  rotate_left 2
  · go_simp <;> first | (constructor <;> with_reducible rfl) | with_reducible rfl
  (with_reducible refine (D0.out _).mono ?_)
  rintro e w1 ⟨rfl, hb1⟩
  have hB1 := hB0.drew.trans (hb1.mono hB0.drew.size)
  have p0 := (hb1.cell (p := ⟨w.heap.size, 0, none⟩) zp).trans p0
  have p1 := (hb1.cell (p := ⟨w.heap.size, 1, none⟩) zp).trans p1
  have q0 := (hb1.cell (p := ⟨w.heap.size + 1, 0, none⟩) zq).trans q0
  have q1 := (hb1.cell (p := ⟨w.heap.size + 1, 1, none⟩) zq).trans q1
  have r0 := (hb1.cell (p := ⟨w.heap.size + 2, 0, none⟩) zr).trans r0
  have r1 := (hb1.cell (p := ⟨w.heap.size + 2, 1, none⟩) zr).trans r1
  have zp := Nat.lt_of_lt_of_le zp hb1.size
  have zq := Nat.lt_of_lt_of_le zq hb1.size
  have zr := Nat.lt_of_lt_of_le zr hb1.size
  refine ⟨_, rfl, keepAnd ?_ (fun hNew => ?_)⟩
  · exact ⟨p0, p1, q0, q1, r0, r1⟩
  clear hHeld
  have hHeld := hNew
  clear hNew
  simp only [Act.put, List.setIfInBounds_toArray, List.set_cons_zero, List.set_cons_succ]
  refine heldCall 5 (some 15) (f := ?_) (args := ?_) rfl rfl (by kernel_rfl) (by rfl) ?_ ?_
  rotate_left 2
  · go_simp <;> first | (constructor <;> with_reducible rfl) | with_reducible rfl
  (with_reducible refine (D1.out _).mono ?_)
  rintro e w2 ⟨rfl, hb2⟩
  have hB2 := hB1.trans (hb2.mono hB1.size)
  have p0 := (hb2.cell (p := ⟨w.heap.size, 0, none⟩) zp).trans p0
  have p1 := (hb2.cell (p := ⟨w.heap.size, 1, none⟩) zp).trans p1
  have q0 := (hb2.cell (p := ⟨w.heap.size + 1, 0, none⟩) zq).trans q0
  have q1 := (hb2.cell (p := ⟨w.heap.size + 1, 1, none⟩) zq).trans q1
  have r0 := (hb2.cell (p := ⟨w.heap.size + 2, 0, none⟩) zr).trans r0
  have r1 := (hb2.cell (p := ⟨w.heap.size + 2, 1, none⟩) zr).trans r1
  have zp := Nat.lt_of_lt_of_le zp hb2.size
  have zq := Nat.lt_of_lt_of_le zq hb2.size
  have zr := Nat.lt_of_lt_of_le zr hb2.size
  refine ⟨_, rfl, keepAnd ?_ (fun hNew => ?_)⟩
  · exact ⟨p0, p1, q0, q1, r0, r1⟩
  clear hHeld
  have hHeld := hNew
  clear hNew
  simp only [Act.put, List.setIfInBounds_toArray, List.set_cons_zero, List.set_cons_succ]
  refine heldCall 8 (some 18) (f := ?_) (args := ?_) rfl rfl (by kernel_rfl) (by rfl) ?_ ?_
  rotate_left 2
  · go_simp <;> first | (constructor <;> with_reducible rfl) | with_reducible rfl
  (with_reducible refine (D2.out _).mono ?_)
  rintro e w3 ⟨rfl, hb3⟩
  have hB3 := hB2.trans (hb3.mono hB2.size)
  have p0 := (hb3.cell (p := ⟨w.heap.size, 0, none⟩) zp).trans p0
  have p1 := (hb3.cell (p := ⟨w.heap.size, 1, none⟩) zp).trans p1
  have q0 := (hb3.cell (p := ⟨w.heap.size + 1, 0, none⟩) zq).trans q0
  have q1 := (hb3.cell (p := ⟨w.heap.size + 1, 1, none⟩) zq).trans q1
  have r0 := (hb3.cell (p := ⟨w.heap.size + 2, 0, none⟩) zr).trans r0
  have r1 := (hb3.cell (p := ⟨w.heap.size + 2, 1, none⟩) zr).trans r1
  have zp := Nat.lt_of_lt_of_le zp hb3.size
  have zq := Nat.lt_of_lt_of_le zq hb3.size
  have zr := Nat.lt_of_lt_of_le zr hb3.size
  refine ⟨_, rfl, keepAnd ?_ (fun hNew => ?_)⟩
  · exact ⟨p0, p1, q0, q1, r0, r1⟩
  clear hHeld
  have hHeld := hNew
  clear hNew
  simp only [Act.put, List.setIfInBounds_toArray, List.set_cons_zero, List.set_cons_succ]
  refine heldTake 9 (some 7) (v := ?_) rfl rfl (by kernel_rfl) (by kernel_rfl) (by kernel_rfl) (by rfl) hHeld (fun _ _ _ h => h) ?_ ?_
  rotate_left
  · intro w' hSw; (try dsimp only at hSw); go_simp <;> with_reducible rfl
  simp only [Act.put, List.setIfInBounds_toArray, List.set_cons_zero, List.set_cons_succ]
  refine heldTake 10 (some 8) (v := ?_) rfl rfl (by kernel_rfl) (by kernel_rfl) (by kernel_rfl) (by rfl) hHeld (fun _ _ _ h => h) ?_ ?_
  rotate_left
  · intro w' hSw; (try dsimp only at hSw); go_simp <;> with_reducible rfl
  simp only [Act.put, List.setIfInBounds_toArray, List.set_cons_zero, List.set_cons_succ]
  refine heldTake 11 (some 9) (v := ?_) rfl rfl (by kernel_rfl) (by kernel_rfl) (by kernel_rfl) (by rfl) hHeld (fun _ _ _ h => h) ?_ ?_
  rotate_left
  · intro w' hSw; (try dsimp only at hSw); go_simp <;> with_reducible rfl
  simp only [Act.put, List.setIfInBounds_toArray, List.set_cons_zero, List.set_cons_succ]
  refine wpAnyH_done (by kernel_rfl) ?_ _
  refine NoPanic.normal ?_
  go_wp2_with fail
  (with_reducible refine (D3.out _).mono ?_)
  rintro e w4 ⟨rfl, hb4⟩
  have hB4 := hB3.trans (hb4.mono hB3.size)
  have p0 := (hb4.cell (p := ⟨w.heap.size, 0, none⟩) zp).trans p0
  have p1 := (hb4.cell (p := ⟨w.heap.size, 1, none⟩) zp).trans p1
  have q0 := (hb4.cell (p := ⟨w.heap.size + 1, 0, none⟩) zq).trans q0
  have q1 := (hb4.cell (p := ⟨w.heap.size + 1, 1, none⟩) zq).trans q1
  have r0 := (hb4.cell (p := ⟨w.heap.size + 2, 0, none⟩) zr).trans r0
  have r1 := (hb4.cell (p := ⟨w.heap.size + 2, 1, none⟩) zr).trans r1
  have zp := Nat.lt_of_lt_of_le zp hb4.size
  have zq := Nat.lt_of_lt_of_le zq hb4.size
  have zr := Nat.lt_of_lt_of_le zr hb4.size
  go_wp2_with fail
  (with_reducible refine (D4.out _).mono ?_)
  rintro e w5 ⟨rfl, hb5⟩
  have hB5 := hB4.trans (hb5.mono hB4.size)
  have p0 := (hb5.cell (p := ⟨w.heap.size, 0, none⟩) zp).trans p0
  have p1 := (hb5.cell (p := ⟨w.heap.size, 1, none⟩) zp).trans p1
  have q0 := (hb5.cell (p := ⟨w.heap.size + 1, 0, none⟩) zq).trans q0
  have q1 := (hb5.cell (p := ⟨w.heap.size + 1, 1, none⟩) zq).trans q1
  have r0 := (hb5.cell (p := ⟨w.heap.size + 2, 0, none⟩) zr).trans r0
  have r1 := (hb5.cell (p := ⟨w.heap.size + 2, 1, none⟩) zr).trans r1
  have zp := Nat.lt_of_lt_of_le zp hb5.size
  have zq := Nat.lt_of_lt_of_le zq hb5.size
  have zr := Nat.lt_of_lt_of_le zr hb5.size
  go_wp2_with fail
  (with_reducible refine (awake_any _ (he.below hB5)).mono ?_)
  rintro e w6 ⟨rfl, hb6⟩
  go_wp2_with fail
  go_ret
  exact ⟨rfl, hB5.trans (hb6.mono hB5.size)⟩

set_option maxRecDepth 100000 in
set_option maxHeartbeats 4000000 in
theorem order_n2 (f t a b c d x y z : Int) (w : World) (he : Env w) (hx : cmpP f t a b = x) (hx' : cmpP a b f t = -x) (hy : cmpP a b c d = y) (hz : cmpP f t c d = z) (bx1 : -1 ≤ x) (bx2 : x ≤ 1) (k1 : (f == a) = false) (k3 : (x == 0) = false) (g1 : ¬ 0 < x) (g2 : 0 < y) :
    Calls Tryd.prog 8 #[.agg #[.int .i64 f, .int .i64 t], .agg #[.int .i64 a, .int .i64 b], .agg #[.int .i64 c, .int .i64 d]] w fun e w' => e = .returned (.bool true) ∧ Below w.heap.size w w' := by
  have C0 := fun w => compare_any f t a b w
  have C1 := fun w => compare_any a b c d w
  have C2 := fun w => compare_any f t c d w
  have C3 := fun w => refCompare_any f t a b w
  have C4 := fun w => compare_any a b f t w
  rw [hx] at C0 C3
  rw [hy] at C1
  rw [hz] at C2
  rw [hx'] at C4
  have D0 := Lib.hid C0
  clear C0
  have D1 := Lib.hid C1
  clear C1
  have D2 := Lib.hid C2
  clear C2
  have D3 := Lib.hid C3
  clear C3
  have D4 := Lib.hid C4
  clear C4
  clear hx hx' hy hz
  go_enter Tryd.func8, Tryd.ntmps8
  go_wp2_with fail
  have hB0 := ((Below.of_alloc (w := w) (.cells #[.int .i64 f, .int .i64 t] 23)).alloc (by simp) (.cells #[.int .i64 a, .int .i64 b] 23)).alloc (by simp; omega) (.cells #[.int .i64 c, .int .i64 d] 23)
  have p0 := ((Below.of_alloc (w := ((w.alloc (.cells #[.int .i64 f, .int .i64 t] 23)).alloc (.cells #[.int .i64 a, .int .i64 b] 23))) (.cells #[.int .i64 c, .int .i64 d] 23)).cell (p := ⟨w.heap.size, 0, none⟩) (by simp; omega)).trans (((Below.of_alloc (w := (w.alloc (.cells #[.int .i64 f, .int .i64 t] 23))) (.cells #[.int .i64 a, .int .i64 b] 23)).cell (p := ⟨w.heap.size, 0, none⟩) (by simp)).trans (box_cell w #[.int .i64 f, .int .i64 t] 23 0 (u := .int .i64 f) rfl))
  have p1 := ((Below.of_alloc (w := ((w.alloc (.cells #[.int .i64 f, .int .i64 t] 23)).alloc (.cells #[.int .i64 a, .int .i64 b] 23))) (.cells #[.int .i64 c, .int .i64 d] 23)).cell (p := ⟨w.heap.size, 1, none⟩) (by simp; omega)).trans (((Below.of_alloc (w := (w.alloc (.cells #[.int .i64 f, .int .i64 t] 23))) (.cells #[.int .i64 a, .int .i64 b] 23)).cell (p := ⟨w.heap.size, 1, none⟩) (by simp)).trans (box_cell w #[.int .i64 f, .int .i64 t] 23 1 (u := .int .i64 t) rfl))
  have q0 := ((Below.of_alloc (w := ((w.alloc (.cells #[.int .i64 f, .int .i64 t] 23)).alloc (.cells #[.int .i64 a, .int .i64 b] 23))) (.cells #[.int .i64 c, .int .i64 d] 23)).cell (p := ⟨w.heap.size + 1, 0, none⟩) (by simp)).trans (box_cell' (w.alloc (.cells #[.int .i64 f, .int .i64 t] 23)) (w.heap.size + 1) (by simp) #[.int .i64 a, .int .i64 b] 23 0 (u := .int .i64 a) rfl)
  have q1 := ((Below.of_alloc (w := ((w.alloc (.cells #[.int .i64 f, .int .i64 t] 23)).alloc (.cells #[.int .i64 a, .int .i64 b] 23))) (.cells #[.int .i64 c, .int .i64 d] 23)).cell (p := ⟨w.heap.size + 1, 1, none⟩) (by simp)).trans (box_cell' (w.alloc (.cells #[.int .i64 f, .int .i64 t] 23)) (w.heap.size + 1) (by simp) #[.int .i64 a, .int .i64 b] 23 1 (u := .int .i64 b) rfl)
  have r0 := box_cell' ((w.alloc (.cells #[.int .i64 f, .int .i64 t] 23)).alloc (.cells #[.int .i64 a, .int .i64 b] 23)) (w.heap.size + 2) (by simp) #[.int .i64 c, .int .i64 d] 23 0 (u := .int .i64 c) rfl
  have r1 := box_cell' ((w.alloc (.cells #[.int .i64 f, .int .i64 t] 23)).alloc (.cells #[.int .i64 a, .int .i64 b] 23)) (w.heap.size + 2) (by simp) #[.int .i64 c, .int .i64 d] 23 1 (u := .int .i64 d) rfl
  have zr : w.heap.size + 2 < (((w.alloc (.cells #[.int .i64 f, .int .i64 t] 23)).alloc (.cells #[.int .i64 a, .int .i64 b] 23)).alloc (.cells #[.int .i64 c, .int .i64 d] 23)).heap.size := by simp
  generalize (((w.alloc (.cells #[.int .i64 f, .int .i64 t] 23)).alloc (.cells #[.int .i64 a, .int .i64 b] 23)).alloc (.cells #[.int .i64 c, .int .i64 d] 23)) = w0 at *
  have zq : w.heap.size + 1 < w0.heap.size := by omega
  have zp : w.heap.size < w0.heap.size := by omega
  refine wp_region_noPanic ?_
  refine wp_region_held_drew (S := (fun w' => w'.cell? ⟨w.heap.size, 0, none⟩ = some (.int .i64 f) ∧ w'.cell? ⟨w.heap.size, 1, none⟩ = some (.int .i64 t) ∧ w'.cell? ⟨w.heap.size + 1, 0, none⟩ = some (.int .i64 a) ∧ w'.cell? ⟨w.heap.size + 1, 1, none⟩ = some (.int .i64 b) ∧ w'.cell? ⟨w.heap.size + 2, 0, none⟩ = some (.int .i64 c) ∧ w'.cell? ⟨w.heap.size + 2, 1, none⟩ = some (.int .i64 d))) (by kernel_rfl) ?_ (fun hHeld => ?_)
  · exact ⟨p0, p1, q0, q1, r0, r1⟩
  refine heldTake 0 (some 10) (v := ?_) rfl rfl (by kernel_rfl) (by kernel_rfl) (by kernel_rfl) (by rfl) hHeld (fun _ _ _ h => h) ?_ ?_
  rotate_left
  · intro w' hSw; (try dsimp only at hSw); go_simp <;> with_reducible rfl
  simp only [Act.put, List.setIfInBounds_toArray, List.set_cons_zero, List.set_cons_succ]
  refine heldTake 1 (some 11) (v := ?_) rfl rfl (by kernel_rfl) (by kernel_rfl) (by kernel_rfl) (by rfl) hHeld (fun _ _ _ h => h) ?_ ?_
  rotate_left
  · intro w' hSw; (try dsimp only at hSw); go_simp <;> with_reducible rfl
  simp only [Act.put, List.setIfInBounds_toArray, List.set_cons_zero, List.set_cons_succ]
  refine heldTake 3 (some 13) (v := ?_) rfl rfl (by kernel_rfl) (by kernel_rfl) (by kernel_rfl) (by rfl) hHeld (fun _ _ _ h => h) ?_ ?_
  rotate_left
  · intro w' hSw; (try dsimp only at hSw); go_simp <;> with_reducible rfl
  simp only [Act.put, List.setIfInBounds_toArray, List.set_cons_zero, List.set_cons_succ]
  refine heldTake 4 (some 14) (v := ?_) rfl rfl (by kernel_rfl) (by kernel_rfl) (by kernel_rfl) (by rfl) hHeld (fun _ _ _ h => h) ?_ ?_
  rotate_left
  · intro w' hSw; (try dsimp only at hSw); go_simp <;> with_reducible rfl
  simp only [Act.put, List.setIfInBounds_toArray, List.set_cons_zero, List.set_cons_succ]
  refine heldTake 6 (some 16) (v := ?_) rfl rfl (by kernel_rfl) (by kernel_rfl) (by kernel_rfl) (by rfl) hHeld (fun _ _ _ h => h) ?_ ?_
  rotate_left
  · intro w' hSw; (try dsimp only at hSw); go_simp <;> with_reducible rfl
  simp only [Act.put, List.setIfInBounds_toArray, List.set_cons_zero, List.set_cons_succ]
  refine heldTake 7 (some 17) (v := ?_) rfl rfl (by kernel_rfl) (by kernel_rfl) (by kernel_rfl) (by rfl) hHeld (fun _ _ _ h => h) ?_ ?_
  rotate_left
  · intro w' hSw; (try dsimp only at hSw); go_simp <;> with_reducible rfl
  simp only [Act.put, List.setIfInBounds_toArray, List.set_cons_zero, List.set_cons_succ]
  refine heldCall 2 (some 12) (f := ?_) (args := ?_) rfl rfl (by kernel_rfl) (by rfl) ?_ ?_
  rotate_left 2
  · go_simp <;> first | (constructor <;> with_reducible rfl) | with_reducible rfl
  (with_reducible refine (D0.out _).mono ?_)
  rintro e w1 ⟨rfl, hb1⟩
  have hB1 := hB0.drew.trans (hb1.mono hB0.drew.size)
  have p0 := (hb1.cell (p := ⟨w.heap.size, 0, none⟩) zp).trans p0
  have p1 := (hb1.cell (p := ⟨w.heap.size, 1, none⟩) zp).trans p1
  have q0 := (hb1.cell (p := ⟨w.heap.size + 1, 0, none⟩) zq).trans q0
  have q1 := (hb1.cell (p := ⟨w.heap.size + 1, 1, none⟩) zq).trans q1
  have r0 := (hb1.cell (p := ⟨w.heap.size + 2, 0, none⟩) zr).trans r0
  have r1 := (hb1.cell (p := ⟨w.heap.size + 2, 1, none⟩) zr).trans r1
  have zp := Nat.lt_of_lt_of_le zp hb1.size
  have zq := Nat.lt_of_lt_of_le zq hb1.size
  have zr := Nat.lt_of_lt_of_le zr hb1.size
  refine ⟨_, rfl, keepAnd ?_ (fun hNew => ?_)⟩
  · exact ⟨p0, p1, q0, q1, r0, r1⟩
  clear hHeld
  have hHeld := hNew
  clear hNew
  simp only [Act.put, List.setIfInBounds_toArray, List.set_cons_zero, List.set_cons_succ]
  refine heldCall 5 (some 15) (f := ?_) (args := ?_) rfl rfl (by kernel_rfl) (by rfl) ?_ ?_
  rotate_left 2
  · go_simp <;> first | (constructor <;> with_reducible rfl) | with_reducible rfl
  (with_reducible refine (D1.out _).mono ?_)
  rintro e w2 ⟨rfl, hb2⟩
  have hB2 := hB1.trans (hb2.mono hB1.size)
  have p0 := (hb2.cell (p := ⟨w.heap.size, 0, none⟩) zp).trans p0
  have p1 := (hb2.cell (p := ⟨w.heap.size, 1, none⟩) zp).trans p1
  have q0 := (hb2.cell (p := ⟨w.heap.size + 1, 0, none⟩) zq).trans q0
  have q1 := (hb2.cell (p := ⟨w.heap.size + 1, 1, none⟩) zq).trans q1
  have r0 := (hb2.cell (p := ⟨w.heap.size + 2, 0, none⟩) zr).trans r0
  have r1 := (hb2.cell (p := ⟨w.heap.size + 2, 1, none⟩) zr).trans r1
  have zp := Nat.lt_of_lt_of_le zp hb2.size
  have zq := Nat.lt_of_lt_of_le zq hb2.size
  have zr := Nat.lt_of_lt_of_le zr hb2.size
  refine ⟨_, rfl, keepAnd ?_ (fun hNew => ?_)⟩
  · exact ⟨p0, p1, q0, q1, r0, r1⟩
  clear hHeld
  have hHeld := hNew
  clear hNew
  simp only [Act.put, List.setIfInBounds_toArray, List.set_cons_zero, List.set_cons_succ]
  refine heldCall 8 (some 18) (f := ?_) (args := ?_) rfl rfl (by kernel_rfl) (by rfl) ?_ ?_
  rotate_left 2
  · go_simp <;> first | (constructor <;> with_reducible rfl) | with_reducible rfl
  (with_reducible refine (D2.out _).mono ?_)
  rintro e w3 ⟨rfl, hb3⟩
  have hB3 := hB2.trans (hb3.mono hB2.size)
  have p0 := (hb3.cell (p := ⟨w.heap.size, 0, none⟩) zp).trans p0
  have p1 := (hb3.cell (p := ⟨w.heap.size, 1, none⟩) zp).trans p1
  have q0 := (hb3.cell (p := ⟨w.heap.size + 1, 0, none⟩) zq).trans q0
  have q1 := (hb3.cell (p := ⟨w.heap.size + 1, 1, none⟩) zq).trans q1
  have r0 := (hb3.cell (p := ⟨w.heap.size + 2, 0, none⟩) zr).trans r0
  have r1 := (hb3.cell (p := ⟨w.heap.size + 2, 1, none⟩) zr).trans r1
  have zp := Nat.lt_of_lt_of_le zp hb3.size
  have zq := Nat.lt_of_lt_of_le zq hb3.size
  have zr := Nat.lt_of_lt_of_le zr hb3.size
  refine ⟨_, rfl, keepAnd ?_ (fun hNew => ?_)⟩
  · exact ⟨p0, p1, q0, q1, r0, r1⟩
  clear hHeld
  have hHeld := hNew
  clear hNew
  simp only [Act.put, List.setIfInBounds_toArray, List.set_cons_zero, List.set_cons_succ]
  refine heldTake 9 (some 7) (v := ?_) rfl rfl (by kernel_rfl) (by kernel_rfl) (by kernel_rfl) (by rfl) hHeld (fun _ _ _ h => h) ?_ ?_
  rotate_left
  · intro w' hSw; (try dsimp only at hSw); go_simp <;> with_reducible rfl
  simp only [Act.put, List.setIfInBounds_toArray, List.set_cons_zero, List.set_cons_succ]
  refine heldTake 10 (some 8) (v := ?_) rfl rfl (by kernel_rfl) (by kernel_rfl) (by kernel_rfl) (by rfl) hHeld (fun _ _ _ h => h) ?_ ?_
  rotate_left
  · intro w' hSw; (try dsimp only at hSw); go_simp <;> with_reducible rfl
  simp only [Act.put, List.setIfInBounds_toArray, List.set_cons_zero, List.set_cons_succ]
  refine heldTake 11 (some 9) (v := ?_) rfl rfl (by kernel_rfl) (by kernel_rfl) (by kernel_rfl) (by rfl) hHeld (fun _ _ _ h => h) ?_ ?_
  rotate_left
  · intro w' hSw; (try dsimp only at hSw); go_simp <;> with_reducible rfl
  simp only [Act.put, List.setIfInBounds_toArray, List.set_cons_zero, List.set_cons_succ]
  refine wpAnyH_done (by kernel_rfl) ?_ _
  refine NoPanic.normal ?_
  go_wp2_with fail
  (with_reducible refine (D3.out _).mono ?_)
  rintro e w4 ⟨rfl, hb4⟩
  have hB4 := hB3.trans (hb4.mono hB3.size)
  have p0 := (hb4.cell (p := ⟨w.heap.size, 0, none⟩) zp).trans p0
  have p1 := (hb4.cell (p := ⟨w.heap.size, 1, none⟩) zp).trans p1
  have q0 := (hb4.cell (p := ⟨w.heap.size + 1, 0, none⟩) zq).trans q0
  have q1 := (hb4.cell (p := ⟨w.heap.size + 1, 1, none⟩) zq).trans q1
  have r0 := (hb4.cell (p := ⟨w.heap.size + 2, 0, none⟩) zr).trans r0
  have r1 := (hb4.cell (p := ⟨w.heap.size + 2, 1, none⟩) zr).trans r1
  have zp := Nat.lt_of_lt_of_le zp hb4.size
  have zq := Nat.lt_of_lt_of_le zq hb4.size
  have zr := Nat.lt_of_lt_of_le zr hb4.size
  go_wp2_with fail
  (with_reducible refine (D4.out _).mono ?_)
  rintro e w5 ⟨rfl, hb5⟩
  have hB5 := hB4.trans (hb5.mono hB4.size)
  have p0 := (hb5.cell (p := ⟨w.heap.size, 0, none⟩) zp).trans p0
  have p1 := (hb5.cell (p := ⟨w.heap.size, 1, none⟩) zp).trans p1
  have q0 := (hb5.cell (p := ⟨w.heap.size + 1, 0, none⟩) zq).trans q0
  have q1 := (hb5.cell (p := ⟨w.heap.size + 1, 1, none⟩) zq).trans q1
  have r0 := (hb5.cell (p := ⟨w.heap.size + 2, 0, none⟩) zr).trans r0
  have r1 := (hb5.cell (p := ⟨w.heap.size + 2, 1, none⟩) zr).trans r1
  have zp := Nat.lt_of_lt_of_le zp hb5.size
  have zq := Nat.lt_of_lt_of_le zq hb5.size
  have zr := Nat.lt_of_lt_of_le zr hb5.size
  go_wp2_with fail
  (with_reducible refine (awake_any _ (he.below hB5)).mono ?_)
  rintro e w6 ⟨rfl, hb6⟩
  go_wp2_with fail
  go_ret
  exact ⟨rfl, hB5.trans (hb6.mono hB5.size)⟩

set_option maxRecDepth 100000 in
set_option maxHeartbeats 4000000 in
theorem order_n3 (f t a b c d x y z : Int) (w : World) (he : Env w) (hx : cmpP f t a b = x) (hx' : cmpP a b f t = -x) (hy : cmpP a b c d = y) (hz : cmpP f t c d = z) (bx1 : -1 ≤ x) (bx2 : x ≤ 1) (k1 : (f == a) = false) (k3 : (x == 0) = false) (g1 : ¬ 0 < x) (g2 : ¬ 0 < y) (g3 : z ≤ 0) :
    Calls Tryd.prog 8 #[.agg #[.int .i64 f, .int .i64 t], .agg #[.int .i64 a, .int .i64 b], .agg #[.int .i64 c, .int .i64 d]] w fun e w' => e = .returned (.bool true) ∧ Below w.heap.size w w' := by
  have C0 := fun w => compare_any f t a b w
  have C1 := fun w => compare_any a b c d w
  have C2 := fun w => compare_any f t c d w
  have C3 := fun w => refCompare_any f t a b w
  have C4 := fun w => compare_any a b f t w
  rw [hx] at C0 C3
  rw [hy] at C1
  rw [hz] at C2
  rw [hx'] at C4
  have D0 := Lib.hid C0
  clear C0
  have D1 := Lib.hid C1
  clear C1
  have D2 := Lib.hid C2
  clear C2
  have D3 := Lib.hid C3
  clear C3
  have D4 := Lib.hid C4
  clear C4
  clear hx hx' hy hz
  go_enter Tryd.func8, Tryd.ntmps8
  go_wp2_with fail
  have hB0 := ((Below.of_alloc (w := w) (.cells #[.int .i64 f, .int .i64 t] 23)).alloc (by simp) (.cells #[.int .i64 a, .int .i64 b] 23)).alloc (by simp; omega) (.cells #[.int .i64 c, .int .i64 d] 23)
  have p0 := ((Below.of_alloc (w := ((w.alloc (.cells #[.int .i64 f, .int .i64 t] 23)).alloc (.cells #[.int .i64 a, .int .i64 b] 23))) (.cells #[.int .i64 c, .int .i64 d] 23)).cell (p := ⟨w.heap.size, 0, none⟩) (by simp; omega)).trans (((Below.of_alloc (w := (w.alloc (.cells #[.int .i64 f, .int .i64 t] 23))) (.cells #[.int .i64 a, .int .i64 b] 23)).cell (p := ⟨w.heap.size, 0, none⟩) (by simp)).trans (box_cell w #[.int .i64 f, .int .i64 t] 23 0 (u := .int .i64 f) rfl))
  have p1 := ((Below.of_alloc (w := ((w.alloc (.cells #[.int .i64 f, .int .i64 t] 23)).alloc (.cells #[.int .i64 a, .int .i64 b] 23))) (.cells #[.int .i64 c, .int .i64 d] 23)).cell (p := ⟨w.heap.size, 1, none⟩) (by simp; omega)).trans (((Below.of_alloc (w := (w.alloc (.cells #[.int .i64 f, .int .i64 t] 23))) (.cells #[.int .i64 a, .int .i64 b] 23)).cell (p := ⟨w.heap.size, 1, none⟩) (by simp)).trans (box_cell w #[.int .i64 f, .int .i64 t] 23 1 (u := .int .i64 t) rfl))
  have q0 := ((Below.of_alloc (w := ((w.alloc (.cells #[.int .i64 f, .int .i64 t] 23)).alloc (.cells #[.int .i64 a, .int .i64 b] 23))) (.cells #[.int .i64 c, .int .i64 d] 23)).cell (p := ⟨w.heap.size + 1, 0, none⟩) (by simp)).trans (box_cell' (w.alloc (.cells #[.int .i64 f, .int .i64 t] 23)) (w.heap.size + 1) (by simp) #[.int .i64 a, .int .i64 b] 23 0 (u := .int .i64 a) rfl)
  have q1 := ((Below.of_alloc (w := ((w.alloc (.cells #[.int .i64 f, .int .i64 t] 23)).alloc (.cells #[.int .i64 a, .int .i64 b] 23))) (.cells #[.int .i64 c, .int .i64 d] 23)).cell (p := ⟨w.heap.size + 1, 1, none⟩) (by simp)).trans (box_cell' (w.alloc (.cells #[.int .i64 f, .int .i64 t] 23)) (w.heap.size + 1) (by simp) #[.int .i64 a, .int .i64 b] 23 1 (u := .int .i64 b) rfl)
  have r0 := box_cell' ((w.alloc (.cells #[.int .i64 f, .int .i64 t] 23)).alloc (.cells #[.int .i64 a, .int .i64 b] 23)) (w.heap.size + 2) (by simp) #[.int .i64 c, .int .i64 d] 23 0 (u := .int .i64 c) rfl
  have r1 := box_cell' ((w.alloc (.cells #[.int .i64 f, .int .i64 t] 23)).alloc (.cells #[.int .i64 a, .int .i64 b] 23)) (w.heap.size + 2) (by simp) #[.int .i64 c, .int .i64 d] 23 1 (u := .int .i64 d) rfl
  have zr : w.heap.size + 2 < (((w.alloc (.cells #[.int .i64 f, .int .i64 t] 23)).alloc (.cells #[.int .i64 a, .int .i64 b] 23)).alloc (.cells #[.int .i64 c, .int .i64 d] 23)).heap.size := by simp
  generalize (((w.alloc (.cells #[.int .i64 f, .int .i64 t] 23)).alloc (.cells #[.int .i64 a, .int .i64 b] 23)).alloc (.cells #[.int .i64 c, .int .i64 d] 23)) = w0 at *
  have zq : w.heap.size + 1 < w0.heap.size := by omega
  have zp : w.heap.size < w0.heap.size := by omega
  refine wp_region_noPanic ?_
  refine wp_region_held_drew (S := (fun w' => w'.cell? ⟨w.heap.size, 0, none⟩ = some (.int .i64 f) ∧ w'.cell? ⟨w.heap.size, 1, none⟩ = some (.int .i64 t) ∧ w'.cell? ⟨w.heap.size + 1, 0, none⟩ = some (.int .i64 a) ∧ w'.cell? ⟨w.heap.size + 1, 1, none⟩ = some (.int .i64 b) ∧ w'.cell? ⟨w.heap.size + 2, 0, none⟩ = some (.int .i64 c) ∧ w'.cell? ⟨w.heap.size + 2, 1, none⟩ = some (.int .i64 d))) (by kernel_rfl) ?_ (fun hHeld => ?_)
  · exact ⟨p0, p1, q0, q1, r0, r1⟩
  refine heldTake 0 (some 10) (v := ?_) rfl rfl (by kernel_rfl) (by kernel_rfl) (by kernel_rfl) (by rfl) hHeld (fun _ _ _ h => h) ?_ ?_
  rotate_left
  · intro w' hSw; (try dsimp only at hSw); go_simp <;> with_reducible rfl
  simp only [Act.put, List.setIfInBounds_toArray, List.set_cons_zero, List.set_cons_succ]
  refine heldTake 1 (some 11) (v := ?_) rfl rfl (by kernel_rfl) (by kernel_rfl) (by kernel_rfl) (by rfl) hHeld (fun _ _ _ h => h) ?_ ?_
  rotate_left
  · intro w' hSw; (try dsimp only at hSw); go_simp <;> with_reducible rfl
  simp only [Act.put, List.setIfInBounds_toArray, List.set_cons_zero, List.set_cons_succ]
  refine heldTake 3 (some 13) (v := ?_) rfl rfl (by kernel_rfl) (by kernel_rfl) (by kernel_rfl) (by rfl) hHeld (fun _ _ _ h => h) ?_ ?_
  rotate_left
  · intro w' hSw; (try dsimp only at hSw); go_simp <;> with_reducible rfl
  simp only [Act.put, List.setIfInBounds_toArray, List.set_cons_zero, List.set_cons_succ]
  refine heldTake 4 (some 14) (v := ?_) rfl rfl (by kernel_rfl) (by kernel_rfl) (by kernel_rfl) (by rfl) hHeld (fun _ _ _ h => h) ?_ ?_
  rotate_left
  · intro w' hSw; (try dsimp only at hSw); go_simp <;> with_reducible rfl
  simp only [Act.put, List.setIfInBounds_toArray, List.set_cons_zero, List.set_cons_succ]
  refine heldTake 6 (some 16) (v := ?_) rfl rfl (by kernel_rfl) (by kernel_rfl) (by kernel_rfl) (by rfl) hHeld (fun _ _ _ h => h) ?_ ?_
  rotate_left
  · intro w' hSw; (try dsimp only at hSw); go_simp <;> with_reducible rfl
  simp only [Act.put, List.setIfInBounds_toArray, List.set_cons_zero, List.set_cons_succ]
  refine heldTake 7 (some 17) (v := ?_) rfl rfl (by kernel_rfl) (by kernel_rfl) (by kernel_rfl) (by rfl) hHeld (fun _ _ _ h => h) ?_ ?_
  rotate_left
  · intro w' hSw; (try dsimp only at hSw); go_simp <;> with_reducible rfl
  simp only [Act.put, List.setIfInBounds_toArray, List.set_cons_zero, List.set_cons_succ]
  refine heldCall 2 (some 12) (f := ?_) (args := ?_) rfl rfl (by kernel_rfl) (by rfl) ?_ ?_
  rotate_left 2
  · go_simp <;> first | (constructor <;> with_reducible rfl) | with_reducible rfl
  (with_reducible refine (D0.out _).mono ?_)
  rintro e w1 ⟨rfl, hb1⟩
  have hB1 := hB0.drew.trans (hb1.mono hB0.drew.size)
  have p0 := (hb1.cell (p := ⟨w.heap.size, 0, none⟩) zp).trans p0
  have p1 := (hb1.cell (p := ⟨w.heap.size, 1, none⟩) zp).trans p1
  have q0 := (hb1.cell (p := ⟨w.heap.size + 1, 0, none⟩) zq).trans q0
  have q1 := (hb1.cell (p := ⟨w.heap.size + 1, 1, none⟩) zq).trans q1
  have r0 := (hb1.cell (p := ⟨w.heap.size + 2, 0, none⟩) zr).trans r0
  have r1 := (hb1.cell (p := ⟨w.heap.size + 2, 1, none⟩) zr).trans r1
  have zp := Nat.lt_of_lt_of_le zp hb1.size
  have zq := Nat.lt_of_lt_of_le zq hb1.size
  have zr := Nat.lt_of_lt_of_le zr hb1.size
  refine ⟨_, rfl, keepAnd ?_ (fun hNew => ?_)⟩
  · exact ⟨p0, p1, q0, q1, r0, r1⟩
  clear hHeld
  have hHeld := hNew
  clear hNew
  simp only [Act.put, List.setIfInBounds_toArray, List.set_cons_zero, List.set_cons_succ]
  refine heldCall 5 (some 15) (f := ?_) (args := ?_) rfl rfl (by kernel_rfl) (by rfl) ?_ ?_
  rotate_left 2
  · go_simp <;> first | (constructor <;> with_reducible rfl) | with_reducible rfl
  (with_reducible refine (D1.out _).mono ?_)
  rintro e w2 ⟨rfl, hb2⟩
  have hB2 := hB1.trans (hb2.mono hB1.size)
  have p0 := (hb2.cell (p := ⟨w.heap.size, 0, none⟩) zp).trans p0
  have p1 := (hb2.cell (p := ⟨w.heap.size, 1, none⟩) zp).trans p1
  have q0 := (hb2.cell (p := ⟨w.heap.size + 1, 0, none⟩) zq).trans q0
  have q1 := (hb2.cell (p := ⟨w.heap.size + 1, 1, none⟩) zq).trans q1
  have r0 := (hb2.cell (p := ⟨w.heap.size + 2, 0, none⟩) zr).trans r0
  have r1 := (hb2.cell (p := ⟨w.heap.size + 2, 1, none⟩) zr).trans r1
  have zp := Nat.lt_of_lt_of_le zp hb2.size
  have zq := Nat.lt_of_lt_of_le zq hb2.size
  have zr := Nat.lt_of_lt_of_le zr hb2.size
  refine ⟨_, rfl, keepAnd ?_ (fun hNew => ?_)⟩
  · exact ⟨p0, p1, q0, q1, r0, r1⟩
  clear hHeld
  have hHeld := hNew
  clear hNew
  simp only [Act.put, List.setIfInBounds_toArray, List.set_cons_zero, List.set_cons_succ]
  refine heldCall 8 (some 18) (f := ?_) (args := ?_) rfl rfl (by kernel_rfl) (by rfl) ?_ ?_
  rotate_left 2
  · go_simp <;> first | (constructor <;> with_reducible rfl) | with_reducible rfl
  (with_reducible refine (D2.out _).mono ?_)
  rintro e w3 ⟨rfl, hb3⟩
  have hB3 := hB2.trans (hb3.mono hB2.size)
  have p0 := (hb3.cell (p := ⟨w.heap.size, 0, none⟩) zp).trans p0
  have p1 := (hb3.cell (p := ⟨w.heap.size, 1, none⟩) zp).trans p1
  have q0 := (hb3.cell (p := ⟨w.heap.size + 1, 0, none⟩) zq).trans q0
  have q1 := (hb3.cell (p := ⟨w.heap.size + 1, 1, none⟩) zq).trans q1
  have r0 := (hb3.cell (p := ⟨w.heap.size + 2, 0, none⟩) zr).trans r0
  have r1 := (hb3.cell (p := ⟨w.heap.size + 2, 1, none⟩) zr).trans r1
  have zp := Nat.lt_of_lt_of_le zp hb3.size
  have zq := Nat.lt_of_lt_of_le zq hb3.size
  have zr := Nat.lt_of_lt_of_le zr hb3.size
  refine ⟨_, rfl, keepAnd ?_ (fun hNew => ?_)⟩
  · exact ⟨p0, p1, q0, q1, r0, r1⟩
  clear hHeld
  have hHeld := hNew
  clear hNew
  simp only [Act.put, List.setIfInBounds_toArray, List.set_cons_zero, List.set_cons_succ]
  refine heldTake 9 (some 7) (v := ?_) rfl rfl (by kernel_rfl) (by kernel_rfl) (by kernel_rfl) (by rfl) hHeld (fun _ _ _ h => h) ?_ ?_
  rotate_left
  · intro w' hSw; (try dsimp only at hSw); go_simp <;> with_reducible rfl
  simp only [Act.put, List.setIfInBounds_toArray, List.set_cons_zero, List.set_cons_succ]
  refine heldTake 10 (some 8) (v := ?_) rfl rfl (by kernel_rfl) (by kernel_rfl) (by kernel_rfl) (by rfl) hHeld (fun _ _ _ h => h) ?_ ?_
  rotate_left
  · intro w' hSw; (try dsimp only at hSw); go_simp <;> with_reducible rfl
  simp only [Act.put, List.setIfInBounds_toArray, List.set_cons_zero, List.set_cons_succ]
  refine heldTake 11 (some 9) (v := ?_) rfl rfl (by kernel_rfl) (by kernel_rfl) (by kernel_rfl) (by rfl) hHeld (fun _ _ _ h => h) ?_ ?_
  rotate_left
  · intro w' hSw; (try dsimp only at hSw); go_simp <;> with_reducible rfl
  simp only [Act.put, List.setIfInBounds_toArray, List.set_cons_zero, List.set_cons_succ]
  refine wpAnyH_done (by kernel_rfl) ?_ _
  refine NoPanic.normal ?_
  go_wp2_with fail
  (with_reducible refine (D3.out _).mono ?_)
  rintro e w4 ⟨rfl, hb4⟩
  have hB4 := hB3.trans (hb4.mono hB3.size)
  have p0 := (hb4.cell (p := ⟨w.heap.size, 0, none⟩) zp).trans p0
  have p1 := (hb4.cell (p := ⟨w.heap.size, 1, none⟩) zp).trans p1
  have q0 := (hb4.cell (p := ⟨w.heap.size + 1, 0, none⟩) zq).trans q0
  have q1 := (hb4.cell (p := ⟨w.heap.size + 1, 1, none⟩) zq).trans q1
  have r0 := (hb4.cell (p := ⟨w.heap.size + 2, 0, none⟩) zr).trans r0
  have r1 := (hb4.cell (p := ⟨w.heap.size + 2, 1, none⟩) zr).trans r1
  have zp := Nat.lt_of_lt_of_le zp hb4.size
  have zq := Nat.lt_of_lt_of_le zq hb4.size
  have zr := Nat.lt_of_lt_of_le zr hb4.size
  go_wp2_with fail
  (with_reducible refine (D4.out _).mono ?_)
  rintro e w5 ⟨rfl, hb5⟩
  have hB5 := hB4.trans (hb5.mono hB4.size)
  have p0 := (hb5.cell (p := ⟨w.heap.size, 0, none⟩) zp).trans p0
  have p1 := (hb5.cell (p := ⟨w.heap.size, 1, none⟩) zp).trans p1
  have q0 := (hb5.cell (p := ⟨w.heap.size + 1, 0, none⟩) zq).trans q0
  have q1 := (hb5.cell (p := ⟨w.heap.size + 1, 1, none⟩) zq).trans q1
  have r0 := (hb5.cell (p := ⟨w.heap.size + 2, 0, none⟩) zr).trans r0
  have r1 := (hb5.cell (p := ⟨w.heap.size + 2, 1, none⟩) zr).trans r1
  have zp := Nat.lt_of_lt_of_le zp hb5.size
  have zq := Nat.lt_of_lt_of_le zq hb5.size
  have zr := Nat.lt_of_lt_of_le zr hb5.size
  go_wp2_with fail
  (with_reducible refine (awake_any _ (he.below hB5)).mono ?_)
  rintro e w6 ⟨rfl, hb6⟩
  go_wp2_with fail
  go_ret
  exact ⟨rfl, hB5.trans (hb6.mono hB5.size)⟩

set_option maxRecDepth 100000 in
set_option maxHeartbeats 4000000 in
theorem order_m1 (f t a b c d x y z : Int) (w : World) (he : Env w) (hx : cmpP f t a b = x) (hx' : cmpP a b f t = -x) (hy : cmpP a b c d = y) (hz : cmpP f t c d = z) (bx1 : -1 ≤ x) (bx2 : x ≤ 1) (k1 : (f == a) = true) (k2 : (t == b) = false) (k3 : (x == 0) = false) (g1 : 0 < x) :
    Calls Tryd.prog 8 #[.agg #[.int .i64 f, .int .i64 t], .agg #[.int .i64 a, .int .i64 b], .agg #[.int .i64 c, .int .i64 d]] w fun e w' => e = .returned (.bool true) ∧ Below w.heap.size w w' := by
  have C0 := fun w => compare_any f t a b w
  have C1 := fun w => compare_any a b c d w
  have C2 := fun w => compare_any f t c d w
  have C3 := fun w => refCompare_any f t a b w
  have C4 := fun w => compare_any a b f t w
  rw [hx] at C0 C3
  rw [hy] at C1
  rw [hz] at C2
  rw [hx'] at C4
  have D0 := Lib.hid C0
  clear C0
  have D1 := Lib.hid C1
  clear C1
  have D2 := Lib.hid C2
  clear C2
  have D3 := Lib.hid C3
  clear C3
  have D4 := Lib.hid C4
  clear C4
  clear hx hx' hy hz
  go_enter Tryd.func8, Tryd.ntmps8
  go_wp2_with fail
  have hB0 := ((Below.of_alloc (w := w) (.cells #[.int .i64 f, .int .i64 t] 23)).alloc (by simp) (.cells #[.int .i64 a, .int .i64 b] 23)).alloc (by simp; omega) (.cells #[.int .i64 c, .int .i64 d] 23)
  have p0 := ((Below.of_alloc (w := ((w.alloc (.cells #[.int .i64 f, .int .i64 t] 23)).alloc (.cells #[.int .i64 a, .int .i64 b] 23))) (.cells #[.int .i64 c, .int .i64 d] 23)).cell (p := ⟨w.heap.size, 0, none⟩) (by simp; omega)).trans (((Below.of_alloc (w := (w.alloc (.cells #[.int .i64 f, .int .i64 t] 23))) (.cells #[.int .i64 a, .int .i64 b] 23)).cell (p := ⟨w.heap.size, 0, none⟩) (by simp)).trans (box_cell w #[.int .i64 f, .int .i64 t] 23 0 (u := .int .i64 f) rfl))
  have p1 := ((Below.of_alloc (w := ((w.alloc (.cells #[.int .i64 f, .int .i64 t] 23)).alloc (.cells #[.int .i64 a, .int .i64 b] 23))) (.cells #[.int .i64 c, .int .i64 d] 23)).cell (p := ⟨w.heap.size, 1, none⟩) (by simp; omega)).trans (((Below.of_alloc (w := (w.alloc (.cells #[.int .i64 f, .int .i64 t] 23))) (.cells #[.int .i64 a, .int .i64 b] 23)).cell (p := ⟨w.heap.size, 1, none⟩) (by simp)).trans (box_cell w #[.int .i64 f, .int .i64 t] 23 1 (u := .int .i64 t) rfl))
  have q0 := ((Below.of_alloc (w := ((w.alloc (.cells #[.int .i64 f, .int .i64 t] 23)).alloc (.cells #[.int .i64 a, .int .i64 b] 23))) (.cells #[.int .i64 c, .int .i64 d] 23)).cell (p := ⟨w.heap.size + 1, 0, none⟩) (by simp)).trans (box_cell' (w.alloc (.cells #[.int .i64 f, .int .i64 t] 23)) (w.heap.size + 1) (by simp) #[.int .i64 a, .int .i64 b] 23 0 (u := .int .i64 a) rfl)
  have q1 := ((Below.of_alloc (w := ((w.alloc (.cells #[.int .i64 f, .int .i64 t] 23)).alloc (.cells #[.int .i64 a, .int .i64 b] 23))) (.cells #[.int .i64 c, .int .i64 d] 23)).cell (p := ⟨w.heap.size + 1, 1, none⟩) (by simp)).trans (box_cell' (w.alloc (.cells #[.int .i64 f, .int .i64 t] 23)) (w.heap.size + 1) (by simp) #[.int .i64 a, .int .i64 b] 23 1 (u := .int .i64 b) rfl)
  have r0 := box_cell' ((w.alloc (.cells #[.int .i64 f, .int .i64 t] 23)).alloc (.cells #[.int .i64 a, .int .i64 b] 23)) (w.heap.size + 2) (by simp) #[.int .i64 c, .int .i64 d] 23 0 (u := .int .i64 c) rfl
  have r1 := box_cell' ((w.alloc (.cells #[.int .i64 f, .int .i64 t] 23)).alloc (.cells #[.int .i64 a, .int .i64 b] 23)) (w.heap.size + 2) (by simp) #[.int .i64 c, .int .i64 d] 23 1 (u := .int .i64 d) rfl
  have zr : w.heap.size + 2 < (((w.alloc (.cells #[.int .i64 f, .int .i64 t] 23)).alloc (.cells #[.int .i64 a, .int .i64 b] 23)).alloc (.cells #[.int .i64 c, .int .i64 d] 23)).heap.size := by simp
  generalize (((w.alloc (.cells #[.int .i64 f, .int .i64 t] 23)).alloc (.cells #[.int .i64 a, .int .i64 b] 23)).alloc (.cells #[.int .i64 c, .int .i64 d] 23)) = w0 at *
  have zq : w.heap.size + 1 < w0.heap.size := by omega
  have zp : w.heap.size < w0.heap.size := by omega
  refine wp_region_noPanic ?_
  refine wp_region_held_drew (S := (fun w' => w'.cell? ⟨w.heap.size, 0, none⟩ = some (.int .i64 f) ∧ w'.cell? ⟨w.heap.size, 1, none⟩ = some (.int .i64 t) ∧ w'.cell? ⟨w.heap.size + 1, 0, none⟩ = some (.int .i64 a) ∧ w'.cell? ⟨w.heap.size + 1, 1, none⟩ = some (.int .i64 b) ∧ w'.cell? ⟨w.heap.size + 2, 0, none⟩ = some (.int .i64 c) ∧ w'.cell? ⟨w.heap.size + 2, 1, none⟩ = some (.int .i64 d))) (by kernel_rfl) ?_ (fun hHeld => ?_)
  · exact ⟨p0, p1, q0, q1, r0, r1⟩
  refine heldTake 0 (some 10) (v := ?_) rfl rfl (by kernel_rfl) (by kernel_rfl) (by kernel_rfl) (by rfl) hHeld (fun _ _ _ h => h) ?_ ?_
  rotate_left
  · intro w' hSw; (try dsimp only at hSw); go_simp <;> with_reducible rfl
  simp only [Act.put, List.setIfInBounds_toArray, List.set_cons_zero, List.set_cons_succ]
  refine heldTake 1 (some 11) (v := ?_) rfl rfl (by kernel_rfl) (by kernel_rfl) (by kernel_rfl) (by rfl) hHeld (fun _ _ _ h => h) ?_ ?_
  rotate_left
  · intro w' hSw; (try dsimp only at hSw); go_simp <;> with_reducible rfl
  simp only [Act.put, List.setIfInBounds_toArray, List.set_cons_zero, List.set_cons_succ]
  refine heldTake 3 (some 13) (v := ?_) rfl rfl (by kernel_rfl) (by kernel_rfl) (by kernel_rfl) (by rfl) hHeld (fun _ _ _ h => h) ?_ ?_
  rotate_left
  · intro w' hSw; (try dsimp only at hSw); go_simp <;> with_reducible rfl
  simp only [Act.put, List.setIfInBounds_toArray, List.set_cons_zero, List.set_cons_succ]
  refine heldTake 4 (some 14) (v := ?_) rfl rfl (by kernel_rfl) (by kernel_rfl) (by kernel_rfl) (by rfl) hHeld (fun _ _ _ h => h) ?_ ?_
  rotate_left
  · intro w' hSw; (try dsimp only at hSw); go_simp <;> with_reducible rfl
  simp only [Act.put, List.setIfInBounds_toArray, List.set_cons_zero, List.set_cons_succ]
  refine heldTake 6 (some 16) (v := ?_) rfl rfl (by kernel_rfl) (by kernel_rfl) (by kernel_rfl) (by rfl) hHeld (fun _ _ _ h => h) ?_ ?_
  rotate_left
  · intro w' hSw; (try dsimp only at hSw); go_simp <;> with_reducible rfl
  simp only [Act.put, List.setIfInBounds_toArray, List.set_cons_zero, List.set_cons_succ]
  refine heldTake 7 (some 17) (v := ?_) rfl rfl (by kernel_rfl) (by kernel_rfl) (by kernel_rfl) (by rfl) hHeld (fun _ _ _ h => h) ?_ ?_
  rotate_left
  · intro w' hSw; (try dsimp only at hSw); go_simp <;> with_reducible rfl
  simp only [Act.put, List.setIfInBounds_toArray, List.set_cons_zero, List.set_cons_succ]
  refine heldCall 2 (some 12) (f := ?_) (args := ?_) rfl rfl (by kernel_rfl) (by rfl) ?_ ?_
  rotate_left 2
  · go_simp <;> first | (constructor <;> with_reducible rfl) | with_reducible rfl
  (with_reducible refine (D0.out _).mono ?_)
  rintro e w1 ⟨rfl, hb1⟩
  have hB1 := hB0.drew.trans (hb1.mono hB0.drew.size)
  have p0 := (hb1.cell (p := ⟨w.heap.size, 0, none⟩) zp).trans p0
  have p1 := (hb1.cell (p := ⟨w.heap.size, 1, none⟩) zp).trans p1
  have q0 := (hb1.cell (p := ⟨w.heap.size + 1, 0, none⟩) zq).trans q0
  have q1 := (hb1.cell (p := ⟨w.heap.size + 1, 1, none⟩) zq).trans q1
  have r0 := (hb1.cell (p := ⟨w.heap.size + 2, 0, none⟩) zr).trans r0
  have r1 := (hb1.cell (p := ⟨w.heap.size + 2, 1, none⟩) zr).trans r1
  have zp := Nat.lt_of_lt_of_le zp hb1.size
  have zq := Nat.lt_of_lt_of_le zq hb1.size
  have zr := Nat.lt_of_lt_of_le zr hb1.size
  refine ⟨_, rfl, keepAnd ?_ (fun hNew => ?_)⟩
  · exact ⟨p0, p1, q0, q1, r0, r1⟩
  clear hHeld
  have hHeld := hNew
  clear hNew
  simp only [Act.put, List.setIfInBounds_toArray, List.set_cons_zero, List.set_cons_succ]
  refine heldCall 5 (some 15) (f := ?_) (args := ?_) rfl rfl (by kernel_rfl) (by rfl) ?_ ?_
  rotate_left 2
  · go_simp <;> first | (constructor <;> with_reducible rfl) | with_reducible rfl
  (with_reducible refine (D1.out _).mono ?_)
  rintro e w2 ⟨rfl, hb2⟩
  have hB2 := hB1.trans (hb2.mono hB1.size)
  have p0 := (hb2.cell (p := ⟨w.heap.size, 0, none⟩) zp).trans p0
  have p1 := (hb2.cell (p := ⟨w.heap.size, 1, none⟩) zp).trans p1
  have q0 := (hb2.cell (p := ⟨w.heap.size + 1, 0, none⟩) zq).trans q0
  have q1 := (hb2.cell (p := ⟨w.heap.size + 1, 1, none⟩) zq).trans q1
  have r0 := (hb2.cell (p := ⟨w.heap.size + 2, 0, none⟩) zr).trans r0
  have r1 := (hb2.cell (p := ⟨w.heap.size + 2, 1, none⟩) zr).trans r1
  have zp := Nat.lt_of_lt_of_le zp hb2.size
  have zq := Nat.lt_of_lt_of_le zq hb2.size
  have zr := Nat.lt_of_lt_of_le zr hb2.size
  refine ⟨_, rfl, keepAnd ?_ (fun hNew => ?_)⟩
  · exact ⟨p0, p1, q0, q1, r0, r1⟩
  clear hHeld
  have hHeld := hNew
  clear hNew
  simp only [Act.put, List.setIfInBounds_toArray, List.set_cons_zero, List.set_cons_succ]
  refine heldCall 8 (some 18) (f := ?_) (args := ?_) rfl rfl (by kernel_rfl) (by rfl) ?_ ?_
  rotate_left 2
  · go_simp <;> first | (constructor <;> with_reducible rfl) | with_reducible rfl
  (with_reducible refine (D2.out _).mono ?_)
  rintro e w3 ⟨rfl, hb3⟩
  have hB3 := hB2.trans (hb3.mono hB2.size)
  have p0 := (hb3.cell (p := ⟨w.heap.size, 0, none⟩) zp).trans p0
  have p1 := (hb3.cell (p := ⟨w.heap.size, 1, none⟩) zp).trans p1
  have q0 := (hb3.cell (p := ⟨w.heap.size + 1, 0, none⟩) zq).trans q0
  have q1 := (hb3.cell (p := ⟨w.heap.size + 1, 1, none⟩) zq).trans q1
  have r0 := (hb3.cell (p := ⟨w.heap.size + 2, 0, none⟩) zr).trans r0
  have r1 := (hb3.cell (p := ⟨w.heap.size + 2, 1, none⟩) zr).trans r1
  have zp := Nat.lt_of_lt_of_le zp hb3.size
  have zq := Nat.lt_of_lt_of_le zq hb3.size
  have zr := Nat.lt_of_lt_of_le zr hb3.size
  refine ⟨_, rfl, keepAnd ?_ (fun hNew => ?_)⟩
  · exact ⟨p0, p1, q0, q1, r0, r1⟩
  clear hHeld
  have hHeld := hNew
  clear hNew
  simp only [Act.put, List.setIfInBounds_toArray, List.set_cons_zero, List.set_cons_succ]
  refine heldTake 9 (some 7) (v := ?_) rfl rfl (by kernel_rfl) (by kernel_rfl) (by kernel_rfl) (by rfl) hHeld (fun _ _ _ h => h) ?_ ?_
  rotate_left
  · intro w' hSw; (try dsimp only at hSw); go_simp <;> with_reducible rfl
  simp only [Act.put, List.setIfInBounds_toArray, List.set_cons_zero, List.set_cons_succ]
  refine heldTake 10 (some 8) (v := ?_) rfl rfl (by kernel_rfl) (by kernel_rfl) (by kernel_rfl) (by rfl) hHeld (fun _ _ _ h => h) ?_ ?_
  rotate_left
  · intro w' hSw; (try dsimp only at hSw); go_simp <;> with_reducible rfl
  simp only [Act.put, List.setIfInBounds_toArray, List.set_cons_zero, List.set_cons_succ]
  refine heldTake 11 (some 9) (v := ?_) rfl rfl (by kernel_rfl) (by kernel_rfl) (by kernel_rfl) (by rfl) hHeld (fun _ _ _ h => h) ?_ ?_
  rotate_left
  · intro w' hSw; (try dsimp only at hSw); go_simp <;> with_reducible rfl
  simp only [Act.put, List.setIfInBounds_toArray, List.set_cons_zero, List.set_cons_succ]
  refine wpAnyH_done (by kernel_rfl) ?_ _
  refine NoPanic.normal ?_
  go_wp2_with fail
  (with_reducible refine (D3.out _).mono ?_)
  rintro e w4 ⟨rfl, hb4⟩
  have hB4 := hB3.trans (hb4.mono hB3.size)
  have p0 := (hb4.cell (p := ⟨w.heap.size, 0, none⟩) zp).trans p0
  have p1 := (hb4.cell (p := ⟨w.heap.size, 1, none⟩) zp).trans p1
  have q0 := (hb4.cell (p := ⟨w.heap.size + 1, 0, none⟩) zq).trans q0
  have q1 := (hb4.cell (p := ⟨w.heap.size + 1, 1, none⟩) zq).trans q1
  have r0 := (hb4.cell (p := ⟨w.heap.size + 2, 0, none⟩) zr).trans r0
  have r1 := (hb4.cell (p := ⟨w.heap.size + 2, 1, none⟩) zr).trans r1
  have zp := Nat.lt_of_lt_of_le zp hb4.size
  have zq := Nat.lt_of_lt_of_le zq hb4.size
  have zr := Nat.lt_of_lt_of_le zr hb4.size
  go_wp2_with fail
  (with_reducible refine (D4.out _).mono ?_)
  rintro e w5 ⟨rfl, hb5⟩
  have hB5 := hB4.trans (hb5.mono hB4.size)
  have p0 := (hb5.cell (p := ⟨w.heap.size, 0, none⟩) zp).trans p0
  have p1 := (hb5.cell (p := ⟨w.heap.size, 1, none⟩) zp).trans p1
  have q0 := (hb5.cell (p := ⟨w.heap.size + 1, 0, none⟩) zq).trans q0
  have q1 := (hb5.cell (p := ⟨w.heap.size + 1, 1, none⟩) zq).trans q1
  have r0 := (hb5.cell (p := ⟨w.heap.size + 2, 0, none⟩) zr).trans r0
  have r1 := (hb5.cell (p := ⟨w.heap.size + 2, 1, none⟩) zr).trans r1
  have zp := Nat.lt_of_lt_of_le zp hb5.size
  have zq := Nat.lt_of_lt_of_le zq hb5.size
  have zr := Nat.lt_of_lt_of_le zr hb5.size
  go_wp2_with fail
  (with_reducible refine (awake_any _ (he.below hB5)).mono ?_)
  rintro e w6 ⟨rfl, hb6⟩
  go_wp2_with fail
  go_ret
  exact ⟨rfl, hB5.trans (hb6.mono hB5.size)⟩

set_option maxRecDepth 100000 in
set_option maxHeartbeats 4000000 in
theorem order_m2 (f t a b c d x y z : Int) (w : World) (he : Env w) (hx : cmpP f t a b = x) (hx' : cmpP a b f t = -x) (hy : cmpP a b c d = y) (hz : cmpP f t c d = z) (bx1 : -1 ≤ x) (bx2 : x ≤ 1) (k1 : (f == a) = true) (k2 : (t == b) = false) (k3 : (x == 0) = false) (g1 : ¬ 0 < x) (g2 : 0 < y) :
    Calls Tryd.prog 8 #[.agg #[.int .i64 f, .int .i64 t], .agg #[.int .i64 a, .int .i64 b], .agg #[.int .i64 c, .int .i64 d]] w fun e w' => e = .returned (.bool true) ∧ Below w.heap.size w w' := by
  have C0 := fun w => compare_any f t a b w
  have C1 := fun w => compare_any a b c d w
  have C2 := fun w => compare_any f t c d w
  have C3 := fun w => refCompare_any f t a b w
  have C4 := fun w => compare_any a b f t w
  rw [hx] at C0 C3
  rw [hy] at C1
  rw [hz] at C2
  rw [hx'] at C4
  have D0 := Lib.hid C0
  clear C0
  have D1 := Lib.hid C1
  clear C1
  have D2 := Lib.hid C2
  clear C2
  have D3 := Lib.hid C3
  clear C3
  have D4 := Lib.hid C4
  clear C4
  clear hx hx' hy hz
  go_enter Tryd.func8, Tryd.ntmps8
  go_wp2_with fail
  have hB0 := ((Below.of_alloc (w := w) (.cells #[.int .i64 f, .int .i64 t] 23)).alloc (by simp) (.cells #[.int .i64 a, .int .i64 b] 23)).alloc (by simp; omega) (.cells #[.int .i64 c, .int .i64 d] 23)
  have p0 := ((Below.of_alloc (w := ((w.alloc (.cells #[.int .i64 f, .int .i64 t] 23)).alloc (.cells #[.int .i64 a, .int .i64 b] 23))) (.cells #[.int .i64 c, .int .i64 d] 23)).cell (p := ⟨w.heap.size, 0, none⟩) (by simp; omega)).trans (((Below.of_alloc (w := (w.alloc (.cells #[.int .i64 f, .int .i64 t] 23))) (.cells #[.int .i64 a, .int .i64 b] 23)).cell (p := ⟨w.heap.size, 0, none⟩) (by simp)).trans (box_cell w #[.int .i64 f, .int .i64 t] 23 0 (u := .int .i64 f) rfl))
  have p1 := ((Below.of_alloc (w := ((w.alloc (.cells #[.int .i64 f, .int .i64 t] 23)).alloc (.cells #[.int .i64 a, .int .i64 b] 23))) (.cells #[.int .i64 c, .int .i64 d] 23)).cell (p := ⟨w.heap.size, 1, none⟩) (by simp; omega)).trans (((Below.of_alloc (w := (w.alloc (.cells #[.int .i64 f, .int .i64 t] 23))) (.cells #[.int .i64 a, .int .i64 b] 23)).cell (p := ⟨w.heap.size, 1, none⟩) (by simp)).trans (box_cell w #[.int .i64 f, .int .i64 t] 23 1 (u := .int .i64 t) rfl))
  have q0 := ((Below.of_alloc (w := ((w.alloc (.cells #[.int .i64 f, .int .i64 t] 23)).alloc (.cells #[.int .i64 a, .int .i64 b] 23))) (.cells #[.int .i64 c, .int .i64 d] 23)).cell (p := ⟨w.heap.size + 1, 0, none⟩) (by simp)).trans (box_cell' (w.alloc (.cells #[.int .i64 f, .int .i64 t] 23)) (w.heap.size + 1) (by simp) #[.int .i64 a, .int .i64 b] 23 0 (u := .int .i64 a) rfl)
  have q1 := ((Below.of_alloc (w := ((w.alloc (.cells #[.int .i64 f, .int .i64 t] 23)).alloc (.cells #[.int .i64 a, .int .i64 b] 23))) (.cells #[.int .i64 c, .int .i64 d] 23)).cell (p := ⟨w.heap.size + 1, 1, none⟩) (by simp)).trans (box_cell' (w.alloc (.cells #[.int .i64 f, .int .i64 t] 23)) (w.heap.size + 1) (by simp) #[.int .i64 a, .int .i64 b] 23 1 (u := .int .i64 b) rfl)
  have r0 := box_cell' ((w.alloc (.cells #[.int .i64 f, .int .i64 t] 23)).alloc (.cells #[.int .i64 a, .int .i64 b] 23)) (w.heap.size + 2) (by simp) #[.int .i64 c, .int .i64 d] 23 0 (u := .int .i64 c) rfl
  have r1 := box_cell' ((w.alloc (.cells #[.int .i64 f, .int .i64 t] 23)).alloc (.cells #[.int .i64 a, .int .i64 b] 23)) (w.heap.size + 2) (by simp) #[.int .i64 c, .int .i64 d] 23 1 (u := .int .i64 d) rfl
  have zr : w.heap.size + 2 < (((w.alloc (.cells #[.int .i64 f, .int .i64 t] 23)).alloc (.cells #[.int .i64 a, .int .i64 b] 23)).alloc (.cells #[.int .i64 c, .int .i64 d] 23)).heap.size := by simp
  generalize (((w.alloc (.cells #[.int .i64 f, .int .i64 t] 23)).alloc (.cells #[.int .i64 a, .int .i64 b] 23)).alloc (.cells #[.int .i64 c, .int .i64 d] 23)) = w0 at *
  have zq : w.heap.size + 1 < w0.heap.size := by omega
  have zp : w.heap.size < w0.heap.size := by omega
  refine wp_region_noPanic ?_
  refine wp_region_held_drew (S := (fun w' => w'.cell? ⟨w.heap.size, 0, none⟩ = some (.int .i64 f) ∧ w'.cell? ⟨w.heap.size, 1, none⟩ = some (.int .i64 t) ∧ w'.cell? ⟨w.heap.size + 1, 0, none⟩ = some (.int .i64 a) ∧ w'.cell? ⟨w.heap.size + 1, 1, none⟩ = some (.int .i64 b) ∧ w'.cell? ⟨w.heap.size + 2, 0, none⟩ = some (.int .i64 c) ∧ w'.cell? ⟨w.heap.size + 2, 1, none⟩ = some (.int .i64 d))) (by kernel_rfl) ?_ (fun hHeld => ?_)
  · exact ⟨p0, p1, q0, q1, r0, r1⟩
  refine heldTake 0 (some 10) (v := ?_) rfl rfl (by kernel_rfl) (by kernel_rfl) (by kernel_rfl) (by rfl) hHeld (fun _ _ _ h => h) ?_ ?_
  rotate_left
  · intro w' hSw; (try dsimp only at hSw); go_simp <;> with_reducible rfl
  simp only [Act.put, List.setIfInBounds_toArray, List.set_cons_zero, List.set_cons_succ]
  refine heldTake 1 (some 11) (v := ?_) rfl rfl (by kernel_rfl) (by kernel_rfl) (by kernel_rfl) (by rfl) hHeld (fun _ _ _ h => h) ?_ ?_
  rotate_left
  · intro w' hSw; (try dsimp only at hSw); go_simp <;> with_reducible rfl
  simp only [Act.put, List.setIfInBounds_toArray, List.set_cons_zero, List.set_cons_succ]
  refine heldTake 3 (some 13) (v := ?_) rfl rfl (by kernel_rfl) (by kernel_rfl) (by kernel_rfl) (by rfl) hHeld (fun _ _ _ h => h) ?_ ?_
  rotate_left
  · intro w' hSw; (try dsimp only at hSw); go_simp <;> with_reducible rfl
  simp only [Act.put, List.setIfInBounds_toArray, List.set_cons_zero, List.set_cons_succ]
  refine heldTake 4 (some 14) (v := ?_) rfl rfl (by kernel_rfl) (by kernel_rfl) (by kernel_rfl) (by rfl) hHeld (fun _ _ _ h => h) ?_ ?_
  rotate_left
  · intro w' hSw; (try dsimp only at hSw); go_simp <;> with_reducible rfl
  simp only [Act.put, List.setIfInBounds_toArray, List.set_cons_zero, List.set_cons_succ]
  refine heldTake 6 (some 16) (v := ?_) rfl rfl (by kernel_rfl) (by kernel_rfl) (by kernel_rfl) (by rfl) hHeld (fun _ _ _ h => h) ?_ ?_
  rotate_left
  · intro w' hSw; (try dsimp only at hSw); go_simp <;> with_reducible rfl
  simp only [Act.put, List.setIfInBounds_toArray, List.set_cons_zero, List.set_cons_succ]
  refine heldTake 7 (some 17) (v := ?_) rfl rfl (by kernel_rfl) (by kernel_rfl) (by kernel_rfl) (by rfl) hHeld (fun _ _ _ h => h) ?_ ?_
  rotate_left
  · intro w' hSw; (try dsimp only at hSw); go_simp <;> with_reducible rfl
  simp only [Act.put, List.setIfInBounds_toArray, List.set_cons_zero, List.set_cons_succ]
  refine heldCall 2 (some 12) (f := ?_) (args := ?_) rfl rfl (by kernel_rfl) (by rfl) ?_ ?_
  rotate_left 2
  · go_simp <;> first | (constructor <;> with_reducible rfl) | with_reducible rfl
  (with_reducible refine (D0.out _).mono ?_)
  rintro e w1 ⟨rfl, hb1⟩
  have hB1 := hB0.drew.trans (hb1.mono hB0.drew.size)
  have p0 := (hb1.cell (p := ⟨w.heap.size, 0, none⟩) zp).trans p0
  have p1 := (hb1.cell (p := ⟨w.heap.size, 1, none⟩) zp).trans p1
  have q0 := (hb1.cell (p := ⟨w.heap.size + 1, 0, none⟩) zq).trans q0
  have q1 := (hb1.cell (p := ⟨w.heap.size + 1, 1, none⟩) zq).trans q1
  have r0 := (hb1.cell (p := ⟨w.heap.size + 2, 0, none⟩) zr).trans r0
  have r1 := (hb1.cell (p := ⟨w.heap.size + 2, 1, none⟩) zr).trans r1
  have zp := Nat.lt_of_lt_of_le zp hb1.size
  have zq := Nat.lt_of_lt_of_le zq hb1.size
  have zr := Nat.lt_of_lt_of_le zr hb1.size
  refine ⟨_, rfl, keepAnd ?_ (fun hNew => ?_)⟩
  · exact ⟨p0, p1, q0, q1, r0, r1⟩
  clear hHeld
  have hHeld := hNew
  clear hNew
  simp only [Act.put, List.setIfInBounds_toArray, List.set_cons_zero, List.set_cons_succ]
  refine heldCall 5 (some 15) (f := ?_) (args := ?_) rfl rfl (by kernel_rfl) (by rfl) ?_ ?_
  rotate_left 2
  · go_simp <;> first | (constructor <;> with_reducible rfl) | with_reducible rfl
  (with_reducible refine (D1.out _).mono ?_)
  rintro e w2 ⟨rfl, hb2⟩
  have hB2 := hB1.trans (hb2.mono hB1.size)
  have p0 := (hb2.cell (p := ⟨w.heap.size, 0, none⟩) zp).trans p0
  have p1 := (hb2.cell (p := ⟨w.heap.size, 1, none⟩) zp).trans p1
  have q0 := (hb2.cell (p := ⟨w.heap.size + 1, 0, none⟩) zq).trans q0
  have q1 := (hb2.cell (p := ⟨w.heap.size + 1, 1, none⟩) zq).trans q1
  have r0 := (hb2.cell (p := ⟨w.heap.size + 2, 0, none⟩) zr).trans r0
  have r1 := (hb2.cell (p := ⟨w.heap.size + 2, 1, none⟩) zr).trans r1
  have zp := Nat.lt_of_lt_of_le zp hb2.size
  have zq := Nat.lt_of_lt_of_le zq hb2.size
  have zr := Nat.lt_of_lt_of_le zr hb2.size
  refine ⟨_, rfl, keepAnd ?_ (fun hNew => ?_)⟩
  · exact ⟨p0, p1, q0, q1, r0, r1⟩
  clear hHeld
  have hHeld := hNew
  clear hNew
  simp only [Act.put, List.setIfInBounds_toArray, List.set_cons_zero, List.set_cons_succ]
  refine heldCall 8 (some 18) (f := ?_) (args := ?_) rfl rfl (by kernel_rfl) (by rfl) ?_ ?_
  rotate_left 2
  · go_simp <;> first | (constructor <;> with_reducible rfl) | with_reducible rfl
  (with_reducible refine (D2.out _).mono ?_)
  rintro e w3 ⟨rfl, hb3⟩
  have hB3 := hB2.trans (hb3.mono hB2.size)
  have p0 := (hb3.cell (p := ⟨w.heap.size, 0, none⟩) zp).trans p0
  have p1 := (hb3.cell (p := ⟨w.heap.size, 1, none⟩) zp).trans p1
  have q0 := (hb3.cell (p := ⟨w.heap.size + 1, 0, none⟩) zq).trans q0
  have q1 := (hb3.cell (p := ⟨w.heap.size + 1, 1, none⟩) zq).trans q1
  have r0 := (hb3.cell (p := ⟨w.heap.size + 2, 0, none⟩) zr).trans r0
  have r1 := (hb3.cell (p := ⟨w.heap.size + 2, 1, none⟩) zr).trans r1
  have zp := Nat.lt_of_lt_of_le zp hb3.size
  have zq := Nat.lt_of_lt_of_le zq hb3.size
  have zr := Nat.lt_of_lt_of_le zr hb3.size
  refine ⟨_, rfl, keepAnd ?_ (fun hNew => ?_)⟩
  · exact ⟨p0, p1, q0, q1, r0, r1⟩
  clear hHeld
  have hHeld := hNew
  clear hNew
  simp only [Act.put, List.setIfInBounds_toArray, List.set_cons_zero, List.set_cons_succ]
  refine heldTake 9 (some 7) (v := ?_) rfl rfl (by kernel_rfl) (by kernel_rfl) (by kernel_rfl) (by rfl) hHeld (fun _ _ _ h => h) ?_ ?_
  rotate_left
  · intro w' hSw; (try dsimp only at hSw); go_simp <;> with_reducible rfl
  simp only [Act.put, List.setIfInBounds_toArray, List.set_cons_zero, List.set_cons_succ]
  refine heldTake 10 (some 8) (v := ?_) rfl rfl (by kernel_rfl) (by kernel_rfl) (by kernel_rfl) (by rfl) hHeld (fun _ _ _ h => h) ?_ ?_
  rotate_left
  · intro w' hSw; (try dsimp only at hSw); go_simp <;> with_reducible rfl
  simp only [Act.put, List.setIfInBounds_toArray, List.set_cons_zero, List.set_cons_succ]
  refine heldTake 11 (some 9) (v := ?_) rfl rfl (by kernel_rfl) (by kernel_rfl) (by kernel_rfl) (by rfl) hHeld (fun _ _ _ h => h) ?_ ?_
  rotate_left
  · intro w' hSw; (try dsimp only at hSw); go_simp <;> with_reducible rfl
  simp only [Act.put, List.setIfInBounds_toArray, List.set_cons_zero, List.set_cons_succ]
  refine wpAnyH_done (by kernel_rfl) ?_ _
  refine NoPanic.normal ?_
  go_wp2_with fail
  (with_reducible refine (D3.out _).mono ?_)
  rintro e w4 ⟨rfl, hb4⟩
  have hB4 := hB3.trans (hb4.mono hB3.size)
  have p0 := (hb4.cell (p := ⟨w.heap.size, 0, none⟩) zp).trans p0
  have p1 := (hb4.cell (p := ⟨w.heap.size, 1, none⟩) zp).trans p1
  have q0 := (hb4.cell (p := ⟨w.heap.size + 1, 0, none⟩) zq).trans q0
  have q1 := (hb4.cell (p := ⟨w.heap.size + 1, 1, none⟩) zq).trans q1
  have r0 := (hb4.cell (p := ⟨w.heap.size + 2, 0, none⟩) zr).trans r0
  have r1 := (hb4.cell (p := ⟨w.heap.size + 2, 1, none⟩) zr).trans r1
  have zp := Nat.lt_of_lt_of_le zp hb4.size
  have zq := Nat.lt_of_lt_of_le zq hb4.size
  have zr := Nat.lt_of_lt_of_le zr hb4.size
  go_wp2_with fail
  (with_reducible refine (D4.out _).mono ?_)
  rintro e w5 ⟨rfl, hb5⟩
  have hB5 := hB4.trans (hb5.mono hB4.size)
  have p0 := (hb5.cell (p := ⟨w.heap.size, 0, none⟩) zp).trans p0
  have p1 := (hb5.cell (p := ⟨w.heap.size, 1, none⟩) zp).trans p1
  have q0 := (hb5.cell (p := ⟨w.heap.size + 1, 0, none⟩) zq).trans q0
  have q1 := (hb5.cell (p := ⟨w.heap.size + 1, 1, none⟩) zq).trans q1
  have r0 := (hb5.cell (p := ⟨w.heap.size + 2, 0, none⟩) zr).trans r0
  have r1 := (hb5.cell (p := ⟨w.heap.size + 2, 1, none⟩) zr).trans r1
  have zp := Nat.lt_of_lt_of_le zp hb5.size
  have zq := Nat.lt_of_lt_of_le zq hb5.size
  have zr := Nat.lt_of_lt_of_le zr hb5.size
  go_wp2_with fail
  (with_reducible refine (awake_any _ (he.below hB5)).mono ?_)
  rintro e w6 ⟨rfl, hb6⟩
  go_wp2_with fail
  go_ret
  exact ⟨rfl, hB5.trans (hb6.mono hB5.size)⟩

set_option maxRecDepth 100000 in
set_option maxHeartbeats 4000000 in
theorem order_m3 (f t a b c d x y z : Int) (w : World) (he : Env w) (hx : cmpP f t a b = x) (hx' : cmpP a b f t = -x) (hy : cmpP a b c d = y) (hz : cmpP f t c d = z) (bx1 : -1 ≤ x) (bx2 : x ≤ 1) (k1 : (f == a) = true) (k2 : (t == b) = false) (k3 : (x == 0) = false) (g1 : ¬ 0 < x) (g2 : ¬ 0 < y) (g3 : z ≤ 0) :
    Calls Tryd.prog 8 #[.agg #[.int .i64 f, .int .i64 t], .agg #[.int .i64 a, .int .i64 b], .agg #[.int .i64 c, .int .i64 d]] w fun e w' => e = .returned (.bool true) ∧ Below w.heap.size w w' := by
  have C0 := fun w => compare_any f t a b w
  have C1 := fun w => compare_any a b c d w
  have C2 := fun w => compare_any f t c d w
  have C3 := fun w => refCompare_any f t a b w
  have C4 := fun w => compare_any a b f t w
  rw [hx] at C0 C3
  rw [hy] at C1
  rw [hz] at C2
  rw [hx'] at C4
  have D0 := Lib.hid C0
  clear C0
  have D1 := Lib.hid C1
  clear C1
  have D2 := Lib.hid C2
  clear C2
  have D3 := Lib.hid C3
  clear C3
  have D4 := Lib.hid C4
  clear C4
  clear hx hx' hy hz
  go_enter Tryd.func8, Tryd.ntmps8
  go_wp2_with fail
  have hB0 := ((Below.of_alloc (w := w) (.cells #[.int .i64 f, .int .i64 t] 23)).alloc (by simp) (.cells #[.int .i64 a, .int .i64 b] 23)).alloc (by simp; omega) (.cells #[.int .i64 c, .int .i64 d] 23)
  have p0 := ((Below.of_alloc (w := ((w.alloc (.cells #[.int .i64 f, .int .i64 t] 23)).alloc (.cells #[.int .i64 a, .int .i64 b] 23))) (.cells #[.int .i64 c, .int .i64 d] 23)).cell (p := ⟨w.heap.size, 0, none⟩) (by simp; omega)).trans (((Below.of_alloc (w := (w.alloc (.cells #[.int .i64 f, .int .i64 t] 23))) (.cells #[.int .i64 a, .int .i64 b] 23)).cell (p := ⟨w.heap.size, 0, none⟩) (by simp)).trans (box_cell w #[.int .i64 f, .int .i64 t] 23 0 (u := .int .i64 f) rfl))
  have p1 := ((Below.of_alloc (w := ((w.alloc (.cells #[.int .i64 f, .int .i64 t] 23)).alloc (.cells #[.int .i64 a, .int .i64 b] 23))) (.cells #[.int .i64 c, .int .i64 d] 23)).cell (p := ⟨w.heap.size, 1, none⟩) (by simp; omega)).trans (((Below.of_alloc (w := (w.alloc (.cells #[.int .i64 f, .int .i64 t] 23))) (.cells #[.int .i64 a, .int .i64 b] 23)).cell (p := ⟨w.heap.size, 1, none⟩) (by simp)).trans (box_cell w #[.int .i64 f, .int .i64 t] 23 1 (u := .int .i64 t) rfl))
  have q0 := ((Below.of_alloc (w := ((w.alloc (.cells #[.int .i64 f, .int .i64 t] 23)).alloc (.cells #[.int .i64 a, .int .i64 b] 23))) (.cells #[.int .i64 c, .int .i64 d] 23)).cell (p := ⟨w.heap.size + 1, 0, none⟩) (by simp)).trans (box_cell' (w.alloc (.cells #[.int .i64 f, .int .i64 t] 23)) (w.heap.size + 1) (by simp) #[.int .i64 a, .int .i64 b] 23 0 (u := .int .i64 a) rfl)
  have q1 := ((Below.of_alloc (w := ((w.alloc (.cells #[.int .i64 f, .int .i64 t] 23)).alloc (.cells #[.int .i64 a, .int .i64 b] 23))) (.cells #[.int .i64 c, .int .i64 d] 23)).cell (p := ⟨w.heap.size + 1, 1, none⟩) (by simp)).trans (box_cell' (w.alloc (.cells #[.int .i64 f, .int .i64 t] 23)) (w.heap.size + 1) (by simp) #[.int .i64 a, .int .i64 b] 23 1 (u := .int .i64 b) rfl)
  have r0 := box_cell' ((w.alloc (.cells #[.int .i64 f, .int .i64 t] 23)).alloc (.cells #[.int .i64 a, .int .i64 b] 23)) (w.heap.size + 2) (by simp) #[.int .i64 c, .int .i64 d] 23 0 (u := .int .i64 c) rfl
  have r1 := box_cell' ((w.alloc (.cells #[.int .i64 f, .int .i64 t] 23)).alloc (.cells #[.int .i64 a, .int .i64 b] 23)) (w.heap.size + 2) (by simp) #[.int .i64 c, .int .i64 d] 23 1 (u := .int .i64 d) rfl
  have zr : w.heap.size + 2 < (((w.alloc (.cells #[.int .i64 f, .int .i64 t] 23)).alloc (.cells #[.int .i64 a, .int .i64 b] 23)).alloc (.cells #[.int .i64 c, .int .i64 d] 23)).heap.size := by simp
  generalize (((w.alloc (.cells #[.int .i64 f, .int .i64 t] 23)).alloc (.cells #[.int .i64 a, .int .i64 b] 23)).alloc (.cells #[.int .i64 c, .int .i64 d] 23)) = w0 at *
  have zq : w.heap.size + 1 < w0.heap.size := by omega
  have zp : w.heap.size < w0.heap.size := by omega
  refine wp_region_noPanic ?_
  refine wp_region_held_drew (S := (fun w' => w'.cell? ⟨w.heap.size, 0, none⟩ = some (.int .i64 f) ∧ w'.cell? ⟨w.heap.size, 1, none⟩ = some (.int .i64 t) ∧ w'.cell? ⟨w.heap.size + 1, 0, none⟩ = some (.int .i64 a) ∧ w'.cell? ⟨w.heap.size + 1, 1, none⟩ = some (.int .i64 b) ∧ w'.cell? ⟨w.heap.size + 2, 0, none⟩ = some (.int .i64 c) ∧ w'.cell? ⟨w.heap.size + 2, 1, none⟩ = some (.int .i64 d))) (by kernel_rfl) ?_ (fun hHeld => ?_)
  · exact ⟨p0, p1, q0, q1, r0, r1⟩
  refine heldTake 0 (some 10) (v := ?_) rfl rfl (by kernel_rfl) (by kernel_rfl) (by kernel_rfl) (by rfl) hHeld (fun _ _ _ h => h) ?_ ?_
  rotate_left
  · intro w' hSw; (try dsimp only at hSw); go_simp <;> with_reducible rfl
  simp only [Act.put, List.setIfInBounds_toArray, List.set_cons_zero, List.set_cons_succ]
  refine heldTake 1 (some 11) (v := ?_) rfl rfl (by kernel_rfl) (by kernel_rfl) (by kernel_rfl) (by rfl) hHeld (fun _ _ _ h => h) ?_ ?_
  rotate_left
  · intro w' hSw; (try dsimp only at hSw); go_simp <;> with_reducible rfl
  simp only [Act.put, List.setIfInBounds_toArray, List.set_cons_zero, List.set_cons_succ]
  refine heldTake 3 (some 13) (v := ?_) rfl rfl (by kernel_rfl) (by kernel_rfl) (by kernel_rfl) (by rfl) hHeld (fun _ _ _ h => h) ?_ ?_
  rotate_left
  · intro w' hSw; (try dsimp only at hSw); go_simp <;> with_reducible rfl
  simp only [Act.put, List.setIfInBounds_toArray, List.set_cons_zero, List.set_cons_succ]
  refine heldTake 4 (some 14) (v := ?_) rfl rfl (by kernel_rfl) (by kernel_rfl) (by kernel_rfl) (by rfl) hHeld (fun _ _ _ h => h) ?_ ?_
  rotate_left
  · intro w' hSw; (try dsimp only at hSw); go_simp <;> with_reducible rfl
  simp only [Act.put, List.setIfInBounds_toArray, List.set_cons_zero, List.set_cons_succ]
  refine heldTake 6 (some 16) (v := ?_) rfl rfl (by kernel_rfl) (by kernel_rfl) (by kernel_rfl) (by rfl) hHeld (fun _ _ _ h => h) ?_ ?_
  rotate_left
  · intro w' hSw; (try dsimp only at hSw); go_simp <;> with_reducible rfl
  simp only [Act.put, List.setIfInBounds_toArray, List.set_cons_zero, List.set_cons_succ]
  refine heldTake 7 (some 17) (v := ?_) rfl rfl (by kernel_rfl) (by kernel_rfl) (by kernel_rfl) (by rfl) hHeld (fun _ _ _ h => h) ?_ ?_
  rotate_left
  · intro w' hSw; (try dsimp only at hSw); go_simp <;> with_reducible rfl
  simp only [Act.put, List.setIfInBounds_toArray, List.set_cons_zero, List.set_cons_succ]
  refine heldCall 2 (some 12) (f := ?_) (args := ?_) rfl rfl (by kernel_rfl) (by rfl) ?_ ?_
  rotate_left 2
  · go_simp <;> first | (constructor <;> with_reducible rfl) | with_reducible rfl
  (with_reducible refine (D0.out _).mono ?_)
  rintro e w1 ⟨rfl, hb1⟩
  have hB1 := hB0.drew.trans (hb1.mono hB0.drew.size)
  have p0 := (hb1.cell (p := ⟨w.heap.size, 0, none⟩) zp).trans p0
  have p1 := (hb1.cell (p := ⟨w.heap.size, 1, none⟩) zp).trans p1
  have q0 := (hb1.cell (p := ⟨w.heap.size + 1, 0, none⟩) zq).trans q0
  have q1 := (hb1.cell (p := ⟨w.heap.size + 1, 1, none⟩) zq).trans q1
  have r0 := (hb1.cell (p := ⟨w.heap.size + 2, 0, none⟩) zr).trans r0
  have r1 := (hb1.cell (p := ⟨w.heap.size + 2, 1, none⟩) zr).trans r1
  have zp := Nat.lt_of_lt_of_le zp hb1.size
  have zq := Nat.lt_of_lt_of_le zq hb1.size
  have zr := Nat.lt_of_lt_of_le zr hb1.size
  refine ⟨_, rfl, keepAnd ?_ (fun hNew => ?_)⟩
  · exact ⟨p0, p1, q0, q1, r0, r1⟩
  clear hHeld
  have hHeld := hNew
  clear hNew
  simp only [Act.put, List.setIfInBounds_toArray, List.set_cons_zero, List.set_cons_succ]
  refine heldCall 5 (some 15) (f := ?_) (args := ?_) rfl rfl (by kernel_rfl) (by rfl) ?_ ?_
  rotate_left 2
  · go_simp <;> first | (constructor <;> with_reducible rfl) | with_reducible rfl
  (with_reducible refine (D1.out _).mono ?_)
  rintro e w2 ⟨rfl, hb2⟩
  have hB2 := hB1.trans (hb2.mono hB1.size)
  have p0 := (hb2.cell (p := ⟨w.heap.size, 0, none⟩) zp).trans p0
  have p1 := (hb2.cell (p := ⟨w.heap.size, 1, none⟩) zp).trans p1
  have q0 := (hb2.cell (p := ⟨w.heap.size + 1, 0, none⟩) zq).trans q0
  have q1 := (hb2.cell (p := ⟨w.heap.size + 1, 1, none⟩) zq).trans q1
  have r0 := (hb2.cell (p := ⟨w.heap.size + 2, 0, none⟩) zr).trans r0
  have r1 := (hb2.cell (p := ⟨w.heap.size + 2, 1, none⟩) zr).trans r1
  have zp := Nat.lt_of_lt_of_le zp hb2.size
  have zq := Nat.lt_of_lt_of_le zq hb2.size
  have zr := Nat.lt_of_lt_of_le zr hb2.size
  refine ⟨_, rfl, keepAnd ?_ (fun hNew => ?_)⟩
  · exact ⟨p0, p1, q0, q1, r0, r1⟩
  clear hHeld
  have hHeld := hNew
  clear hNew
  simp only [Act.put, List.setIfInBounds_toArray, List.set_cons_zero, List.set_cons_succ]
  refine heldCall 8 (some 18) (f := ?_) (args := ?_) rfl rfl (by kernel_rfl) (by rfl) ?_ ?_
  rotate_left 2
  · go_simp <;> first | (constructor <;> with_reducible rfl) | with_reducible rfl
  (with_reducible refine (D2.out _).mono ?_)
  rintro e w3 ⟨rfl, hb3⟩
  have hB3 := hB2.trans (hb3.mono hB2.size)
  have p0 := (hb3.cell (p := ⟨w.heap.size, 0, none⟩) zp).trans p0
  have p1 := (hb3.cell (p := ⟨w.heap.size, 1, none⟩) zp).trans p1
  have q0 := (hb3.cell (p := ⟨w.heap.size + 1, 0, none⟩) zq).trans q0
  have q1 := (hb3.cell (p := ⟨w.heap.size + 1, 1, none⟩) zq).trans q1
  have r0 := (hb3.cell (p := ⟨w.heap.size + 2, 0, none⟩) zr).trans r0
  have r1 := (hb3.cell (p := ⟨w.heap.size + 2, 1, none⟩) zr).trans r1
  have zp := Nat.lt_of_lt_of_le zp hb3.size
  have zq := Nat.lt_of_lt_of_le zq hb3.size
  have zr := Nat.lt_of_lt_of_le zr hb3.size
  refine ⟨_, rfl, keepAnd ?_ (fun hNew => ?_)⟩
  · exact ⟨p0, p1, q0, q1, r0, r1⟩
  clear hHeld
  have hHeld := hNew
  clear hNew
  simp only [Act.put, List.setIfInBounds_toArray, List.set_cons_zero, List.set_cons_succ]
  refine heldTake 9 (some 7) (v := ?_) rfl rfl (by kernel_rfl) (by kernel_rfl) (by kernel_rfl) (by rfl) hHeld (fun _ _ _ h => h) ?_ ?_
  rotate_left
  · intro w' hSw; (try dsimp only at hSw); go_simp <;> with_reducible rfl
  simp only [Act.put, List.setIfInBounds_toArray, List.set_cons_zero, List.set_cons_succ]
  refine heldTake 10 (some 8) (v := ?_) rfl rfl (by kernel_rfl) (by kernel_rfl) (by kernel_rfl) (by rfl) hHeld (fun _ _ _ h => h) ?_ ?_
  rotate_left
  · intro w' hSw; (try dsimp only at hSw); go_simp <;> with_reducible rfl
  simp only [Act.put, List.setIfInBounds_toArray, List.set_cons_zero, List.set_cons_succ]
  refine heldTake 11 (some 9) (v := ?_) rfl rfl (by kernel_rfl) (by kernel_rfl) (by kernel_rfl) (by rfl) hHeld (fun _ _ _ h => h) ?_ ?_
  rotate_left
  · intro w' hSw; (try dsimp only at hSw); go_simp <;> with_reducible rfl
  simp only [Act.put, List.setIfInBounds_toArray, List.set_cons_zero, List.set_cons_succ]
  refine wpAnyH_done (by kernel_rfl) ?_ _
  refine NoPanic.normal ?_
  go_wp2_with fail
  (with_reducible refine (D3.out _).mono ?_)
  rintro e w4 ⟨rfl, hb4⟩
  have hB4 := hB3.trans (hb4.mono hB3.size)
  have p0 := (hb4.cell (p := ⟨w.heap.size, 0, none⟩) zp).trans p0
  have p1 := (hb4.cell (p := ⟨w.heap.size, 1, none⟩) zp).trans p1
  have q0 := (hb4.cell (p := ⟨w.heap.size + 1, 0, none⟩) zq).trans q0
  have q1 := (hb4.cell (p := ⟨w.heap.size + 1, 1, none⟩) zq).trans q1
  have r0 := (hb4.cell (p := ⟨w.heap.size + 2, 0, none⟩) zr).trans r0
  have r1 := (hb4.cell (p := ⟨w.heap.size + 2, 1, none⟩) zr).trans r1
  have zp := Nat.lt_of_lt_of_le zp hb4.size
  have zq := Nat.lt_of_lt_of_le zq hb4.size
  have zr := Nat.lt_of_lt_of_le zr hb4.size
  go_wp2_with fail
  (with_reducible refine (D4.out _).mono ?_)
  rintro e w5 ⟨rfl, hb5⟩
  have hB5 := hB4.trans (hb5.mono hB4.size)
  have p0 := (hb5.cell (p := ⟨w.heap.size, 0, none⟩) zp).trans p0
  have p1 := (hb5.cell (p := ⟨w.heap.size, 1, none⟩) zp).trans p1
  have q0 := (hb5.cell (p := ⟨w.heap.size + 1, 0, none⟩) zq).trans q0
  have q1 := (hb5.cell (p := ⟨w.heap.size + 1, 1, none⟩) zq).trans q1
  have r0 := (hb5.cell (p := ⟨w.heap.size + 2, 0, none⟩) zr).trans r0
  have r1 := (hb5.cell (p := ⟨w.heap.size + 2, 1, none⟩) zr).trans r1
  have zp := Nat.lt_of_lt_of_le zp hb5.size
  have zq := Nat.lt_of_lt_of_le zq hb5.size
  have zr := Nat.lt_of_lt_of_le zr hb5.size
  go_wp2_with fail
  (with_reducible refine (awake_any _ (he.below hB5)).mono ?_)
  rintro e w6 ⟨rfl, hb6⟩
  go_wp2_with fail
  go_ret
  exact ⟨rfl, hB5.trans (hb6.mono hB5.size)⟩

theorem lawOrder_any (f t a b c d : Int) (w : World) (he : Env w) :
    Calls Tryd.prog 8 #[.agg #[.int .i64 f, .int .i64 t], .agg #[.int .i64 a, .int .i64 b], .agg #[.int .i64 c, .int .i64 d]] w fun e w' => e = .returned (.bool true) ∧ Below w.heap.size w w' := by
  have hx' := cmp_neg f t a b
  have hb := cmp_bd f t a b
  have h0 := cmp_zero f t a b
  have ht := cmp_trans f t a b c d
  have hy : cmpP a b c d = cmpP a b c d := rfl
  have hz : cmpP f t c d = cmpP f t c d := rfl
  have hx : cmpP f t a b = cmpP f t a b := rfl
  by_cases he0 : f = a ∧ t = b
  · have k1 : (f == a) = true := by simpa using he0.1
    have k2 : (t == b) = true := by simpa using he0.2
    have k3 : (cmpP f t a b == 0) = true := by simpa using h0.2 he0
    have k4 : ¬ 0 < cmpP f t a b := by have := h0.2 he0; omega
    by_cases g2 : 0 < cmpP a b c d
    · exact order_e2 f t a b c d _ _ _ w he hx hx' hy hz hb.1 hb.2 k1 k2 k3 k4 g2
    · exact order_e3 f t a b c d _ _ _ w he hx hx' hy hz hb.1 hb.2 k1 k2 k3 k4 g2 (ht k4 g2)
  · have k3 : (cmpP f t a b == 0) = false := by rw [beq_eq_false_iff_ne]; exact fun h => he0 (h0.1 h)
    by_cases hf : f = a
    · have k1 : (f == a) = true := by simpa using hf
      have k2 : (t == b) = false := by rw [beq_eq_false_iff_ne]; exact fun h => he0 ⟨hf, h⟩
      by_cases g1 : 0 < cmpP f t a b
      · exact order_m1 f t a b c d _ _ _ w he hx hx' hy hz hb.1 hb.2 k1 k2 k3 g1
      · by_cases g2 : 0 < cmpP a b c d
        · exact order_m2 f t a b c d _ _ _ w he hx hx' hy hz hb.1 hb.2 k1 k2 k3 g1 g2
        · exact order_m3 f t a b c d _ _ _ w he hx hx' hy hz hb.1 hb.2 k1 k2 k3 g1 g2 (ht g1 g2)
    · have k1 : (f == a) = false := by rw [beq_eq_false_iff_ne]; exact hf
      by_cases g1 : 0 < cmpP f t a b
      · exact order_n1 f t a b c d _ _ _ w he hx hx' hy hz hb.1 hb.2 k1 k3 g1
      · by_cases g2 : 0 < cmpP a b c d
        · exact order_n2 f t a b c d _ _ _ w he hx hx' hy hz hb.1 hb.2 k1 k3 g1 g2
        · exact order_n3 f t a b c d _ _ _ w he hx hx' hy hz hb.1 hb.2 k1 k3 g1 g2 (ht g1 g2)
end Go.Proofs.YtipngnejiddkdaaDoor
