/-
  The law about what is found.
-/
import Derived.Test.YtkocehfapcmiiaaTreeW
namespace Go.Proofs.Ytkocehfapcmiiaa
open Go.RowKit Go.Lib Go.IntWalk

set_option maxRecDepth 100000 in
set_option maxHeartbeats 8000000 in
theorem lawFinds_any (v : Value) (l : List Oq) (n p q : Int) (w : World) (hl : Rd w (· < w.heap.size) 4 v l.length (ocv l)) : Calls Try.prog 4 #[v, .int .i64 n, perV p q] w fun e w' => e = .returned (.bool true) ∧ Below w.heap.size w w' := by
  obtain ⟨Av, cv, rfl, x1, x2, x3⟩ := hl.open_
  have HX3 := Lib.hid x3
  unfold maxLen at x2
  clear x3
  obtain ⟨W, hW⟩ : ∃ W, W = w.alloc (.cells #[.int .i64 p, .int .i64 q] 28) := ⟨_, rfl⟩
  have hbW : Below w.heap.size w W := by rw [hW]; exact Below.of_alloc _
  have hsW : W.heap.size = w.heap.size + 1 := by rw [hW]; simp
  have hPW : W.heap[w.heap.size]? = some (.cells #[.int .i64 p, .int .i64 q] 28 (0, 0)) := by rw [hW]; exact heap_alloc_new w _
  have p0 : W.cell? ⟨w.heap.size, 0, none⟩ = some (.int .i64 p) := cell_of_row _ _ 0 _ _ _ hPW
  have p1 : W.cell? ⟨w.heap.size, 1, none⟩ = some (.int .i64 q) := cell_of_row _ _ 1 _ _ _ hPW
  have HW := Lib.hid hW
  have HBW := Lib.hid hbW
  have hlW : Rd W (· < W.heap.size) 4 (.slice Av l.length cv) l.length (ocv l) := (hl.keep (w' := W) (fun b hb => hbW.block b hb)).wide (fun b hb => by have : b < w.heap.size := hb; show b < W.heap.size; omega)
  have CW := Lib.hid (works_any W)
  clear hW hPW hbW hl
  by_cases hbig : 150 < l.length
  · clear p0 p1
    go_enter Try.func4, Try.ntmps4
    go_wp2_with fail
    rw [← HW.out]
    (with_reducible refine CW.out.mono ?_)
    rintro e2 w2 ⟨rfl, hb2⟩
    go_wp2_with fail
    go_ret
    exact ⟨rfl, HBW.out.trans (hb2.mono (by omega))⟩
  clear CW
  have CM := Lib.hid (made_any (.slice Av l.length cv) l W hlW (by omega))
  clear hlW
  generalize hX : w.heap.size = X at *
  have HX := Lib.hid hX
  clear hX
  have hXB : X < W.heap.size := by omega
  clear hsW
  go_enter Try.func4, Try.ntmps4
  go_wp2_with fail
  rw [← HW.out, HX.out]
  (with_reducible refine CM.out.mono ?_)
  rintro e1 wr ⟨A0, k0, L, rfl, H0, h01, h02, hL0, hvl, hBo⟩
  clear CM
  obtain ⟨t, hti, hm, hd⟩ := hBo
  have hXr : X < wr.heap.size := by have := hm.2.2.2; omega
  have q0 := (hm.2.2.1.cell (p := ⟨X, 0, none⟩) (show X < W.heap.size by omega)).trans p0
  have q1 := (hm.2.2.1.cell (p := ⟨X, 1, none⟩) (show X < W.heap.size by omega)).trans p1
  have HM := Lib.hid hm
  have HI := Lib.hid hti
  have HD := Lib.hid hd
  obtain ⟨R1, hR1⟩ : ∃ R, ovlF n (n + 1) L = R := ⟨_, rfl⟩
  obtain ⟨R2, hR2⟩ : ∃ R, ovlF p q L = R := ⟨_, rfl⟩
  have HR1 := Lib.hid hR1
  have HR2 := Lib.hid hR2
  have RS := Lib.hid (fun (w' : World) (hb : Below wr.heap.size wr w') => show Calls Try.prog 17 #[.slice A0 L.length k0, .int .i64 n] w' (IntsM R1 w') from by
    have := rstab_any W.heap.size (.slice A0 L.length k0) L n w' (Nat.le_trans hm.2.2.2 hb.size) (hd.below hm.2.2.2 hb) (by omega)
    rw [stab_eq hvl.out, hR1] at this
    exact this)
  have RO := Lib.hid (fun (w' : World) (hb : Below wr.heap.size wr w') => show Calls Try.prog 18 #[.slice A0 L.length k0, perV p q] w' (IntsM R2 w') from by
    have := rovl_any W.heap.size (.slice A0 L.length k0) L p q w' (Nat.le_trans hm.2.2.2 hb.size) (hd.below hm.2.2.2 hb) (by omega)
    rw [hR2] at this
    exact this)
  clear hR1 hR2 hm hti hd p0 p1
  go_wp2_with fail
  refine wp_region_noPanic ?_
  refine wp_region_held_drew (S := (fun w' => Below wr.heap.size wr w')) (by kernel_rfl) ?_ (fun hHeld => ?_)
  · exact (Below.refl _ _).drew
  refine heldTake 0 (some 18) (v := ?_) rfl rfl (by kernel_rfl) (by kernel_rfl) (by kernel_rfl) (by rfl) hHeld (fun _ _ _ h => h) ?_ ?_
  rotate_left
  · intro w' hSw; (try dsimp only at hSw); go_simp <;> with_reducible rfl
  simp only [Act.put, List.setIfInBounds_toArray, List.set_cons_zero, List.set_cons_succ]
  refine heldTake 1 (some 19) (v := ?_) rfl rfl (by kernel_rfl) (by kernel_rfl) (by kernel_rfl) (by rfl) hHeld (fun _ _ _ h => h) ?_ ?_
  rotate_left
  · intro w' hSw; (try dsimp only at hSw); go_simp <;> with_reducible rfl
  simp only [Act.put, List.setIfInBounds_toArray, List.set_cons_zero, List.set_cons_succ]
  refine heldTake 3 (some 21) (v := ?_) rfl rfl (by kernel_rfl) (by kernel_rfl) (by kernel_rfl) (by rfl) hHeld (fun _ _ _ h => h) ?_ ?_
  rotate_left
  · intro w' hSw; (try dsimp only at hSw); go_simp <;> with_reducible rfl
  simp only [Act.put, List.setIfInBounds_toArray, List.set_cons_zero, List.set_cons_succ]
  refine heldTake 4 (some 22) (v := ?_) rfl rfl (by kernel_rfl) (by kernel_rfl) (by kernel_rfl) (by rfl) hHeld (fun _ _ _ h => h) ?_ ?_
  rotate_left
  · intro w' hSw; (try dsimp only at hSw); go_simp <;> with_reducible rfl
  simp only [Act.put, List.setIfInBounds_toArray, List.set_cons_zero, List.set_cons_succ]
  refine heldCall 2 (some 20) (f := ?_) (args := ?_) rfl rfl (by kernel_rfl) (by rfl) ?_ ?_
  rotate_left 2
  · go_simp <;> first | (constructor <;> with_reducible rfl) | with_reducible rfl
  (with_reducible refine (tstab_m n L R1 HM.out.drew HI.out (by omega) HR1.out).mono ?_)
  rintro e W1 ⟨A1, k1, rfl, H1, h11, h12, hO1, hb1⟩
  have hB1 : Below wr.heap.size wr W1 := Below.undrew hb1
  refine ⟨_, rfl, keepAnd ?_ (fun hNew => ?_)⟩
  · exact hB1
  clear hHeld
  have hHeld := hNew
  clear hNew
  simp only [Act.put, List.setIfInBounds_toArray, List.set_cons_zero, List.set_cons_succ]
  refine heldCall 5 (some 23) (f := ?_) (args := ?_) rfl rfl (by kernel_rfl) (by rfl) ?_ ?_
  rotate_left 2
  · go_simp <;> first | (constructor <;> with_reducible rfl) | with_reducible rfl
  (with_reducible refine (RS.out W1 hB1).mono ?_)
  rintro e W2 ⟨A2, k2, rfl, H2, h21, h22, hO2, hb2⟩
  have hB2 : Below wr.heap.size wr W2 := hB1.trans (hb2.mono hB1.size)
  refine ⟨_, rfl, keepAnd ?_ (fun hNew => ?_)⟩
  · exact hB2
  clear hHeld
  have hHeld := hNew
  clear hNew
  simp only [Act.put, List.setIfInBounds_toArray, List.set_cons_zero, List.set_cons_succ]
  refine heldCall 6 (some 24) (f := ?_) (args := ?_) rfl rfl (by kernel_rfl) (by rfl) ?_ ?_
  rotate_left 2
  · go_simp <;> first | (constructor <;> with_reducible rfl) | with_reducible rfl
  (with_reducible refine (ints_own (va := .slice A1 R1.length k1) (vb := .slice A2 R1.length k2) R1 R1 true (hO1.below hb2) hO2 (decide_eq_true rfl)).mono ?_)
  rintro e W3 ⟨rfl, hb3⟩
  have hB3 : Below wr.heap.size wr W3 := hB2.trans (hb3.mono hB2.size)
  refine ⟨_, rfl, keepAnd ?_ (fun hNew => ?_)⟩
  · exact hB3
  clear hHeld
  have hHeld := hNew
  clear hNew
  simp only [Act.put, List.setIfInBounds_toArray, List.set_cons_zero, List.set_cons_succ]
  refine heldTake 7 (some 25) (v := ?_) rfl rfl (by kernel_rfl) (by kernel_rfl) (by kernel_rfl) (by rfl) hHeld (fun _ _ _ h => h) ?_ ?_
  rotate_left
  · intro w' hSw; (try dsimp only at hSw); go_simp <;> with_reducible rfl
  simp only [Act.put, List.setIfInBounds_toArray, List.set_cons_zero, List.set_cons_succ]
  refine heldTake 8 (some 26) (v := ?_) rfl rfl (by kernel_rfl) (by kernel_rfl) (by kernel_rfl) (by rfl) hHeld (fun _ _ _ h => h) ?_ ?_
  rotate_left
  · intro w' hSw; (try dsimp only at hSw); go_simp <;> with_reducible rfl
  simp only [Act.put, List.setIfInBounds_toArray, List.set_cons_zero, List.set_cons_succ]
  refine heldTake 9 (some 27) (v := ?_) rfl rfl (by kernel_rfl) (by kernel_rfl) (by kernel_rfl) (by rfl) hHeld (fun _ _ _ h => h) ?_ ?_
  rotate_left
  · intro w' hSw; (try dsimp only at hSw); have q0 := (hSw.cell (p := ⟨X, 0, none⟩) (show X < wr.heap.size by omega)).trans q0; have q1 := (hSw.cell (p := ⟨X, 1, none⟩) (show X < wr.heap.size by omega)).trans q1; go_simp <;> with_reducible rfl
  simp only [Act.put, List.setIfInBounds_toArray, List.set_cons_zero, List.set_cons_succ]
  refine heldTake 11 (some 29) (v := ?_) rfl rfl (by kernel_rfl) (by kernel_rfl) (by kernel_rfl) (by rfl) hHeld (fun _ _ _ h => h) ?_ ?_
  rotate_left
  · intro w' hSw; (try dsimp only at hSw); go_simp <;> with_reducible rfl
  simp only [Act.put, List.setIfInBounds_toArray, List.set_cons_zero, List.set_cons_succ]
  refine heldTake 12 (some 30) (v := ?_) rfl rfl (by kernel_rfl) (by kernel_rfl) (by kernel_rfl) (by rfl) hHeld (fun _ _ _ h => h) ?_ ?_
  rotate_left
  · intro w' hSw; (try dsimp only at hSw); have q0 := (hSw.cell (p := ⟨X, 0, none⟩) (show X < wr.heap.size by omega)).trans q0; have q1 := (hSw.cell (p := ⟨X, 1, none⟩) (show X < wr.heap.size by omega)).trans q1; go_simp <;> with_reducible rfl
  simp only [Act.put, List.setIfInBounds_toArray, List.set_cons_zero, List.set_cons_succ]
  refine heldCall 10 (some 28) (f := ?_) (args := ?_) rfl rfl (by kernel_rfl) (by rfl) ?_ ?_
  rotate_left 2
  · go_simp <;> first | (constructor <;> with_reducible rfl) | with_reducible rfl
  (with_reducible refine (tovl_m p q L R2 (HM.out.below hB3) HI.out (by omega) HR2.out).mono ?_)
  rintro e W4 ⟨A4, k4, rfl, H4, h41, h42, hO4, hb4⟩
  have hB4 : Below wr.heap.size wr W4 := hB3.trans (hb4.mono hB3.size)
  refine ⟨_, rfl, keepAnd ?_ (fun hNew => ?_)⟩
  · exact hB4
  clear hHeld
  have hHeld := hNew
  clear hNew
  simp only [Act.put, List.setIfInBounds_toArray, List.set_cons_zero, List.set_cons_succ]
  refine heldCall 13 (some 31) (f := ?_) (args := ?_) rfl rfl (by kernel_rfl) (by rfl) ?_ ?_
  rotate_left 2
  · go_simp <;> first | (constructor <;> with_reducible rfl) | with_reducible rfl
  (with_reducible refine (RO.out W4 hB4).mono ?_)
  rintro e W5 ⟨A5, k5, rfl, H5, h51, h52, hO5, hb5⟩
  have hB5 : Below wr.heap.size wr W5 := hB4.trans (hb5.mono hB4.size)
  refine ⟨_, rfl, keepAnd ?_ (fun hNew => ?_)⟩
  · exact hB5
  clear hHeld
  have hHeld := hNew
  clear hNew
  simp only [Act.put, List.setIfInBounds_toArray, List.set_cons_zero, List.set_cons_succ]
  refine heldCall 14 (some 32) (f := ?_) (args := ?_) rfl rfl (by kernel_rfl) (by rfl) ?_ ?_
  rotate_left 2
  · go_simp <;> first | (constructor <;> with_reducible rfl) | with_reducible rfl
  (with_reducible refine (ints_own (va := .slice A4 R2.length k4) (vb := .slice A5 R2.length k5) R2 R2 true (hO4.below hb5) hO5 (decide_eq_true rfl)).mono ?_)
  rintro e W6 ⟨rfl, hb6⟩
  have hB6 : Below wr.heap.size wr W6 := hB5.trans (hb6.mono hB5.size)
  refine ⟨_, rfl, keepAnd ?_ (fun hNew => ?_)⟩
  · exact hB6
  clear hHeld
  have hHeld := hNew
  clear hNew
  simp only [Act.put, List.setIfInBounds_toArray, List.set_cons_zero, List.set_cons_succ]
  refine heldTake 15 (some 33) (v := ?_) rfl rfl (by kernel_rfl) (by kernel_rfl) (by kernel_rfl) (by rfl) hHeld (fun _ _ _ h => h) ?_ ?_
  rotate_left
  · intro w' hSw; (try dsimp only at hSw); go_simp <;> with_reducible rfl
  simp only [Act.put, List.setIfInBounds_toArray, List.set_cons_zero, List.set_cons_succ]
  refine heldTake 16 (some 34) (v := ?_) rfl rfl (by kernel_rfl) (by kernel_rfl) (by kernel_rfl) (by rfl) hHeld (fun _ _ _ h => h) ?_ ?_
  rotate_left
  · intro w' hSw; (try dsimp only at hSw); go_simp <;> with_reducible rfl
  simp only [Act.put, List.setIfInBounds_toArray, List.set_cons_zero, List.set_cons_succ]
  refine heldCall 17 (some 35) (f := ?_) (args := ?_) rfl rfl (by kernel_rfl) (by rfl) ?_ ?_
  rotate_left 2
  · go_simp <;> first | (constructor <;> with_reducible rfl) | with_reducible rfl
  (with_reducible refine (works_any W6).mono ?_)
  rintro e W7 ⟨rfl, hb7⟩
  have hB7 : Below wr.heap.size wr W7 := hB6.trans (hb7.mono hB6.size)
  refine ⟨_, rfl, keepAnd ?_ (fun hNew => ?_)⟩
  · exact hB7
  clear hHeld
  have hHeld := hNew
  clear hNew
  simp only [Act.put, List.setIfInBounds_toArray, List.set_cons_zero, List.set_cons_succ]
  refine heldTake 18 (some 36) (v := ?_) rfl rfl (by kernel_rfl) (by kernel_rfl) (by kernel_rfl) (by rfl) hHeld (fun _ _ _ h => h) ?_ ?_
  rotate_left
  · intro w' hSw; (try dsimp only at hSw); go_simp <;> with_reducible rfl
  simp only [Act.put, List.setIfInBounds_toArray, List.set_cons_zero, List.set_cons_succ]
  refine heldTake 19 (some 6) (v := ?_) rfl rfl (by kernel_rfl) (by kernel_rfl) (by kernel_rfl) (by rfl) hHeld (fun _ _ _ h => h) ?_ ?_
  rotate_left
  · intro w' hSw; (try dsimp only at hSw); go_simp <;> with_reducible rfl
  simp only [Act.put, List.setIfInBounds_toArray, List.set_cons_zero, List.set_cons_succ]
  refine wpAnyH_done (by kernel_rfl) ?_ _
  refine NoPanic.normal ?_
  go_wp2_with fail
  go_ret
  have hf := HM.out.2.2.1.trans (hB7.mono HM.out.2.2.2)
  exact ⟨rfl, HBW.out.trans (hf.mono (by omega))⟩
end Go.Proofs.Ytkocehfapcmiiaa
