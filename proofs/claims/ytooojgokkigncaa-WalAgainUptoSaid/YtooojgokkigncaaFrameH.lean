/-
  Frames: a frame of no bytes at the very end.
-/
import Derived.Test.YtooojgokkigncaaFrameG
namespace Go.Proofs.Ytooojgokkigncaa
open Go.RowKit Go.Lib Go.IntWalk

set_option maxRecDepth 100000 in
set_option maxHeartbeats 2000000 in
theorem next_lastbad (b off c k : Nat) (l : List UInt8) (w : World) (hl : l.length = c) (hck : c = k + 8) (hv : RdB w (· < w.heap.size) (.slice (some ⟨b, off, none⟩) l.length c) l) (hcm : c ≤ maxLen) (hn : num4L l k = 0) (s4 cs : Nat) (hs : num4L l (k + 4) = s4) (hc : crcSum ((l.drop k).take 4) [] = cs) (hne : ¬ s4 = cs) :
    Calls Try.prog 66 #[.slice (some ⟨b, off, none⟩) l.length c, .int .i64 (k : Int)] w (Fr3 ([], 0, 4) w) := by
  obtain ⟨b', off', e, hF, hcell⟩ := bytes_at hv (by omega)
  simp only [Option.some.injEq, Addr.mk.injEq, and_true] at e
  obtain ⟨rfl, rfl⟩ := e
  have hG := Lib.hid (fun W (hW : Below w.heap.size w W) => get4_any b (off + k) 8 8 (l.getD k 0) (l.getD (k + 1) 0) (l.getD (k + 2) 0) (l.getD (k + 3) 0) W (by omega)
    ((hW.cell (p := ⟨b, off + k, none⟩) hF).trans (hcell k (by omega))) ((hW.cell (p := ⟨b, off + k + 1, none⟩) hF).trans (hcell (k + 1) (by omega))) ((hW.cell (p := ⟨b, off + k + 2, none⟩) hF).trans (hcell (k + 2) (by omega))) ((hW.cell (p := ⟨b, off + k + 3, none⟩) hF).trans (hcell (k + 3) (by omega))))
  rw [show num4 (l.getD k 0) (l.getD (k + 1) 0) (l.getD (k + 2) 0) (l.getD (k + 3) 0) = 0 from hn, show ((0 : Nat) : Int) = 0 from rfl] at hG
  have hG2 := Lib.hid (fun W (hW : Below w.heap.size w W) => get4_any b (off + k + 4) 4 4 (l.getD (k + 4) 0) (l.getD (k + 4 + 1) 0) (l.getD (k + 4 + 2) 0) (l.getD (k + 4 + 3) 0) W (by omega)
    ((hW.cell (p := ⟨b, off + k + 4, none⟩) hF).trans (hcell (k + 4) (by omega))) ((hW.cell (p := ⟨b, off + k + 4 + 1, none⟩) hF).trans (hcell (k + 4 + 1) (by omega))) ((hW.cell (p := ⟨b, off + k + 4 + 2, none⟩) hF).trans (hcell (k + 4 + 2) (by omega))) ((hW.cell (p := ⟨b, off + k + 4 + 3, none⟩) hF).trans (hcell (k + 4 + 3) (by omega))))
  rw [show num4 (l.getD (k + 4) 0) (l.getD (k + 4 + 1) 0) (l.getD (k + 4 + 2) 0) (l.getD (k + 4 + 3) 0) = s4 from hs] at hG2
  have hsl := sl_lo b off c c k (by omega) (by omega)
  rw [show c - k = 8 from by omega] at hsl
  have hr4 : RdB w (· < w.heap.size) (.slice (some ⟨b, off + k, none⟩) 4 8) ((l.drop k).take 4) := hv.sub (o := k) (k := 4) (c' := 8) (by omega) (by omega) (by omega) (by omega)
  have hsum := Lib.hid (fun W (hW : Below w.heap.size w W) => sum_any (· < w.heap.size) (· < w.heap.size) _ _ _ _ W (Rd.below hr4 hW) (rd_empty W (· < w.heap.size) ⟨b, off + k, none⟩ 0 (Nat.zero_le _)))
  rw [hc] at hsum
  have q0 : ¬ (k : Int) < 0 := by omega
  have hw8 : IntKind.i64.wrap 8 = 8 := by decide
  have hs3 : ∀ W : World, (Instr.slice 23 (.slice (some ⟨b, off + k, none⟩) 8 8) (some (.int .i64 8)) (some (.int .i64 8)) none).run Try.prog W = .ok (.slice (some ⟨b, off + k, none⟩) 0 0) W := fun W => sl_lohi b (off + k) 8 8 8 8 (by omega) (by omega) W
  have q1 : ¬ (c : Int) < (k : Int) := by omega
  have q7 : IntKind.i64.wrap ((k : Int) + 8) = (k : Int) + 8 := IntWalk.i64_in _ (by unfold maxLen at hcm; omega)
  rw [hl]
  clear hs hc hn hv hcell hr4
  clear hl hcm hck
  have q5 : ((s4 : Int) != (cs : Int)) = true := by rw [bne_iff_ne]; omega
  go_enter Try.func66, Try.ntmps66
  go_wp2_with fail
  (with_reducible refine (hG.out _ (Below.refl _ _)).mono ?_)
  rintro e w1 ⟨rfl, hb1⟩
  go_wp2_with fail
  refine wp_region_noPanic ?_
  refine wp_region_held_drew (S := (fun _ => True)) (by kernel_rfl) ?_ (fun hHeld => ?_)
  · trivial
  refine heldTake 0 (some 37) (v := ?_) rfl rfl (by kernel_rfl) (by kernel_rfl) (by kernel_rfl) (by rfl) hHeld (fun _ _ _ h => h) ?_ ?_
  rotate_left
  · intro w' hSw; (try dsimp only at hSw); go_simp <;> with_reducible rfl
  simp only [Act.put, List.setIfInBounds_toArray, List.set_cons_zero, List.set_cons_succ]
  refine heldTake 1 (some 38) (v := ?_) rfl rfl (by kernel_rfl) (by kernel_rfl) (by kernel_rfl) (by rfl) hHeld (fun _ _ _ h => h) ?_ ?_
  rotate_left
  · intro w' hSw; (try dsimp only at hSw); go_simp <;> with_reducible rfl
  simp only [Act.put, List.setIfInBounds_toArray, List.set_cons_zero, List.set_cons_succ]
  refine heldTake 3 (some 40) (v := ?_) rfl rfl (by kernel_rfl) (by kernel_rfl) (by kernel_rfl) (by rfl) hHeld (fun _ _ _ h => h) ?_ ?_
  rotate_left
  · intro w' hSw; (try dsimp only at hSw); go_simp <;> with_reducible rfl
  simp only [Act.put, List.setIfInBounds_toArray, List.set_cons_zero, List.set_cons_succ]
  refine heldTake 4 (some 41) (v := ?_) rfl rfl (by kernel_rfl) (by kernel_rfl) (by kernel_rfl) (by rfl) hHeld (fun _ _ _ h => h) ?_ ?_
  rotate_left
  · intro w' hSw; (try dsimp only at hSw); go_simp <;> with_reducible rfl
  simp only [Act.put, List.setIfInBounds_toArray, List.set_cons_zero, List.set_cons_succ]
  refine heldTake 5 (some 42) (v := ?_) rfl rfl (by kernel_rfl) (by kernel_rfl) (by kernel_rfl) (by rfl) hHeld (fun _ _ _ h => h) ?_ ?_
  rotate_left
  · intro w' hSw; (try dsimp only at hSw); go_simp <;> with_reducible rfl
  simp only [Act.put, List.setIfInBounds_toArray, List.set_cons_zero, List.set_cons_succ]
  refine heldTake 6 (some 43) (v := ?_) rfl rfl (by kernel_rfl) (by kernel_rfl) (by kernel_rfl) (by rfl) hHeld (fun _ _ _ h => h) ?_ ?_
  rotate_left
  · intro w' hSw; (try dsimp only at hSw); go_simp <;> with_reducible rfl
  simp only [Act.put, List.setIfInBounds_toArray, List.set_cons_zero, List.set_cons_succ]
  refine heldTake 7 (some 44) (v := ?_) rfl rfl (by kernel_rfl) (by kernel_rfl) (by kernel_rfl) (by rfl) hHeld (fun _ _ _ h => h) ?_ ?_
  rotate_left
  · intro w' hSw; (try dsimp only at hSw); go_simp <;> with_reducible rfl
  simp only [Act.put, List.setIfInBounds_toArray, List.set_cons_zero, List.set_cons_succ]
  refine heldTake 8 (some 45) (v := ?_) rfl rfl (by kernel_rfl) (by kernel_rfl) (by kernel_rfl) (by rfl) hHeld (fun _ _ _ h => h) ?_ ?_
  rotate_left
  · intro w' hSw; (try dsimp only at hSw); go_simp <;> with_reducible rfl
  simp only [Act.put, List.setIfInBounds_toArray, List.set_cons_zero, List.set_cons_succ]
  refine heldCall 2 (some 39) (f := ?_) (args := ?_) rfl rfl (by kernel_rfl) (by rfl) ?_ ?_
  rotate_left 2
  · go_simp <;> first | (constructor <;> with_reducible rfl) | with_reducible rfl
  (with_reducible refine (hG2.out _ hb1.drew).mono ?_)
  rintro e w2 ⟨rfl, hb2⟩
  have hB2 := hb1.drew.trans (hb2.mono hb1.drew.size)
  refine ⟨_, rfl, keepAnd ?_ (fun hNew => ?_)⟩
  · trivial
  clear hHeld
  have hHeld := hNew
  clear hNew
  simp only [Act.put, List.setIfInBounds_toArray, List.set_cons_zero, List.set_cons_succ]
  refine heldCall 9 (some 46) (f := ?_) (args := ?_) rfl rfl (by kernel_rfl) (by rfl) ?_ ?_
  rotate_left 2
  · go_simp <;> first | (constructor <;> with_reducible rfl) | with_reducible rfl
  (with_reducible refine (hsum.out _ hB2).mono ?_)
  rintro e w3 ⟨rfl, rfl⟩
  refine ⟨_, rfl, keepAnd ?_ (fun hNew => ?_)⟩
  · trivial
  clear hHeld
  have hHeld := hNew
  clear hNew
  simp only [Act.put, List.setIfInBounds_toArray, List.set_cons_zero, List.set_cons_succ]
  refine heldTake 10 (some 47) (v := ?_) rfl rfl (by kernel_rfl) (by kernel_rfl) (by kernel_rfl) (by rfl) hHeld (fun _ _ _ h => h) ?_ ?_
  rotate_left
  · intro w' hSw; (try dsimp only at hSw); go_simp <;> with_reducible rfl
  simp only [Act.put, List.setIfInBounds_toArray, List.set_cons_zero, List.set_cons_succ]
  refine heldTake 11 (some 36) (v := ?_) rfl rfl (by kernel_rfl) (by kernel_rfl) (by kernel_rfl) (by rfl) hHeld (fun _ _ _ h => h) ?_ ?_
  rotate_left
  · intro w' hSw; (try dsimp only at hSw); go_simp <;> with_reducible rfl
  simp only [Act.put, List.setIfInBounds_toArray, List.set_cons_zero, List.set_cons_succ]
  refine wpAnyH_done (by kernel_rfl) ?_ _
  refine NoPanic.normal ?_
  go_wp2_with fail
  all_goals
    go_ret3
    exact ⟨_, rfl, OwnB.nil _ _, hB2⟩

set_option maxRecDepth 100000 in
set_option maxHeartbeats 2000000 in
theorem next_last (b off c k : Nat) (l : List UInt8) (w : World) (hl : l.length = c) (hck : c = k + 8) (hv : RdB w (· < w.heap.size) (.slice (some ⟨b, off, none⟩) l.length c) l) (hcm : c ≤ maxLen) (hn : num4L l k = 0) (s4 cs : Nat) (hs : num4L l (k + 4) = s4) (hc : crcSum ((l.drop k).take 4) [] = cs) (hne : s4 = cs) :
    Calls Try.prog 66 #[.slice (some ⟨b, off, none⟩) l.length c, .int .i64 (k : Int)] w (Fr3 ([], (k : Int) + 8, 0) w) := by
  obtain ⟨b', off', e, hF, hcell⟩ := bytes_at hv (by omega)
  simp only [Option.some.injEq, Addr.mk.injEq, and_true] at e
  obtain ⟨rfl, rfl⟩ := e
  have hG := Lib.hid (fun W (hW : Below w.heap.size w W) => get4_any b (off + k) 8 8 (l.getD k 0) (l.getD (k + 1) 0) (l.getD (k + 2) 0) (l.getD (k + 3) 0) W (by omega)
    ((hW.cell (p := ⟨b, off + k, none⟩) hF).trans (hcell k (by omega))) ((hW.cell (p := ⟨b, off + k + 1, none⟩) hF).trans (hcell (k + 1) (by omega))) ((hW.cell (p := ⟨b, off + k + 2, none⟩) hF).trans (hcell (k + 2) (by omega))) ((hW.cell (p := ⟨b, off + k + 3, none⟩) hF).trans (hcell (k + 3) (by omega))))
  rw [show num4 (l.getD k 0) (l.getD (k + 1) 0) (l.getD (k + 2) 0) (l.getD (k + 3) 0) = 0 from hn, show ((0 : Nat) : Int) = 0 from rfl] at hG
  have hG2 := Lib.hid (fun W (hW : Below w.heap.size w W) => get4_any b (off + k + 4) 4 4 (l.getD (k + 4) 0) (l.getD (k + 4 + 1) 0) (l.getD (k + 4 + 2) 0) (l.getD (k + 4 + 3) 0) W (by omega)
    ((hW.cell (p := ⟨b, off + k + 4, none⟩) hF).trans (hcell (k + 4) (by omega))) ((hW.cell (p := ⟨b, off + k + 4 + 1, none⟩) hF).trans (hcell (k + 4 + 1) (by omega))) ((hW.cell (p := ⟨b, off + k + 4 + 2, none⟩) hF).trans (hcell (k + 4 + 2) (by omega))) ((hW.cell (p := ⟨b, off + k + 4 + 3, none⟩) hF).trans (hcell (k + 4 + 3) (by omega))))
  rw [show num4 (l.getD (k + 4) 0) (l.getD (k + 4 + 1) 0) (l.getD (k + 4 + 2) 0) (l.getD (k + 4 + 3) 0) = s4 from hs] at hG2
  have hsl := sl_lo b off c c k (by omega) (by omega)
  rw [show c - k = 8 from by omega] at hsl
  have hr4 : RdB w (· < w.heap.size) (.slice (some ⟨b, off + k, none⟩) 4 8) ((l.drop k).take 4) := hv.sub (o := k) (k := 4) (c' := 8) (by omega) (by omega) (by omega) (by omega)
  have hsum := Lib.hid (fun W (hW : Below w.heap.size w W) => sum_any (· < w.heap.size) (· < w.heap.size) _ _ _ _ W (Rd.below hr4 hW) (rd_empty W (· < w.heap.size) ⟨b, off + k, none⟩ 0 (Nat.zero_le _)))
  rw [hc] at hsum
  have q0 : ¬ (k : Int) < 0 := by omega
  have hw8 : IntKind.i64.wrap 8 = 8 := by decide
  have hs3 : ∀ W : World, (Instr.slice 23 (.slice (some ⟨b, off + k, none⟩) 8 8) (some (.int .i64 8)) (some (.int .i64 8)) none).run Try.prog W = .ok (.slice (some ⟨b, off + k, none⟩) 0 0) W := fun W => sl_lohi b (off + k) 8 8 8 8 (by omega) (by omega) W
  have q1 : ¬ (c : Int) < (k : Int) := by omega
  have q7 : IntKind.i64.wrap ((k : Int) + 8) = (k : Int) + 8 := IntWalk.i64_in _ (by unfold maxLen at hcm; omega)
  rw [hl]
  clear hs hc hn hv hcell hr4
  clear hl hcm hck
  subst hne
  have hmk := make_bytes 0 (by omega)
  rw [show ((0 : Nat) : Int) = 0 from rfl] at hmk
  go_enter Try.func66, Try.ntmps66
  go_wp2_with fail
  (with_reducible refine (hG.out _ (Below.refl _ _)).mono ?_)
  rintro e w1 ⟨rfl, hb1⟩
  go_wp2_with fail
  refine wp_region_noPanic ?_
  refine wp_region_held_drew (S := (fun _ => True)) (by kernel_rfl) ?_ (fun hHeld => ?_)
  · trivial
  refine heldTake 0 (some 37) (v := ?_) rfl rfl (by kernel_rfl) (by kernel_rfl) (by kernel_rfl) (by rfl) hHeld (fun _ _ _ h => h) ?_ ?_
  rotate_left
  · intro w' hSw; (try dsimp only at hSw); go_simp <;> with_reducible rfl
  simp only [Act.put, List.setIfInBounds_toArray, List.set_cons_zero, List.set_cons_succ]
  refine heldTake 1 (some 38) (v := ?_) rfl rfl (by kernel_rfl) (by kernel_rfl) (by kernel_rfl) (by rfl) hHeld (fun _ _ _ h => h) ?_ ?_
  rotate_left
  · intro w' hSw; (try dsimp only at hSw); go_simp <;> with_reducible rfl
  simp only [Act.put, List.setIfInBounds_toArray, List.set_cons_zero, List.set_cons_succ]
  refine heldTake 3 (some 40) (v := ?_) rfl rfl (by kernel_rfl) (by kernel_rfl) (by kernel_rfl) (by rfl) hHeld (fun _ _ _ h => h) ?_ ?_
  rotate_left
  · intro w' hSw; (try dsimp only at hSw); go_simp <;> with_reducible rfl
  simp only [Act.put, List.setIfInBounds_toArray, List.set_cons_zero, List.set_cons_succ]
  refine heldTake 4 (some 41) (v := ?_) rfl rfl (by kernel_rfl) (by kernel_rfl) (by kernel_rfl) (by rfl) hHeld (fun _ _ _ h => h) ?_ ?_
  rotate_left
  · intro w' hSw; (try dsimp only at hSw); go_simp <;> with_reducible rfl
  simp only [Act.put, List.setIfInBounds_toArray, List.set_cons_zero, List.set_cons_succ]
  refine heldTake 5 (some 42) (v := ?_) rfl rfl (by kernel_rfl) (by kernel_rfl) (by kernel_rfl) (by rfl) hHeld (fun _ _ _ h => h) ?_ ?_
  rotate_left
  · intro w' hSw; (try dsimp only at hSw); go_simp <;> with_reducible rfl
  simp only [Act.put, List.setIfInBounds_toArray, List.set_cons_zero, List.set_cons_succ]
  refine heldTake 6 (some 43) (v := ?_) rfl rfl (by kernel_rfl) (by kernel_rfl) (by kernel_rfl) (by rfl) hHeld (fun _ _ _ h => h) ?_ ?_
  rotate_left
  · intro w' hSw; (try dsimp only at hSw); go_simp <;> with_reducible rfl
  simp only [Act.put, List.setIfInBounds_toArray, List.set_cons_zero, List.set_cons_succ]
  refine heldTake 7 (some 44) (v := ?_) rfl rfl (by kernel_rfl) (by kernel_rfl) (by kernel_rfl) (by rfl) hHeld (fun _ _ _ h => h) ?_ ?_
  rotate_left
  · intro w' hSw; (try dsimp only at hSw); go_simp <;> with_reducible rfl
  simp only [Act.put, List.setIfInBounds_toArray, List.set_cons_zero, List.set_cons_succ]
  refine heldTake 8 (some 45) (v := ?_) rfl rfl (by kernel_rfl) (by kernel_rfl) (by kernel_rfl) (by rfl) hHeld (fun _ _ _ h => h) ?_ ?_
  rotate_left
  · intro w' hSw; (try dsimp only at hSw); go_simp <;> with_reducible rfl
  simp only [Act.put, List.setIfInBounds_toArray, List.set_cons_zero, List.set_cons_succ]
  refine heldCall 2 (some 39) (f := ?_) (args := ?_) rfl rfl (by kernel_rfl) (by rfl) ?_ ?_
  rotate_left 2
  · go_simp <;> first | (constructor <;> with_reducible rfl) | with_reducible rfl
  (with_reducible refine (hG2.out _ hb1.drew).mono ?_)
  rintro e w2 ⟨rfl, hb2⟩
  have hB2 := hb1.drew.trans (hb2.mono hb1.drew.size)
  refine ⟨_, rfl, keepAnd ?_ (fun hNew => ?_)⟩
  · trivial
  clear hHeld
  have hHeld := hNew
  clear hNew
  simp only [Act.put, List.setIfInBounds_toArray, List.set_cons_zero, List.set_cons_succ]
  refine heldCall 9 (some 46) (f := ?_) (args := ?_) rfl rfl (by kernel_rfl) (by rfl) ?_ ?_
  rotate_left 2
  · go_simp <;> first | (constructor <;> with_reducible rfl) | with_reducible rfl
  (with_reducible refine (hsum.out _ hB2).mono ?_)
  rintro e w3 ⟨rfl, rfl⟩
  refine ⟨_, rfl, keepAnd ?_ (fun hNew => ?_)⟩
  · trivial
  clear hHeld
  have hHeld := hNew
  clear hNew
  simp only [Act.put, List.setIfInBounds_toArray, List.set_cons_zero, List.set_cons_succ]
  refine heldTake 10 (some 47) (v := ?_) rfl rfl (by kernel_rfl) (by kernel_rfl) (by kernel_rfl) (by rfl) hHeld (fun _ _ _ h => h) ?_ ?_
  rotate_left
  · intro w' hSw; (try dsimp only at hSw); go_simp <;> with_reducible rfl
  simp only [Act.put, List.setIfInBounds_toArray, List.set_cons_zero, List.set_cons_succ]
  refine heldTake 11 (some 36) (v := ?_) rfl rfl (by kernel_rfl) (by kernel_rfl) (by kernel_rfl) (by rfl) hHeld (fun _ _ _ h => h) ?_ ?_
  rotate_left
  · intro w' hSw; (try dsimp only at hSw); go_simp <;> with_reducible rfl
  simp only [Act.put, List.setIfInBounds_toArray, List.set_cons_zero, List.set_cons_succ]
  refine wpAnyH_done (by kernel_rfl) ?_ _
  refine NoPanic.normal ?_
  have hBa := hB2.alloc hB2.size (.cells (bv (List.replicate 0 0)).toArray 5)
  have hBs := hB2.size
  go_wp2_with (refine wpList_copy_nothing (by rfl) (.tmp 50) (.tmp 52) 23 23 (by rfl) 5 Try.underlying23 infoB1 _ _ 0 0 0 0 (by rfl) (by rfl) rfl ?_)
  go_wp2_with fail
  go_ret3
  refine ⟨.slice (some ⟨w2.heap.size, 0, none⟩) 0 0, rfl, ?_, hBa⟩
  exact ⟨rfl, .inr ⟨w2.heap.size, 0, _, rfl, hBs, heap_alloc_new w2 _, Nat.le_refl _, Nat.zero_le _, rfl, rfl⟩⟩
end Go.Proofs.Ytooojgokkigncaa
