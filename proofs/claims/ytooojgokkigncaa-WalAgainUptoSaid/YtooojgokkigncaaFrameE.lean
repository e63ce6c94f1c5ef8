/-
  Frames: the frame of no bytes; a body that is too long.
-/
import Derived.Test.YtooojgokkigncaaFrameD
namespace Go.Proofs.Ytooojgokkigncaa
open Go.RowKit Go.Lib Go.IntWalk

set_option maxRecDepth 100000 in
set_option maxHeartbeats 2000000 in
theorem frAppend_nil (v : Value) (w : World) (hv : RdB w (· < w.heap.size) v []) :
    Calls Try.prog 51 #[.slice none 0 0, v] w (New2 w (frm [])) := by
  obtain ⟨A, c, rfl, hc1, hc2, hc3⟩ := hv.open_
  have hmk := make_bytes 8 (by omega)
  rw [show ((8 : Nat) : Int) = 8 from rfl] at hmk
  have hrl : (List.replicate 8 (0 : UInt8)).length = 8 := by simp
  generalize List.replicate 8 (0 : UInt8) = L0 at *
  have HL := Lib.hid hrl
  clear hrl
  simp only [List.length_nil] at hv ⊢
  go_enter Try.func51, Try.ntmps51
  go_wp2_with (with_reducible refine wpList_copy_nothing rfl (.tmp 18) (.tmp 19) 23 23 rfl 5 Try.underlying23 infoB1 _ _ _ _ _ _ rfl rfl (by simp) ?_)
  have hK0 : BlkB (w.alloc (.cells (bv L0).toArray 5)) w.heap.size L0 := heap_alloc_new w _
  have CP := put4_any w.heap.size 0 8 8 0 L0 _ hK0 (by rw [HL.out]; omega) (by omega)
  rw [show ((0 : Nat) : Int) = 0 from rfl] at CP
  (with_reducible refine CP.mono ?_)
  clear CP
  rintro e w1 ⟨u1, rfl, hK1, hG1⟩
  have hB1 : Below w.heap.size w w1 := (Below.of_alloc _).trans ((Below.refl _ _).grown hG1 (by simp) (fun k hk => by cases hk; exact Nat.le_refl _))
  have hL1 : (putN L0 0 0 4).length = 8 := by rw [putN_length (by rw [HL.out]; omega) (by omega)]; exact HL.out
  have ht4 : ((putN L0 0 0 4).drop 0).take 4 = be4 0 := by
    simp [putN, be4_length]
    exact List.take_of_length_le (by rw [be4_length]; omega)
  generalize putN L0 0 0 4 = L1 at *
  have HL1 := Lib.hid hL1
  have hrd4 : RdB w1 (fun b => b = w.heap.size) (.slice (some ⟨w.heap.size, 0, none⟩) 4 8) (be4 0) := by
    have := hK1.rd (o := 0) (k := 4) (c := 8) (by rw [hL1]; omega) (by omega) (by unfold maxLen; omega)
    rw [ht4] at this
    exact this
  have hv1 : RdB w1 (· < w.heap.size) (.slice A 0 c) [] := Rd.below hv hB1
  have HT := Lib.hid ht4
  clear hL1 ht4 hK0 hmk
  go_wp2_with fail
  refine wp_region_noPanic ?_
  refine wp_region_held_drew (S := (fun _ => True)) (by kernel_rfl) ?_ (fun hHeld => ?_)
  · trivial
  refine heldTake 0 (some 30) (v := ?_) rfl rfl (by kernel_rfl) (by kernel_rfl) (by kernel_rfl) (by rfl) hHeld (fun _ _ _ h => h) ?_ ?_
  rotate_left
  · intro w' hSw; (try dsimp only at hSw); go_simp <;> with_reducible rfl
  simp only [Act.put, List.setIfInBounds_toArray, List.set_cons_zero, List.set_cons_succ]
  refine heldTake 1 (some 31) (v := ?_) rfl rfl (by kernel_rfl) (by kernel_rfl) (by kernel_rfl) (by rfl) hHeld (fun _ _ _ h => h) ?_ ?_
  rotate_left
  · intro w' hSw; (try dsimp only at hSw); go_simp <;> with_reducible rfl
  simp only [Act.put, List.setIfInBounds_toArray, List.set_cons_zero, List.set_cons_succ]
  refine heldTake 2 (some 32) (v := ?_) rfl rfl (by kernel_rfl) (by kernel_rfl) (by kernel_rfl) (by rfl) hHeld (fun _ _ _ h => h) ?_ ?_
  rotate_left
  · intro w' hSw; (try dsimp only at hSw); go_simp <;> with_reducible rfl
  simp only [Act.put, List.setIfInBounds_toArray, List.set_cons_zero, List.set_cons_succ]
  refine heldTake 3 (some 33) (v := ?_) rfl rfl (by kernel_rfl) (by kernel_rfl) (by kernel_rfl) (by rfl) hHeld (fun _ _ _ h => h) ?_ ?_
  rotate_left
  · intro w' hSw; (try dsimp only at hSw); go_simp <;> with_reducible rfl
  simp only [Act.put, List.setIfInBounds_toArray, List.set_cons_zero, List.set_cons_succ]
  refine heldTake 4 (some 34) (v := ?_) rfl rfl (by kernel_rfl) (by kernel_rfl) (by kernel_rfl) (by rfl) hHeld (fun _ _ _ h => h) ?_ ?_
  rotate_left
  · intro w' hSw; (try dsimp only at hSw); go_simp <;> with_reducible rfl
  simp only [Act.put, List.setIfInBounds_toArray, List.set_cons_zero, List.set_cons_succ]
  refine heldCall 5 (some 35) (f := ?_) (args := ?_) rfl rfl (by kernel_rfl) (by rfl) ?_ ?_
  rotate_left 2
  · go_simp <;> first | (constructor <;> with_reducible rfl) | with_reducible rfl
  (with_reducible refine (sum_any (fun b => b = w.heap.size) (· < w.heap.size) _ (.slice A 0 c) (be4 0) [] _ ?_ ?_).mono ?_)
  · exact hrd4
  · exact hv1
  rintro e w2 ⟨rfl, rfl⟩
  refine ⟨_, rfl, keepAnd ?_ (fun hNew => ?_)⟩
  · trivial
  clear hHeld
  have hHeld := hNew
  clear hNew
  simp only [Act.put, List.setIfInBounds_toArray, List.set_cons_zero, List.set_cons_succ]
  refine heldCall 6 (some 36) (f := ?_) (args := ?_) rfl rfl (by kernel_rfl) (by rfl) ?_ ?_
  rotate_left 2
  · go_simp <;> first | (constructor <;> with_reducible rfl) | with_reducible rfl
  (with_reducible refine (put4_any w.heap.size 4 _ _ _ L1 _ ?_ ?_ ?_).mono ?_)
  · exact hK1
  · rw [HL1.out]; omega
  · omega
  rintro e w2 ⟨u2, rfl, hK2, hG2⟩
  refine ⟨_, rfl, keepAnd ?_ (fun hNew => ?_)⟩
  · trivial
  clear hHeld
  have hHeld := hNew
  clear hNew
  simp only [Act.put, List.setIfInBounds_toArray, List.set_cons_zero, List.set_cons_succ]
  refine wpAnyH_done (by kernel_rfl) ?_ _
  refine NoPanic.normal ?_
  have hl2 : (putN L1 4 (crcSum (be4 0) []) 4).length = 8 := by rw [putN_length (by rw [HL1.out]; omega) (by omega)]; exact HL1.out
  have ht8 : putN L1 4 (crcSum (be4 0) []) 4 = be4 0 ++ be4 (crcSum (be4 0) []) := by
    have h4 : (be4 (crcSum (be4 0) [])).take 4 = be4 (crcSum (be4 0) []) := List.take_of_length_le (by rw [be4_length]; omega)
    have ht := HT.out
    rw [List.drop_zero] at ht
    unfold putN
    rw [h4, ht, show L1.drop (4 + 4) = [] from List.drop_eq_nil_of_le (by rw [HL1.out]; omega), List.append_nil]
  rw [ht8] at hK2
  have hB2 : Below w.heap.size w w2 := hB1.drew.trans ((Below.refl _ _).grown hG2 (by have := hB1.size; exact this) (fun k hk => by cases hk; exact Nat.le_refl _))
  have HK2 := Lib.hid hK2
  clear hl2 ht8 hK2 hK1 hG1 hG2 hHeld
  go_wp2_with (with_reducible refine wpList_copy_nothing rfl (.tmp 38) (.tmp 39) 23 23 rfl 5 Try.underlying23 infoB1 _ _ _ _ _ _ rfl rfl (by simp) ?_)
  go_wp2_with fail
  go_ret2
  refine ⟨_, rfl, ?_, hB2⟩
  have hlen : (frm []).length = 8 := rfl
  unfold OwnB
  rw [hlen]
  have h3 := HK2.out
  unfold BlkB at h3
  refine ⟨by rw [bv_length, hlen], .inr ⟨w.heap.size, 8, _, rfl, Nat.le_refl _, h3, Nat.le_refl _, by unfold maxLen; omega, by simp [bv_length, be4_length], ?_⟩⟩
  simp [frm, List.take_of_length_le, bv_length, be4_length]
theorem frAppend_any (v : Value) (l : List UInt8) (w : World) (hv : RdB w (· < w.heap.size) v l) (hl : l.length ≤ 1048576) :
    Calls Try.prog 51 #[.slice none 0 0, v] w (New2 w (frm l)) := by
  by_cases hne : l = []
  · subst hne; exact frAppend_nil v w hv
  · exact frAppend_ne v l w hv hl hne
set_option maxHeartbeats 1000000 in
theorem frAppend_long (u v : Value) (l : List UInt8) (F : Nat → Prop) (w : World) (hv : RdB w F v l) (hl : ¬ l.length ≤ 1048576) :
    Calls Try.prog 51 #[u, v] w fun e w' => e = .returned (.tuple #[.slice none 0 0, .int .i64 5]) ∧ w = w' := by
  obtain ⟨A, c, rfl, hc1, hc2, hc3⟩ := hv.open_
  have q1 : (1048576 : Int) < (l.length : Int) := by omega
  go_enter Try.func51, Try.ntmps51
  go_wp2_with fail
  go_ret2
  exact ⟨rfl, rfl⟩
end Go.Proofs.Ytooojgokkigncaa
