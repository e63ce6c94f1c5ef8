/-
  Frames: a body with its length and checksum.
-/
import Derived.Test.YtooojgokkigncaaFrameC
import Derived.Laws.CopyOwn
import Derived.Laws.OwnMore
namespace Go.Proofs.Ytooojgokkigncaa
open Go.RowKit Go.Lib Go.IntWalk

/-- a frame -/
def frm (l : List UInt8) : List UInt8 := be4 l.length ++ (be4 (crcSum (be4 l.length) l) ++ l)
theorem BlkB.rd {w : World} {g : Nat} {L : List UInt8} (h : BlkB w g L) {o k c : Nat} (h1 : o + k ≤ L.length) (h2 : k ≤ c) (h3 : c ≤ maxLen) : RdB w (fun b => b = g) (.slice (some ⟨g, o, none⟩) k c) ((L.drop o).take k) := by
  have hl : ((L.drop o).take k).length = k := by rw [List.length_take, List.length_drop]; omega
  unfold RdB
  rw [hl]
  refine ⟨by rw [bv_length, hl, Nat.mul_one], _, c, rfl, h2, h3, fun h => (Option.some_ne_none _ h).elim, fun hk => ⟨_, rfl, rfl, fun j u hu => ?_⟩⟩
  have hj : j < k := by
    rcases Nat.lt_or_ge j k with h' | h'
    · exact h'
    · rw [List.getElem?_eq_none (by rw [bv_length, hl]; exact h')] at hu; cases hu
  have hadd : (⟨g, o, none⟩ : Addr).add j = ⟨g, o + j, none⟩ := by unfold Addr.add; split <;> simp_all
  rw [hadd, h.cell (show o + j < L.length by omega)]
  rw [bv_get (by rw [hl]; exact hj)] at hu
  rw [← hu]
  simp
theorem infoB1 : (Try.prog.info? 5).map (·.size) = some 1 := by kernel_rfl
theorem make_bytes (N : Nat) (hN : N ≤ 140737488355328) (W : World) : (Instr.makeSlice 23 (.int .i64 (N : Int)) (.int .i64 (N : Int))).run Try.prog W = .ok (.slice (some ⟨W.heap.size, 0, none⟩) N N) (W.alloc (.cells (bv (List.replicate N 0)).toArray 5)) := by
  obtain ⟨i0, hi, hz0, hz1, hz2⟩ := info_parts infoB
  have h := run_make (P := Try.prog) W 23 5 i0 _ Try.underlying23 hi hz0 .i64 .i64 (N : Int) (N : Int) (by omega) (Int.le_refl _) (by rw [hz2]; omega) (by omega)
  rw [hz1, Int.toNat_natCast, Nat.mul_one] at h
  have e : madeCells (Value.int .u8 0).cells N = (bv (List.replicate N 0)).toArray := by
    apply Array.toList_inj.1
    rw [show (Value.int .u8 0).cells = #[.int .u8 0] from rfl, toList_madeCells_one]
    simp [bv]
  rw [e] at h
  exact h
def New2 (w0 : World) (l : List UInt8) (e : Ending) (w : World) : Prop := ∃ v, e = .returned (.tuple #[v, .int .i64 0]) ∧ OwnB w w0.heap.size v l ∧ Below w0.heap.size w0 w

set_option maxRecDepth 100000 in
set_option maxHeartbeats 2000000 in
theorem frAppend_ne (v : Value) (l : List UInt8) (w : World) (hv : RdB w (· < w.heap.size) v l) (hl : l.length ≤ 1048576) (hne : ¬ l = []) :
    Calls Try.prog 51 #[.slice none 0 0, v] w (New2 w (frm l)) := by
  obtain ⟨A, c, rfl, hc1, hc2, hc3⟩ := hv.open_
  have hmk := make_bytes (8 + l.length) (by omega)
  have ec : (((8 + l.length : Nat)) : Int) = 8 + (l.length : Int) := by omega
  rw [ec] at hmk
  have q1 : ¬ (1048576 : Int) < (l.length : Int) := by omega
  have hrl : (List.replicate (8 + l.length) (0 : UInt8)).length = 8 + l.length := by simp
  generalize List.replicate (8 + l.length) (0 : UInt8) = L0 at *
  have HL := Lib.hid hrl
  clear hrl ec
  go_enter Try.func51, Try.ntmps51
  go_wp2_with (with_reducible refine wpList_copy_nothing rfl (.tmp 18) (.tmp 19) 23 23 rfl 5 Try.underlying23 infoB1 _ _ _ _ _ _ rfl rfl (by simp) ?_)
  have hK0 : BlkB (w.alloc (.cells (bv L0).toArray 5)) w.heap.size L0 := heap_alloc_new w _
  (with_reducible refine (put4_any w.heap.size 0 _ _ _ L0 _ hK0 ?_ ?_).mono ?_)
  · rw [HL.out]; omega
  · omega
  rintro e w1 ⟨u1, rfl, hK1, hG1⟩
  have hB1 : Below w.heap.size w w1 := (Below.of_alloc _).trans ((Below.refl _ _).grown hG1 (by simp) (fun k hk => by cases hk; exact Nat.le_refl _))
  have hL1 : (putN L0 0 l.length 4).length = 8 + l.length := by rw [putN_length (by rw [HL.out]; omega) (by omega)]; exact HL.out
  have ht4 : ((putN L0 0 l.length 4).drop 0).take 4 = be4 l.length := by
    simp [putN, be4_length]
    exact List.take_of_length_le (by rw [be4_length]; omega)
  generalize putN L0 0 l.length 4 = L1 at *
  have HL1 := Lib.hid hL1
  have hrd4 : RdB w1 (fun b => b = w.heap.size) (.slice (some ⟨w.heap.size, 0, none⟩) 4 (8 + l.length)) (be4 l.length) := by
    have := hK1.rd (o := 0) (k := 4) (c := 8 + l.length) (by rw [hL1]; omega) (by omega) (by unfold maxLen; omega)
    rw [ht4] at this
    exact this
  have hv1 : RdB w1 (· < w.heap.size) (.slice A l.length c) l := Rd.below hv hB1
  have HT := Lib.hid ht4
  clear hL1 ht4 hK0 hmk
  have s1 : (4 : Int) ≤ 8 + (l.length : Int) := by omega
  go_wp2_with fail
  refine wp_region_noPanic ?_
  refine wp_region_held_drew (S := (fun _ => True)) (by kernel_rfl) ?_ (fun hHeld => ?_)
  · trivial
  refine heldTake 0 (some 30) (v := ?_) rfl rfl (by kernel_rfl) (by kernel_rfl) (by kernel_rfl) (by rfl) hHeld (fun _ _ _ h => h) ?_ ?_
  rotate_left
  · intro w' hSw; (try dsimp only at hSw); go_simp <;> with_reducible rfl
  simp only [Act.put, List.setIfInBounds_toArray, List.set_cons_zero, List.set_cons_succ]
  refine heldTake 1 (some 31) (v := ?_) rfl rfl (by kernel_rfl) (by kernel_rfl) (by kernel_rfl) (by rfl) hHeld (fun _ _ _ h => h) ?_ ?_
  rotate_left
  · intro w' hSw; (try dsimp only at hSw); go_simp <;> with_reducible rfl
  simp only [Act.put, List.setIfInBounds_toArray, List.set_cons_zero, List.set_cons_succ]
  refine heldTake 2 (some 32) (v := ?_) rfl rfl (by kernel_rfl) (by kernel_rfl) (by kernel_rfl) (by rfl) hHeld (fun _ _ _ h => h) ?_ ?_
  rotate_left
  · intro w' hSw; (try dsimp only at hSw); go_simp <;> with_reducible rfl
  simp only [Act.put, List.setIfInBounds_toArray, List.set_cons_zero, List.set_cons_succ]
  refine heldTake 3 (some 33) (v := ?_) rfl rfl (by kernel_rfl) (by kernel_rfl) (by kernel_rfl) (by rfl) hHeld (fun _ _ _ h => h) ?_ ?_
  rotate_left
  · intro w' hSw; (try dsimp only at hSw); go_simp <;> with_reducible rfl
  simp only [Act.put, List.setIfInBounds_toArray, List.set_cons_zero, List.set_cons_succ]
  refine heldTake 4 (some 34) (v := ?_) rfl rfl (by kernel_rfl) (by kernel_rfl) (by kernel_rfl) (by rfl) hHeld (fun _ _ _ h => h) ?_ ?_
  rotate_left
  · intro w' hSw; (try dsimp only at hSw); go_simp <;> with_reducible rfl
  simp only [Act.put, List.setIfInBounds_toArray, List.set_cons_zero, List.set_cons_succ]
  refine heldCall 5 (some 35) (f := ?_) (args := ?_) rfl rfl (by kernel_rfl) (by rfl) ?_ ?_
  rotate_left 2
  · go_simp <;> first | (constructor <;> with_reducible rfl) | with_reducible rfl
  (with_reducible refine (sum_any (fun b => b = w.heap.size) (· < w.heap.size) _ (.slice A l.length c) (be4 l.length) l _ ?_ ?_).mono ?_)
  · exact hrd4
  · exact hv1
  rintro e w2 ⟨rfl, rfl⟩
  refine ⟨_, rfl, keepAnd ?_ (fun hNew => ?_)⟩
  · trivial
  clear hHeld
  have hHeld := hNew
  clear hNew
  simp only [Act.put, List.setIfInBounds_toArray, List.set_cons_zero, List.set_cons_succ]
  refine heldCall 6 (some 36) (f := ?_) (args := ?_) rfl rfl (by kernel_rfl) (by rfl) ?_ ?_
  rotate_left 2
  · go_simp <;> first | (constructor <;> with_reducible rfl) | with_reducible rfl
  rw [if_neg (show ¬ 8 + l.length = 4 by omega)]
  (with_reducible refine (put4_any w.heap.size 4 _ _ _ L1 _ ?_ ?_ ?_).mono ?_)
  · exact hK1
  · rw [HL1.out]; omega
  · omega
  rintro e w2 ⟨u2, rfl, hK2, hG2⟩
  refine ⟨_, rfl, keepAnd ?_ (fun hNew => ?_)⟩
  · trivial
  clear hHeld
  have hHeld := hNew
  clear hNew
  simp only [Act.put, List.setIfInBounds_toArray, List.set_cons_zero, List.set_cons_succ]
  refine wpAnyH_done (by kernel_rfl) ?_ _
  refine NoPanic.normal ?_
  have hl2 : (putN L1 4 (crcSum (be4 l.length) l) 4).length = 8 + l.length := by rw [putN_length (by rw [HL1.out]; omega) (by omega)]; exact HL1.out
  have ht8 : (putN L1 4 (crcSum (be4 l.length) l) 4).take 8 = be4 l.length ++ be4 (crcSum (be4 l.length) l) := by
    have h4 : (be4 (crcSum (be4 l.length) l)).take 4 = be4 (crcSum (be4 l.length) l) := List.take_of_length_le (by rw [be4_length]; omega)
    have ht := HT.out
    rw [List.drop_zero] at ht
    unfold putN
    rw [h4, ht, ← List.append_assoc, List.take_append_of_le_length (by simp [be4_length])]
    exact List.take_of_length_le (by simp [be4_length])
  generalize putN L1 4 (crcSum (be4 l.length) l) 4 = L2 at *
  have hB2 : Below w.heap.size w w2 := hB1.drew.trans ((Below.refl _ _).grown hG2 (by have := hB1.size; exact this) (fun k hk => by cases hk; exact Nat.le_refl _))
  have hv2 : RdB w2 (· < w.heap.size) (.slice A l.length c) l := Rd.below hv hB2
  have HL2 := Lib.hid hl2
  have HT8 := Lib.hid ht8
  have HK2 := Lib.hid hK2
  clear hl2 ht8 hK2 hK1 hG1 hG2 hHeld
  have z1 : ¬ l.length = 0 := fun h => hne (List.eq_nil_of_length_eq_zero h)
  have z2 : ¬ 8 + l.length = 8 := by omega
  have x1 : (bv l).length = Nat.min l.length l.length := by rw [bv_length]; exact (Nat.min_self _).symm
  have x2 : 0 < (bv l).length → ∃ ad, A = some ad ∧ ∀ j v, (bv l)[j]? = some v → w2.cell? (ad.add j) = some v := fun _ => by
    obtain ⟨ad, e1, _, e2⟩ := Rd.at_ hv2 (by omega)
    exact ⟨ad, e1, e2⟩
  have x3 : 8 + (bv l).length ≤ (bv L2).length := by rw [bv_length, bv_length, HL2.out]; omega
  have X1 := Lib.hid x1
  have X2 := Lib.hid x2
  have X3 := Lib.hid x3
  clear x1 x2 x3
  go_wp2_with (refine wpList_copy_splice (by rfl) (.tmp 38) (.tmp 39) 23 23 (by rfl) 5 Try.underlying23 infoB1 (some ⟨w.heap.size, 8, none⟩) A l.length l.length l.length c (by rfl) (by rfl) w.heap.size 8 (bv L2) 5 HK2.out (bv l) X1.out (fun h => ⟨rfl, X2.out h⟩) X3.out (bv_one _) w.heap.size w hB2 (Nat.le_refl _) ?_; intro w3 hK3 hB3)
  go_wp2_with fail
  go_ret2
  refine ⟨_, rfl, ?_, hB3⟩
  have h3 := hK3.out
  have e : splice (bv L2) 8 (bv l) = bv (frm l) := by
    unfold splice frm
    rw [bv_length, show 8 + l.length = (bv L2).length by rw [bv_length, HL2.out], List.drop_length, List.append_nil, ← List.append_assoc, bv_append, ← HT8.out]
    congr 1
    unfold bv; rw [List.map_take]
  rw [e] at h3
  have hlen : (frm l).length = 8 + l.length := by unfold frm; simp [be4_length]; omega
  unfold OwnB
  rw [hlen]
  refine ⟨by rw [bv_length, hlen, Nat.mul_one], .inr ⟨w.heap.size, 8 + l.length, _, rfl, Nat.le_refl _, h3, Nat.le_refl _, by unfold maxLen; omega, by simp [bv_length, hlen], ?_⟩⟩
  simp [List.take_of_length_le, bv_length, hlen]
end Go.Proofs.Ytooojgokkigncaa
