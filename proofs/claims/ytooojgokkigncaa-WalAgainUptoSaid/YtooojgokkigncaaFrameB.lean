/-
  Frames: four bytes of a number, put and got.
-/
import Derived.Test.YtooojgokkigncaaFrameA
import Derived.Test.YtooojgokkigncaaMem2
namespace Go.Proofs.Ytooojgokkigncaa
open Go.RowKit Go.Lib Go.IntWalk

/-- block g holds just these bytes -/
def BlkB (w : World) (g : Nat) (L : List UInt8) : Prop := w.heap[g]? = some (.cells (bv L).toArray 5 (0, 0))
theorem BlkB.lt {w : World} {g : Nat} {L : List UInt8} (h : BlkB w g L) : g < w.heap.size := (Array.getElem?_eq_some_iff.1 h).1
theorem BlkB.cell {w : World} {g : Nat} {L : List UInt8} (h : BlkB w g L) {i : Nat} (hi : i < L.length) : w.cell? ⟨g, i, none⟩ = some (.int .u8 (L[i].toNat : Int)) := by
  rw [cell_of_row w g i _ _ _ h]
  simpa using bv_get hi
theorem bv_set (L : List UInt8) (i : Nat) (x : UInt8) : (bv L).set i (.int .u8 (x.toNat : Int)) = bv (L.set i x) := by unfold bv; rw [List.map_set]
theorem BlkB.set {w : World} {g : Nat} {L : List UInt8} (h : BlkB w g L) (i : Nat) (x : UInt8) (y : Int) (hy : y = (x.toNat : Int)) : BlkB (w.setCell ⟨g, i, none⟩ (.int .u8 y)) g (L.set i x) := by
  subst hy
  unfold BlkB at *
  rw [← bv_set]
  simp [World.setCell, Array.getElem?_modify, h]
theorem grown_set (w : World) (g i : Nat) (v : Value) : w.grownBy (w.setCell ⟨g, i, none⟩ v) (some g) := by
  refine ⟨rfl, rfl, rfl, by simp, fun k hk hne => ?_⟩
  have : g ≠ k := fun e => hne (by rw [e])
  simp [World.setCell, Array.getElem?_modify, this]
theorem grown_trans {a b c : World} {g : Nat} (h : a.grownBy b (some g)) (k : b.grownBy c (some g)) : a.grownBy c (some g) :=
  ⟨k.os.trans h.os, k.tape.trans h.tape, k.output.trans h.output, Nat.le_trans h.size k.size, fun i hi hne => (k.block i (Nat.lt_of_lt_of_le hi h.size) hne).trans (h.block i hi hne)⟩
def be4 (x : Nat) : List UInt8 := [24, 16, 8, 0].map fun s => UInt8.ofNat (x / 2 ^ s % 256)
theorem be4_length (x : Nat) : (be4 x).length = 4 := rfl
def putN (L : List UInt8) (o x k : Nat) : List UInt8 := L.take o ++ ((be4 x).take k ++ L.drop (o + k))
theorem putN_zero (L : List UInt8) (o x : Nat) : putN L o x 0 = L := by simp [putN]
theorem putN_length {L : List UInt8} {o x k : Nat} (h : o + 4 ≤ L.length) (hk : k ≤ 4) : (putN L o x k).length = L.length := by
  simp only [putN, List.length_append, List.length_take, List.length_drop, be4_length]; omega
theorem be4_get (x : Nat) {k : Nat} (hk : k < 4) : (be4 x)[k]? = some (UInt8.ofNat (x / 2 ^ (24 - 8 * k) % 256)) := by
  have h : k = 0 ∨ k = 1 ∨ k = 2 ∨ k = 3 := by omega
  rcases h with rfl | rfl | rfl | rfl <;> rfl
theorem putN_get {L : List UInt8} {o x k j : Nat} (h : o + 4 ≤ L.length) (hk : k ≤ 4) : (putN L o x k)[j]? = if j < o then L[j]? else if j < o + k then (be4 x)[j - o]? else L[j]? := by
  have h1 : (L.take o).length = o := by rw [List.length_take]; omega
  have h2 : ((be4 x).take k).length = k := by rw [List.length_take, be4_length]; omega
  unfold putN
  by_cases c1 : j < o
  · rw [if_pos c1, List.getElem?_append_left (by omega), List.getElem?_take, if_pos c1]
  · rw [if_neg c1, List.getElem?_append_right (by omega), h1]
    by_cases c2 : j < o + k
    · rw [if_pos c2, List.getElem?_append_left (by omega), List.getElem?_take, if_pos (by omega)]
    · rw [if_neg c2, List.getElem?_append_right (by omega), h2, List.getElem?_drop]
      congr 1
      omega
theorem putN_step {L : List UInt8} {o x k : Nat} (h : o + 4 ≤ L.length) (hk : k < 4) : (putN L o x k).set (o + k) (UInt8.ofNat (x / 2 ^ (24 - 8 * k) % 256)) = putN L o x (k + 1) := by
  apply List.ext_getElem?
  intro j
  rw [List.getElem?_set, putN_length h (by omega), putN_get h (by omega), putN_get h (by omega)]
  by_cases hj : o + k = j
  · subst hj
    rw [if_pos rfl, if_pos (by omega), if_neg (by omega), if_pos (by omega), show o + k - o = k by omega, be4_get x hk]
  · rw [if_neg hj]
    by_cases c1 : j < o
    · rw [if_pos c1, if_pos c1]
    · rw [if_neg c1, if_neg c1]
      by_cases c2 : j < o + k
      · rw [if_pos c2, if_pos (by omega)]
      · rw [if_neg c2, if_neg (by omega)]
theorem be4_byte (x k : Nat) : ((x : Int) / 2 ^ (24 - 8 * k)) % 256 = ((UInt8.ofNat (x / 2 ^ (24 - 8 * k) % 256)).toNat : Int) := by
  rw [← byte_of (by omega)]
  simp
def PutRel (g o x : Nat) (L : List UInt8) (w0 : World) (i : Value) (w : World) : Prop :=
  ∃ k : Nat, k ≤ 4 ∧ i = .int .i64 k ∧ BlkB w g (putN L o x k) ∧ w0.grownBy w (some g)
def Put4 (g o x : Nat) (L : List UInt8) (w0 : World) (e : Ending) (w : World) : Prop := ∃ v, e = .returned v ∧ BlkB w g (putN L o x 4) ∧ w0.grownBy w (some g)

set_option maxRecDepth 100000 in
set_option maxHeartbeats 1000000 in
theorem put4_any (g o n c x : Nat) (L : List UInt8) (w : World) (hg : BlkB w g L) (ho : o + 4 ≤ L.length) (hn : 4 ≤ n) :
    Calls Try.prog 68 #[.slice (some ⟨g, o, none⟩) n c, .int .u32 (x : Int)] w (Put4 g o x L w) := by
  have HG := Lib.hid hg
  clear hg
  have hn' : (4 : Int) ≤ (n : Int) := by omega
  go_enter Try.func68, Try.ntmps68
  go_wp2_with fail
  go_loopw [5] (fun i wr => PutRel g o x L w i wr) (fun i _ => 4 - (intOf i).toNat)
  case atStart => exact ⟨0, by omega, rfl, by rw [putN_zero]; exact HG.out, World.grownBy.refl _ _⟩
  case round =>
    clear HG
    obtain ⟨k, hk, rfl, hB, hgr⟩ := hrel
    obtain ⟨wo, rfl⟩ : ∃ wo : World, wo = wr := ⟨_, rfl⟩
    by_cases hlt : k < 4
    · have hl := putN_length (x := x) ho hk
      have hc := hB.cell (i := o + k) (by omega)
      have hfz : ∀ j, wo.frozen? ⟨g, j, none⟩ = false := fun j => by unfold BlkB at hB; simp [World.frozen?, hB]
      have hend := Lib.hid (fun y hy => (hB.set (o + k) (UInt8.ofNat (x / 2 ^ (24 - 8 * k) % 256)) y hy))
      rw [putN_step ho hlt] at hend
      generalize (putN L o x k)[o + k] = old at *
      have hgr' := Lib.hid hgr
      have hB' := Lib.hid hB
      clear hB hgr hl
      have i1 : (0 : Int) ≤ (k : Int) := by omega
      have i2 : (k : Int) < (n : Int) := by omega
      have i3 : (0 : Int) ≤ 24 - 8 * (k : Int) := by omega
      go_wp2_with fail
      go_roundw
      case rel => exact ⟨k + 1, by omega, by go_num, hend.out _ (be4_byte x k), grown_trans hgr'.out (grown_set _ _ _ _)⟩
      case measure => simp [intOf]; omega
    · have hk4 : k = 4 := by omega
      subst hk4
      have HB := Lib.hid hB
      have HR := Lib.hid hgr
      clear hB hgr
      go_wp2_with fail
      go_end0
      exact ⟨_, rfl, HB.out, HR.out⟩
end Go.Proofs.Ytooojgokkigncaa
