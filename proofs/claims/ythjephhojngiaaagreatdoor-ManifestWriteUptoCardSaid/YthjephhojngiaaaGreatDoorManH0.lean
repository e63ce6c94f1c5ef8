/-
  Manifests: equality of bytes; whether a manifest is large.
-/
import Derived.Test.YthjephhojngiaaaGreatDoorManG
namespace Go.Proofs.YthjephhojngiaaaGreatDoor
open Go.RowKit Go.Lib Go.IntWalk

def ssum (l : List (List UInt8)) : Nat := (l.map List.length).sum
theorem ssum_succ {l : List (List UInt8)} {k : Nat} {x : List UInt8} (hk : l[k]? = some x) : ssum (l.take (k + 1)) = ssum (l.take k) + x.length := by
  rw [take_snoc hk]; simp [ssum]
theorem ssum_take (l : List (List UInt8)) (k : Nat) : ssum (l.take k) ≤ ssum l := by
  have h := congrArg ssum (List.take_append_drop k l)
  simp only [ssum, List.map_append, List.sum_append] at *
  omega
/-- how much a manifest holds -/
def mSize (m : Man) : Nat := m.segs.length + m.base.length + m.log.length + ssum m.segs
def LargeOut (m : Man) (w0 : World) (e : Ending) (w : World) : Prop := ∃ b : Bool, e = .returned (.bool b) ∧ Hid (b = false → mSize m ≤ 3000) ∧ Below w0.heap.size w0 w
set_option maxRecDepth 100000 in
set_option maxHeartbeats 4000000 in
theorem large_any (F : Nat → Prop) (As : Option Addr) (cs : Nat) (m : Man) (w : World) (h : Rd w F 1 (.slice As m.segs.length cs) m.segs.length (sv m.segs)) (hF : ∀ b, F b → b < w.heap.size) (hsm : mSize m ≤ 4194304) :
    Calls Tryz.prog 11 #[manV As cs m] w (LargeOut m w) := by
  obtain ⟨W, hW⟩ : ∃ W, W = w.alloc (.cells #[.string (strB m.base), .slice As m.segs.length cs, .string (strB m.log), .int .i64 m.tx, .int .i64 m.nx] 25) := ⟨_, rfl⟩
  have hbW : Below w.heap.size w W := by rw [hW]; exact Below.of_alloc _
  have hsW : w.heap.size < W.heap.size := by rw [hW]; simp
  have hPW : W.heap[w.heap.size]? = some (.cells #[.string (strB m.base), .slice As m.segs.length cs, .string (strB m.log), .int .i64 m.tx, .int .i64 m.nx] 25 (0, 0)) := by rw [hW]; exact heap_alloc_new w _
  have c0 : W.cell? ⟨w.heap.size, 0, none⟩ = some (.string (strB m.base)) := cell_of_row _ _ 0 _ _ _ hPW
  have c1 : W.cell? ⟨w.heap.size, 1, none⟩ = some (.slice As m.segs.length cs) := cell_of_row _ _ 1 _ _ _ hPW
  have c2 : W.cell? ⟨w.heap.size, 2, none⟩ = some (.string (strB m.log)) := cell_of_row _ _ 2 _ _ _ hPW
  have c3 : W.cell? ⟨w.heap.size, 3, none⟩ = some (.int .i64 m.tx) := cell_of_row _ _ 3 _ _ _ hPW
  have c4 : W.cell? ⟨w.heap.size, 4, none⟩ = some (.int .i64 m.nx) := cell_of_row _ _ 4 _ _ _ hPW
  have hr : Rd W F 1 (.slice As m.segs.length cs) m.segs.length (sv m.segs) := h.keep fun b hb => hbW.block b (hF b hb)
  rw [hW] at c0 c1 c2
  have d1 : W.cell? ⟨w.heap.size, 1, none⟩ = some (.slice As m.segs.length cs) := by rw [hW]; exact c1
  have HW := Lib.hid hW
  have hsb := strB_size m.base
  have hsl := strB_size m.log
  have HBW := Lib.hid hbW
  have HMS := Lib.hid (show mSize m = m.segs.length + m.base.length + m.log.length + ssum m.segs from rfl)
  obtain ⟨N, hNe⟩ : ∃ N, N = mSize m := ⟨_, rfl⟩
  have HNE := Lib.hid hNe
  have hN : N = m.segs.length + m.base.length + m.log.length + ssum m.segs := hNe.trans HMS.out
  rw [← hNe] at hsm
  clear hNe
  clear hW hPW h hF hbW c3 c4
  go_enter Tryz.func11, Tryz.ntmps11
  go_wp2_with fail
  rw [← HW.out]
  clear c0 c1 c2
  go_loopw [3, 4] (fun n i wr => ∃ k : Nat, k ≤ m.segs.length ∧ i = .int .i64 (k : Int) ∧ n = .int .i64 ((m.segs.length + m.base.length + m.log.length + ssum (m.segs.take k) : Nat) : Int) ∧ wr = W) (fun _ i _ => m.segs.length - (intOf i).toNat)
  case atStart => exact ⟨0, Nat.zero_le _, rfl, by simp [ssum], rfl⟩
  case round =>
    obtain ⟨k, hk, rfl, rfl, rfl⟩ := hrel
    have hst := ssum_take m.segs k
    by_cases hlt : k < m.segs.length
    case pos =>
      have hga : m.segs[k]? = some m.segs[k] := List.getElem?_eq_getElem hlt
      obtain ⟨ba, oa, rfl, _, a0⟩ := RdS.elem hr hga
      have HSS := Lib.hid (ssum_succ hga)
      have hst2 := ssum_take m.segs (k + 1)
      rw [ssum_succ hga] at hst2
      clear hga
      generalize m.segs[k] = x at *
      have hsx := strB_size x
      generalize ssum (m.segs.take k) = q at *
      by_cases hq : m.segs.length + m.base.length + m.log.length + q ≤ 3000
      · go_wp2_with fail
        go_roundw
        case rel => exact ⟨k + 1, by omega, by go_num, by rw [HSS.out]; go_num, by trivial⟩
        case measure => simp [intOf]; omega
      · go_wp2_with fail
        go_ret
        exact ⟨true, by first | (simp; done) | (simp; omega), Lib.hid (fun h => by cases h), HBW.out⟩
    case neg =>
    obtain rfl : k = m.segs.length := by omega
    rw [List.take_length, ← hN]
    clear hst hN
    go_wp2_with fail
    go_ret
    exact ⟨decide (3000 < (N : Int)), rfl, Lib.hid (fun h => by rw [← HNE.out]; have := of_decide_eq_false h; omega), HBW.out⟩
end Go.Proofs.YthjephhojngiaaaGreatDoor
