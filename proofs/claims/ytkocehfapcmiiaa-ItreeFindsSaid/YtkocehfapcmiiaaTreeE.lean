/-
  Trees in memory: first, remove.
-/
import Derived.Test.YtkocehfapcmiiaaTreeD
import Derived.Deep.LoopGhost
namespace Go.Proofs.Ytkocehfapcmiiaa
open Go.RowKit Go.Lib Go.IntWalk

/-- three cells at a row's head are stored -/
theorem three_store (w : World) (H : Nat) (x y z a b c : Value) (cs : Array Value) (ty : TypeId) (h : w.heap[H]? = some (.cells cs ty (0, 0))) (hx : cs[0]? = some x) (hy : cs[1]? = some y) (hz : cs[2]? = some z) :
    w.cell? ⟨H, 0, none⟩ = some x ∧ w.frozen? ⟨H, 0, none⟩ = false ∧ (w.setCell ⟨H, 0, none⟩ a).cell? ⟨H, 1, none⟩ = some y ∧ (w.setCell ⟨H, 0, none⟩ a).frozen? ⟨H, 1, none⟩ = false ∧
      ((w.setCell ⟨H, 0, none⟩ a).setCell ⟨H, 1, none⟩ b).cell? ⟨H, 2, none⟩ = some z ∧ ((w.setCell ⟨H, 0, none⟩ a).setCell ⟨H, 1, none⟩ b).frozen? ⟨H, 2, none⟩ = false ∧
      (((w.setCell ⟨H, 0, none⟩ a).setCell ⟨H, 1, none⟩ b).setCell ⟨H, 2, none⟩ c).cell? ⟨H, 0, none⟩ = some a ∧ (((w.setCell ⟨H, 0, none⟩ a).setCell ⟨H, 1, none⟩ b).setCell ⟨H, 2, none⟩ c).cell? ⟨H, 1, none⟩ = some b ∧
      (((w.setCell ⟨H, 0, none⟩ a).setCell ⟨H, 1, none⟩ b).setCell ⟨H, 2, none⟩ c).cell? ⟨H, 2, none⟩ = some c ∧ Chg (· = H) w (((w.setCell ⟨H, 0, none⟩ a).setCell ⟨H, 1, none⟩ b).setCell ⟨H, 2, none⟩ c) := by
  have h1 := heap_setCell_same w H 0 _ _ a h
  have h2 := heap_setCell_same _ H 1 _ _ b h1
  have h3 := heap_setCell_same _ H 2 _ _ c h2
  have hsz : 2 < cs.size := (Array.getElem?_eq_some_iff.1 hz).1
  have n0 : 0 < cs.size := by omega
  have n1 : 1 < cs.size := by omega
  refine ⟨(cell_of_row w _ 0 _ _ _ h).trans hx, frozen_of_row w _ 0 _ _ h, (cell_of_row _ _ 1 _ _ _ h1).trans ?_, frozen_of_row _ _ 1 _ _ h1, (cell_of_row _ _ 2 _ _ _ h2).trans ?_, frozen_of_row _ _ 2 _ _ h2, (cell_of_row _ _ 0 _ _ _ h3).trans ?_, (cell_of_row _ _ 1 _ _ _ h3).trans ?_, (cell_of_row _ _ 2 _ _ _ h3).trans ?_, ?_⟩
  · rw [Array.getElem?_setIfInBounds_ne (by omega)]; exact hy
  · rw [Array.getElem?_setIfInBounds_ne (by omega), Array.getElem?_setIfInBounds_ne (by omega)]; exact hz
  · rw [Array.getElem?_setIfInBounds_ne (by omega), Array.getElem?_setIfInBounds_ne (by omega), Array.getElem?_setIfInBounds_self_of_lt n0]
  · rw [Array.getElem?_setIfInBounds_ne (by omega), Array.getElem?_setIfInBounds_self_of_lt (by simpa using n1)]
  · rw [Array.getElem?_setIfInBounds_self_of_lt (by simpa using hsz)]
  exact Chg.setCell (S := (· = H)) (Chg.setCell (S := (· = H)) (Chg.setCell (S := (· = H)) (Chg.refl _ w) (.inl rfl) _) (.inl rfl) _) (.inl rfl) _

set_option maxRecDepth 100000 in
set_option maxHeartbeats 1000000 in
theorem first_any (t : Tr) (w : World) (ht : t.At w) (hne : t ≠ .nil) : Calls Try.prog 42 #[.pointer t.pa] w fun e' w' => e' = .returned (itV t.fst) ∧ Below w.heap.size w w' := by
  have hbW : Below w.heap.size w (w.alloc (.cells #[.int .i64 0, .int .i64 0, .int .i64 0] 30)) := Below.of_alloc _
  have hrow := heap_alloc_new w (.cells #[.int .i64 0, .int .i64 0, .int .i64 0] 30)
  have htW := ht.below hbW
  generalize hf : t.fst = f
  have HF := Lib.hid hf
  clear hf
  go_enter Try.func42, Try.ntmps42
  go_wp2_with fail
  obtain ⟨W, hW⟩ : ∃ W, W = w.alloc (.cells #[.int .i64 0, .int .i64 0, .int .i64 0] 30) := ⟨_, rfl⟩
  rw [← hW] at hbW hrow htW ⊢
  clear hW
  go_loopg [0] t.blocks.length (fun k i wr => ∃ s : Tr, s ≠ .nil ∧ i = .pointer s.pa ∧ s.At W ∧ s.fst = f ∧ s.blocks.length ≤ k ∧ wr = W)
  case atStart => exact ⟨t, hne, rfl, htW, HF.out, Nat.le_refl _, rfl⟩
  case round =>
    obtain ⟨s, hs, rfl, hA, hfs, hk, rfl⟩ := hrel
    cases s with
    | nil => exact absurd rfl hs
    | node b x l r h e =>
    rw [show (Tr.node b x l r h e).pa = some ⟨b, 0, none⟩ from rfl]
    obtain ⟨hr, hl, _⟩ := hA
    cases l with
    | nil =>
      have c3 : wr.cell? ⟨b, 3, none⟩ = some (.pointer none) := cell_of_row _ _ 3 _ _ _ hr
      have c0 : wr.cell? ⟨b, 0, none⟩ = some (.int .i64 x.fr) := cell_of_row _ _ 0 _ _ _ hr
      have c1 : wr.cell? ⟨b, 1, none⟩ = some (.int .i64 x.to) := cell_of_row _ _ 1 _ _ _ hr
      have c2 : wr.cell? ⟨b, 2, none⟩ = some (.int .i64 x.id) := cell_of_row _ _ 2 _ _ _ hr
      have HFX : Hid (x = f) := Lib.hid hfs
      obtain ⟨q0, q1, q2, q3, q4, q5, q6, q7, q8, q9⟩ := three_store wr w.heap.size (.int .i64 0) (.int .i64 0) (.int .i64 0) (.int .i64 x.fr) (.int .i64 x.to) (.int .i64 x.id) _ _ hrow rfl rfl rfl
      clear hfs hr hl hs
      go_wp2_with fail
      refine bodyPost_ret (v := itV x) (by simp [results, Try.results42, go_sem, q6, q7, q8]) rfl ?_
      exact ⟨by rw [HFX.out], hbW.trans (q9.below (by rw [show w.heap.size ≤ wr.heap.size ↔ True from iff_true_intro hbW.size]; trivial) (fun i hi => by omega))⟩
    | node c y l' r' h' e' =>
      have c3 : wr.cell? ⟨b, 3, none⟩ = some (.pointer (some ⟨c, 0, none⟩)) := cell_of_row _ _ 3 _ _ _ hr
      have HFS := Lib.hid hfs
      have HHL := Lib.hid hl
      clear hr hfs hl
      go_wp2_with fail
      go_roundg (Tr.node c y l' r' h' e').blocks.length
      case measure => simp only [Tr.blocks_node, List.length_cons, List.length_append] at hk ⊢; omega
      case rel => exact ⟨Tr.node c y l' r' h' e', (fun e => by cases e), rfl, HHL.out, HFS.out, Nat.le_refl _, rfl⟩
end Go.Proofs.Ytkocehfapcmiiaa
