/-
  The moves of a walk through a region whose order is open, each operation's place and slot written out. Plain lemmas.
-/
import Derived.Test.YtooojgokkigncaaMem2
import Derived.Deep.RegionHeld3
namespace Go.Proofs.Ytooojgokkigncaa
open Go.RowKit Go.Lib

theorem keepAnd {p q : Prop} (hp : p) (hq : p → q) : p ∧ q := ⟨hp, hq hp⟩

section
variable {P : Program} {ops : Array Oper} {Q : Exit → Act → World → Prop} {md : Region.Mode} {S : World → Prop} {fuel : Nat} {listed : Array Bool} {a : Act} {w : World}
theorem heldTake (i : Nat) (dst : Option Tmp) {oi : Oper} {v : Value} (hi : ops.toList[i]? = some oi) (hd : oi.dst = dst) (hs : Region.noSelect ops = true) (hf : Region.free md ops listed i = true) (hr : (Region.ready md ops listed).contains i = true)
    (hw : Region.wanted oi (yielded ops a.tmps) = true) (hS : S w) (hQ : ∀ c a w, Q (.panic c) (a.put dst v) w → Q (.panic c) a w) (hy : ∀ w, S w → (execOp a.eval oi).run P w = .ok (.value v) w)
    (h : wpAnyH P md ops Q S fuel (listed.setIfInBounds i true) (a.put dst v) w) : wpAnyH P md ops Q S (fuel + 1) listed a w := by
  subst hd
  exact wpAnyH_take (by rw [← Array.getElem?_toList]; exact hi) hs hf hr hQ (.inl ⟨hw, hy⟩) hS h
theorem heldSkip (i : Nat) (dst : Option Tmp) {oi : Oper} (hi : ops.toList[i]? = some oi) (hd : oi.dst = dst) (hs : Region.noSelect ops = true) (hf : Region.free md ops listed i = true) (hr : (Region.ready md ops listed).contains i = true)
    (hw : Region.wanted oi (yielded ops a.tmps) = false) (hS : S w) (hQ : ∀ c a w, Q (.panic c) (a.put dst undef) w → Q (.panic c) a w)
    (h : wpAnyH P md ops Q S fuel (listed.setIfInBounds i true) (a.put dst undef) w) : wpAnyH P md ops Q S (fuel + 1) listed a w := by
  subst hd
  exact wpAnyH_take (by rw [← Array.getElem?_toList]; exact hi) hs hf hr hQ (.inr ⟨hw, rfl⟩) hS h
theorem heldOp (i : Nat) {oi : Oper} (hi : ops.toList[i]? = some oi) (hr : Region.ready md ops listed = [i]) (hw : Region.wanted oi (yielded ops a.tmps) = true)
    (h : oi.wp P a w (fun a' w' => S w' ∧ wpAnyH P md ops Q S fuel (listed.setIfInBounds i true) a' w') Q) : wpAnyH P md ops Q S (fuel + 1) listed a w := by
  refine ⟨fun h0 => (by rw [hr] at h0; cases h0), fun j hj => ?_⟩
  rw [hr, List.mem_singleton] at hj
  subst hj
  have hi' : ops[j]? = some oi := by rw [← Array.getElem?_toList]; exact hi
  unfold wpOp
  simp only [hi', hw, if_true]
  exact .inl h
theorem heldCall (i : Nat) (dst : Option Tmp) {oi : Oper} {f : FuncId} {args : Array Value} (hi : ops.toList[i]? = some oi) (hd : oi.dst = dst) (hr : Region.ready md ops listed = [i]) (hw : Region.wanted oi (yielded ops a.tmps) = true)
    (hrun : (execOp a.eval oi).run P w = .ok (.enter f args) w)
    (h : Calls P f args w fun e w' => ∃ v, e = .returned v ∧ S w' ∧ wpAnyH P md ops Q S fuel (listed.setIfInBounds i true) (a.put dst v) w') : wpAnyH P md ops Q S (fuel + 1) listed a w := by
  subst hd
  refine heldOp i hi hr hw ?_
  unfold Oper.wp
  rw [hrun]
  refine h.mono fun e w' ⟨v, he, hS, hh⟩ => ?_
  subst he
  exact ⟨hS, hh⟩
theorem heldRun (i : Nat) (dst : Option Tmp) {oi : Oper} {v : Value} {w' : World} (hi : ops.toList[i]? = some oi) (hd : oi.dst = dst) (hr : Region.ready md ops listed = [i]) (hw : Region.wanted oi (yielded ops a.tmps) = true)
    (hrun : (execOp a.eval oi).run P w = .ok (.value v) w') (hS : S w')
    (h : wpAnyH P md ops Q S fuel (listed.setIfInBounds i true) (a.put dst v) w') : wpAnyH P md ops Q S (fuel + 1) listed a w := by
  subst hd
  refine heldOp i hi hr hw ?_
  unfold Oper.wp
  rw [hrun]
  exact ⟨hS, h⟩
end
end Go.Proofs.Ytooojgokkigncaa
