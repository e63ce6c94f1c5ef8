/-
  A region in which an operation (last) ends what the others before it read; behind it nothing is asked any more. Plain lemmas.
-/
import Derived.Test.YtooojgokkigncaaBase
namespace Go.Proofs.Ytooojgokkigncaa
open Go.RowKit Go.Lib

section
variable {P : Program} {ops : Array Oper} {Q : Exit → Act → World → Prop} {md : Region.Mode} {S : World → Prop} {last : Nat}
/-- whatever order is picked: S holds as long as 'last' has not come up -/
def wpAnyU (P : Program) (md : Region.Mode) (ops : Array Oper) (Q : Exit → Act → World → Prop) (S : World → Prop) (last : Nat) : Nat → Array Bool → Act → World → Prop
  | 0, listed, a, w => Region.ready md ops listed = [] ∧ Q .normal a w
  | fuel + 1, listed, a, w =>
    (Region.ready md ops listed = [] → Q .normal a w) ∧
    ∀ i ∈ Region.ready md ops listed, wpOp P ops Q i (fun a' w' => if i = last then wpAny P md ops Q fuel (listed.setIfInBounds i true) a' w' else S w' ∧ wpAnyU P md ops Q S last fuel (listed.setIfInBounds i true) a' w') a w

theorem wpAny_of_U : ∀ (fuel : Nat) (listed : Array Bool) (a : Act) (w : World), wpAnyU P md ops Q S last fuel listed a w → wpAny P md ops Q fuel listed a w
  | 0, _, _, _, h => h
  | fuel + 1, _, _, _, h => ⟨h.1, fun i hi => wpOp_mono (fun a' w' h' => by
    split at h'
    · exact h'
    · exact wpAny_of_U fuel _ a' w' h'.2) (h.2 i hi)⟩

theorem wpAnyU_first {i : Nat} {oi : Oper} {v : Value} (hi : ops[i]? = some oi) (hsel : ∀ (j : Nat) (o : Oper) cs b, ops[j]? = some o → o.op ≠ .select cs b)
    (hQ : ∀ c a w, Q (.panic c) (a.put oi.dst v) w → Q (.panic c) a w) (hwt : waits md ops last i = true) (hil : i ≠ last) :
    ∀ (fuel : Nat) (listed : Array Bool) (a : Act) (w : World),
      (∀ j oj, ops[j]? = some oj → j ≠ i → listed.getD j true = false → (∀ e ∈ oj.after, Region.binds md e = true → e.on ≠ i) → oi.apart ops oj = true) →
      i ∈ Region.ready md ops listed → YieldsIf P ops S oi v a → S w →
      wpAnyU P md ops Q S last fuel (listed.setIfInBounds i true) (a.put oi.dst v) w → wpAnyU P md ops Q S last (fuel + 1) listed a w := by
  intro fuel
  induction fuel with
  | zero =>
    intro listed a w _ hr hy hS H
    refine ⟨fun h => (by rw [h] at hr; cases hr), fun j hj => ?_⟩
    by_cases hji : j = i
    · subst hji; exact hy.wpOp hi hS (by rw [if_neg hil]; exact ⟨hS, H⟩)
    · have := ready_mono hj hji
      rw [H.1] at this
      cases this
  | succ fuel ih =>
    intro listed a w hfree hr hy hS H
    refine ⟨fun h => (by rw [h] at hr; cases hr), fun j hj => ?_⟩
    by_cases hji : j = i
    · subst hji; exact hy.wpOp hi hS (by rw [if_neg hil]; exact ⟨hS, H⟩)
    · have h1 := H.2 j (ready_mono hj hji)
      obtain ⟨hjun, oj, hoj, hall⟩ := mem_ready.1 hj
      have hnot : ∀ e ∈ oj.after, Region.binds md e = true → e.on ≠ i := fun e he hb heq => by
        have h1 := hall e he hb
        have h0 := (mem_ready.1 hr).1
        rw [heq] at h1
        rcases Nat.lt_or_ge i listed.size with h' | h'
        · simp [h'] at h0 h1; rw [h0] at h1; cases h1
        · simp [Array.getElem?_eq_none h'] at h1
      have hjl : j ≠ last := by
        rintro rfl
        unfold waits at hwt
        rw [hoj] at hwt
        simp only [Array.any_eq_true', Bool.and_eq_true, beq_iff_eq] at hwt
        obtain ⟨e, he, hb, heq⟩ := hwt
        exact hnot e he hb heq
      have h2 := wpOp_putIf hoj (hfree j oj hoj hji hjun hnot) (fun cs b => hsel i oi cs b hi) (fun cs b => hsel j oj cs b hoj) hQ hy h1
      have hfree' : ∀ k ok, ops[k]? = some ok → k ≠ i → (listed.setIfInBounds j true).getD k true = false →
          (∀ e ∈ ok.after, Region.binds md e = true → e.on ≠ i) → oi.apart ops ok = true := fun k ok hk hki hun hno => by
        refine hfree k ok hk hki ?_ hno
        by_cases hjk : j = k
        · subst hjk; exact hjun
        · rw [getD_set_ne true hjk] at hun; exact hun
      refine wpOp_mono (fun a' w' h3 => ?_) h2
      have h4 := h3.2
      rw [if_neg hjl] at h4 ⊢
      refine ⟨h4.1, ih (listed.setIfInBounds j true) a' w' hfree' (ready_mono hr (Ne.symm hji)) h3.1 h4.1 ?_⟩
      rw [Array.setIfInBounds_comm _ _ hji]
      exact h4.2
theorem takeU (i : Nat) (dst : Option Tmp) {oi : Oper} {v : Value} {fuel : Nat} {listed : Array Bool} {a : Act} {w : World} (hi : ops.toList[i]? = some oi) (hd : oi.dst = dst) (hs : Region.noSelect ops = true) (hf : Region.free md ops listed i = true) (hr : (Region.ready md ops listed).contains i = true) (hwt : (waits md ops last i && i != last) = true)
    (hw : Region.wanted oi (yielded ops a.tmps) = true) (hS : S w) (hQ : ∀ c a w, Q (.panic c) (a.put dst v) w → Q (.panic c) a w) (hy : ∀ w, S w → (execOp a.eval oi).run P w = .ok (.value v) w)
    (h : wpAnyU P md ops Q S last fuel (listed.setIfInBounds i true) (a.put dst v) w) : wpAnyU P md ops Q S last (fuel + 1) listed a w := by
  subst hd
  simp only [Bool.and_eq_true, bne_iff_ne] at hwt
  have hi' : ops[i]? = some oi := by rw [← Array.getElem?_toList]; exact hi
  exact wpAnyU_first hi' (Region.noSelect_spec hs) hQ hwt.1 hwt.2 fuel listed a w (Region.free_spec hi' hf) (by simpa using hr) (.inl ⟨hw, hy⟩) hS h
theorem skipU (i : Nat) (dst : Option Tmp) {oi : Oper} {fuel : Nat} {listed : Array Bool} {a : Act} {w : World} (hi : ops.toList[i]? = some oi) (hd : oi.dst = dst) (hs : Region.noSelect ops = true) (hf : Region.free md ops listed i = true) (hr : (Region.ready md ops listed).contains i = true) (hwt : (waits md ops last i && i != last) = true)
    (hw : Region.wanted oi (yielded ops a.tmps) = false) (hS : S w) (hQ : ∀ c a w, Q (.panic c) (a.put dst undef) w → Q (.panic c) a w)
    (h : wpAnyU P md ops Q S last fuel (listed.setIfInBounds i true) (a.put dst undef) w) : wpAnyU P md ops Q S last (fuel + 1) listed a w := by
  subst hd
  simp only [Bool.and_eq_true, bne_iff_ne] at hwt
  have hi' : ops[i]? = some oi := by rw [← Array.getElem?_toList]; exact hi
  exact wpAnyU_first hi' (Region.noSelect_spec hs) hQ hwt.1 hwt.2 fuel listed a w (Region.free_spec hi' hf) (by simpa using hr) (.inr ⟨hw, rfl⟩) hS h
theorem lastU {fuel : Nat} {listed : Array Bool} {a : Act} {w : World} (hr : Region.ready md ops listed = [last]) (h : wpOp P ops Q last (wpAny P md ops Q fuel (listed.setIfInBounds last true)) a w) : wpAnyU P md ops Q S last (fuel + 1) listed a w := by
  refine ⟨fun h0 => (by rw [hr] at h0; cases h0), fun k hk => ?_⟩
  rw [hr, List.mem_singleton] at hk
  subst hk
  refine wpOp_mono (fun a' w' h' => ?_) h
  rw [if_pos rfl]
  exact h'
theorem forkU1 (i : Nat) {fuel : Nat} {listed : Array Bool} {a : Act} {w : World} (hr : Region.ready md ops listed = [i]) (hil : i ≠ last)
    (h : wpOp P ops Q i (fun a' w' => S w' ∧ wpAnyU P md ops Q S last fuel (listed.setIfInBounds i true) a' w') a w) : wpAnyU P md ops Q S last (fuel + 1) listed a w := by
  refine ⟨fun h0 => (by rw [hr] at h0; cases h0), fun k hk => ?_⟩
  rw [hr, List.mem_singleton] at hk
  subst hk
  rw [show (fun a' w' => if k = last then wpAny P md ops Q fuel (listed.setIfInBounds k true) a' w' else S w' ∧ wpAnyU P md ops Q S last fuel (listed.setIfInBounds k true) a' w') = (fun a' w' => S w' ∧ wpAnyU P md ops Q S last fuel (listed.setIfInBounds k true) a' w') from by simp [hil]]
  exact h
theorem forkU2 (i : Nat) {fuel : Nat} {listed : Array Bool} {a : Act} {w : World} (hr : Region.ready md ops listed = [i, last] ∨ Region.ready md ops listed = [last, i]) (hil : i ≠ last)
    (h : wpOp P ops Q i (fun a' w' => S w' ∧ wpAnyU P md ops Q S last fuel (listed.setIfInBounds i true) a' w') a w)
    (h2 : wpOp P ops Q last (wpAny P md ops Q fuel (listed.setIfInBounds last true)) a w) : wpAnyU P md ops Q S last (fuel + 1) listed a w := by
  refine ⟨fun h0 => (by rcases hr with hr | hr <;> (rw [hr] at h0; cases h0)), fun k hk => ?_⟩
  have hk' : k = i ∨ k = last := by
    rcases hr with hr | hr <;> (rw [hr] at hk; simpa [or_comm] using hk)
  rcases hk' with rfl | rfl
  · rw [show (fun a' w' => if k = last then wpAny P md ops Q fuel (listed.setIfInBounds k true) a' w' else S w' ∧ wpAnyU P md ops Q S last fuel (listed.setIfInBounds k true) a' w') = (fun a' w' => S w' ∧ wpAnyU P md ops Q S last fuel (listed.setIfInBounds k true) a' w') from by simp [hil]]
    exact h
  · refine wpOp_mono (fun a' w' h' => ?_) h2
    rw [if_pos rfl]
    exact h'
theorem beginU {id : Nat} {a : Act} {w : World} (last : Nat) (hm : P.follows .mixedOrders = true) (hS : S w.drew)
    (h : S w.drew → wpAnyU P .any ops Q S last ops.size (Array.replicate ops.size false) a w.drew) : (Code.region id ops true).wp P Q a w :=
  wp_region_any hm (wpAny_of_U _ _ _ _ (h hS))
end
end Go.Proofs.Ytooojgokkigncaa
