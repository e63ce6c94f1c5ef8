/-
  Balanced trees of items: plain definitions and laws.
-/
import Derived.Test.YtkocehfapcmiiaaBase
namespace Go.Proofs.Ytkocehfapcmiiaa
open Go.RowKit Go.Lib

/-- an item: a period and a number -/
structure It where
  fr : Int
  to : Int
  id : Int
theorem It.ext' {a b : It} (h1 : a.fr = b.fr) (h2 : a.to = b.to) (h3 : a.id = b.id) : a = b := by cases a; cases b; simp_all
instance : DecidableEq It := fun a b => if h : a.fr = b.fr ∧ a.to = b.to ∧ a.id = b.id then .isTrue (It.ext' h.1 h.2.1 h.2.2) else .isFalse (fun e => h (by subst e; exact ⟨rfl, rfl, rfl⟩))
def ltI (a b : It) : Prop := a.fr < b.fr ∨ (a.fr = b.fr ∧ (a.to < b.to ∨ (a.to = b.to ∧ a.id < b.id)))
instance (a b : It) : Decidable (ltI a b) := by unfold ltI; exact inferInstance
def cmpI (a b : It) : Int :=
  if a.fr < b.fr then -1 else if b.fr < a.fr then 1 else if a.to < b.to then -1 else if b.to < a.to then 1 else if a.id < b.id then -1 else if b.id < a.id then 1 else 0
theorem cmpI_cases (a b : It) : (cmpI a b = -1 ∧ ltI a b) ∨ (cmpI a b = 1 ∧ ltI b a) ∨ (cmpI a b = 0 ∧ a = b) := by
  unfold cmpI ltI
  by_cases h1 : a.fr < b.fr
  · rw [if_pos h1]; exact .inl ⟨rfl, .inl h1⟩
  rw [if_neg h1]
  by_cases h2 : b.fr < a.fr
  · rw [if_pos h2]; exact .inr (.inl ⟨rfl, .inl h2⟩)
  rw [if_neg h2]
  by_cases h3 : a.to < b.to
  · rw [if_pos h3]; exact .inl ⟨rfl, .inr ⟨by omega, .inl h3⟩⟩
  rw [if_neg h3]
  by_cases h4 : b.to < a.to
  · rw [if_pos h4]; exact .inr (.inl ⟨rfl, .inr ⟨by omega, .inl h4⟩⟩)
  rw [if_neg h4]
  by_cases h5 : a.id < b.id
  · rw [if_pos h5]; exact .inl ⟨rfl, .inr ⟨by omega, .inr ⟨by omega, h5⟩⟩⟩
  rw [if_neg h5]
  by_cases h6 : b.id < a.id
  · rw [if_pos h6]; exact .inr (.inl ⟨rfl, .inr ⟨by omega, .inr ⟨by omega, h6⟩⟩⟩)
  rw [if_neg h6]
  exact .inr (.inr ⟨rfl, It.ext' (by omega) (by omega) (by omega)⟩)
theorem ltI_irrefl (a : It) : ¬ ltI a a := by unfold ltI; omega
theorem ltI_trans {a b c : It} (h : ltI a b) (k : ltI b c) : ltI a c := by unfold ltI at *; omega
theorem ltI_asymm {a b : It} (h : ltI a b) : ¬ ltI b a := fun k => ltI_irrefl a (ltI_trans h k)
theorem ltI_ne {a b : It} (h : ltI a b) : a ≠ b := fun e => by subst e; exact ltI_irrefl a h
theorem ltI_tri (a b : It) : ltI a b ∨ a = b ∨ ltI b a := by
  rcases cmpI_cases a b with h | h | h
  · exact .inl h.2
  · exact .inr (.inr h.2)
  · exact .inr (.inl h.2)
def srtI (l : List It) : Prop := l.Pairwise ltI

/-- a tree, each node with its block -/
inductive Tr where
  | nil
  | node (b : Nat) (x : It) (l r : Tr) (h e : Int)
namespace Tr
def pa : Tr → Option Addr
  | nil => none
  | node b _ _ _ _ _ => some ⟨b, 0, none⟩
abbrev ptr (t : Tr) : Value := .pointer t.pa
def blocks : Tr → List Nat
  | nil => []
  | node b _ l r _ _ => b :: (blocks l ++ blocks r)
def items : Tr → List It
  | nil => []
  | node _ x l r _ _ => items l ++ x :: items r
def ht : Tr → Int
  | nil => 0
  | node _ _ _ _ h _ => h
def en : Tr → Int
  | nil => 0
  | node _ _ _ _ _ e => e
/-- a node whose fields fit its children -/
def mk (b : Nat) (x : It) (l r : Tr) : Tr := node b x l r (1 + max l.ht r.ht) (max x.to (max l.en r.en))
def Ok : Tr → Prop
  | nil => True
  | node _ x l r h e => h = 1 + max l.ht r.ht ∧ e = max x.to (max l.en r.en) ∧ l.ht - r.ht ≤ 1 ∧ r.ht - l.ht ≤ 1 ∧ Ok l ∧ Ok r
/-- the left child becomes the root -/
def rotR (b : Nat) (x : It) : Tr → Tr → Tr
  | node c y ll lr _ _, r => mk c y ll (mk b x lr r)
  | nil, r => mk b x nil r
/-- the right child becomes the root -/
def rotL (b : Nat) (x : It) (l : Tr) : Tr → Tr
  | node c y rl rr _ _ => mk c y (mk b x l rl) rr
  | nil => mk b x l nil
def lf : Tr → Tr
  | nil => nil
  | node _ _ l _ _ _ => l
def rt : Tr → Tr
  | nil => nil
  | node _ _ _ r _ _ => r
/-- rotL at a tree -/
def rotLT : Tr → Tr
  | nil => nil
  | node b x l r _ _ => rotL b x l r
def rotRT : Tr → Tr
  | nil => nil
  | node b x l r _ _ => rotR b x l r
def bal (b : Nat) (x : It) (l r : Tr) : Tr :=
  if 1 < l.ht - r.ht then rotR b x (if l.lf.ht < l.rt.ht then rotLT l else l) r
  else if l.ht - r.ht < -1 then rotL b x l (if r.rt.ht < r.lf.ht then rotRT r else r)
  else mk b x l r
def ins (nb : Nat) (x : It) : Tr → Tr
  | nil => bal nb x nil nil
  | node b y l r _ _ => if 0 < cmpI y x then bal b y (ins nb x l) r else bal b y l (ins nb x r)
def fst : Tr → It
  | nil => ⟨0, 0, 0⟩
  | node _ x nil _ _ _ => x
  | node _ _ l _ _ _ => fst l
def isNil : Tr → Bool
  | nil => true
  | node _ _ _ _ _ _ => false
def rem : Tr → It → Tr
  | nil, _ => nil
  | node b y l r _ _, x =>
    if 0 < cmpI y x then bal b y (rem l x) r
    else if cmpI y x < 0 then bal b y l (rem r x)
    else if l.isNil then r else if r.isNil then l else bal b (fst r) l (rem r (fst r))

theorem ht_nil : nil.ht = 0 := rfl
theorem ht_node (b : Nat) (x : It) (l r : Tr) (h e : Int) : (node b x l r h e).ht = h := rfl
theorem en_nil : nil.en = 0 := rfl
theorem en_node (b : Nat) (x : It) (l r : Tr) (h e : Int) : (node b x l r h e).en = e := rfl
theorem ht_mk (b : Nat) (x : It) (l r : Tr) : (mk b x l r).ht = 1 + max l.ht r.ht := rfl
theorem en_mk (b : Nat) (x : It) (l r : Tr) : (mk b x l r).en = max x.to (max l.en r.en) := rfl
theorem lf_node (b : Nat) (x : It) (l r : Tr) (h e : Int) : (node b x l r h e).lf = l := rfl
theorem rt_node (b : Nat) (x : It) (l r : Tr) (h e : Int) : (node b x l r h e).rt = r := rfl
theorem items_mk (b : Nat) (x : It) (l r : Tr) : (mk b x l r).items = l.items ++ x :: r.items := rfl
theorem items_node (b : Nat) (x : It) (l r : Tr) (h e : Int) : (node b x l r h e).items = l.items ++ x :: r.items := rfl
theorem blocks_mk (b : Nat) (x : It) (l r : Tr) : (mk b x l r).blocks = b :: (l.blocks ++ r.blocks) := rfl
theorem blocks_node (b : Nat) (x : It) (l r : Tr) (h e : Int) : (node b x l r h e).blocks = b :: (l.blocks ++ r.blocks) := rfl
theorem rotR_mk (b c : Nat) (x y : It) (ll lr r : Tr) : rotR b x (mk c y ll lr) r = mk c y ll (mk b x lr r) := rfl
theorem rotL_mk (b c : Nat) (x y : It) (l rl rr : Tr) : rotL b x l (mk c y rl rr) = mk c y (mk b x l rl) rr := rfl
theorem rotR_node (b c : Nat) (x y : It) (ll lr r : Tr) (h e : Int) : rotR b x (node c y ll lr h e) r = mk c y ll (mk b x lr r) := rfl
theorem rotL_node (b c : Nat) (x y : It) (l rl rr : Tr) (h e : Int) : rotL b x l (node c y rl rr h e) = mk c y (mk b x l rl) rr := rfl
theorem rotLT_node (b : Nat) (x : It) (l r : Tr) (h e : Int) : rotLT (node b x l r h e) = rotL b x l r := rfl
theorem rotRT_node (b : Nat) (x : It) (l r : Tr) (h e : Int) : rotRT (node b x l r h e) = rotR b x l r := rfl
theorem ok_mk {b : Nat} {x : It} {l r : Tr} : (mk b x l r).Ok ↔ l.ht - r.ht ≤ 1 ∧ r.ht - l.ht ≤ 1 ∧ l.Ok ∧ r.Ok := ⟨fun h => h.2.2, fun h => ⟨rfl, rfl, h⟩⟩
theorem Ok.nonneg : ∀ {t : Tr}, t.Ok → 0 ≤ t.ht
  | nil, _ => Int.le_refl _
  | node _ _ l r _ _, ⟨h, _, _, _, hl, hr⟩ => by
    have := Ok.nonneg hl; have := Ok.nonneg hr
    simp only [ht]; omega
theorem Ok.mk' {b : Nat} {x : It} {l r : Tr} (hl : l.Ok) (hr : r.Ok) (h1 : l.ht - r.ht ≤ 1) (h2 : r.ht - l.ht ≤ 1) : (mk b x l r).Ok := ⟨rfl, rfl, h1, h2, hl, hr⟩
theorem Ok.zero {t : Tr} (h : t.Ok) (h0 : t.ht = 0) : t = nil := by
  cases t with
  | nil => rfl
  | node b x l r hh e =>
    obtain ⟨h1, _, _, _, hl, hr⟩ := h
    have := hl.nonneg; have := hr.nonneg
    simp only [ht] at h0; omega
/-- balance -/
theorem bal_spec (b : Nat) (x : It) (l r : Tr) (hl : l.Ok) (hr : r.Ok) (h1 : l.ht - r.ht ≤ 2) (h2 : r.ht - l.ht ≤ 2) :
    (bal b x l r).Ok ∧ (bal b x l r).items = l.items ++ x :: r.items ∧ (bal b x l r).ht ≤ 1 + max l.ht r.ht ∧ max l.ht r.ht ≤ (bal b x l r).ht ∧ (bal b x l r).blocks.Perm (b :: (l.blocks ++ r.blocks)) ∧ ((l.ht - r.ht ≤ 1 ∧ r.ht - l.ht ≤ 1) → (bal b x l r).ht = 1 + max l.ht r.ht) := by
  have n1 := hl.nonneg
  have n2 := hr.nonneg
  unfold bal
  by_cases c1 : 1 < l.ht - r.ht
  · rw [if_pos c1]
    cases l with
    | nil => rw [ht_nil] at c1; omega
    | node c y ll lr hh ee =>
    obtain ⟨e1, e2, e3, e4, hll, hlr⟩ := hl
    have m1 := hll.nonneg
    have m2 := hlr.nonneg
    simp only [ht_node, lf_node, rt_node] at *
    by_cases c2 : ll.ht < lr.ht
    · simp only [c2, if_true]
      cases lr with
      | nil => rw [ht_nil] at c2; omega
      | node d z la lb h3 e5 =>
      obtain ⟨f1, f2, f3, f4, hla, hlb⟩ := hlr
      have m3 := hla.nonneg
      have m4 := hlb.nonneg
      simp only [ht_node] at *
      simp only [rotLT_node, rotL_node, rotR_mk, ok_mk, items_mk, ht_mk, blocks_mk, items_node, blocks_node]
      refine ⟨⟨?_, ?_, ⟨?_, ?_, hll, hla⟩, ⟨?_, ?_, hlb, hr⟩⟩, ?_, ?_, ?_, ?_, ?_⟩
      all_goals first | omega | (simp; done) | skip
      refine List.perm_iff_count.2 fun a => ?_
      simp only [List.count_cons, List.count_append]
      omega
    · simp only [c2, if_false]
      simp only [rotR_node, ok_mk, items_mk, ht_mk, blocks_mk, items_node, blocks_node]
      refine ⟨⟨?_, ?_, hll, ⟨?_, ?_, hlr, hr⟩⟩, ?_, ?_, ?_, ?_, ?_⟩
      all_goals first | omega | (simp; done) | skip
      refine List.perm_iff_count.2 fun a => ?_
      simp only [List.count_cons, List.count_append]
      omega
  rw [if_neg c1]
  by_cases c3 : l.ht - r.ht < -1
  · rw [if_pos c3]
    cases r with
    | nil => rw [ht_nil] at c3; omega
    | node c y rl rr hh ee =>
    obtain ⟨e1, e2, e3, e4, hrl, hrr⟩ := hr
    have m1 := hrl.nonneg
    have m2 := hrr.nonneg
    simp only [ht_node, lf_node, rt_node] at *
    by_cases c2 : rr.ht < rl.ht
    · simp only [c2, if_true]
      cases rl with
      | nil => rw [ht_nil] at c2; omega
      | node d z la lb h3 e5 =>
      obtain ⟨f1, f2, f3, f4, hla, hlb⟩ := hrl
      have m3 := hla.nonneg
      have m4 := hlb.nonneg
      simp only [ht_node] at *
      simp only [rotRT_node, rotR_node, rotL_mk, ok_mk, items_mk, ht_mk, blocks_mk, items_node, blocks_node]
      refine ⟨⟨?_, ?_, ⟨?_, ?_, hl, hla⟩, ⟨?_, ?_, hlb, hrr⟩⟩, ?_, ?_, ?_, ?_, ?_⟩
      all_goals first | omega | (simp; done) | skip
      refine List.perm_iff_count.2 fun a => ?_
      simp only [List.count_cons, List.count_append]
      omega
    · simp only [c2, if_false]
      simp only [rotL_node, ok_mk, items_mk, ht_mk, blocks_mk, items_node, blocks_node]
      refine ⟨⟨?_, ?_, ⟨?_, ?_, hl, hrl⟩, hrr⟩, ?_, ?_, ?_, ?_, ?_⟩
      all_goals first | omega | (simp; done) | skip
      refine List.perm_iff_count.2 fun a => ?_
      simp only [List.count_cons, List.count_append]
      omega
  · rw [if_neg c3]
    exact ⟨Ok.mk' hl hr (by omega) (by omega), rfl, by simp [mk, ht], by simp only [mk, ht]; omega, List.Perm.refl _, fun _ => rfl⟩
end Tr
end Go.Proofs.Ytkocehfapcmiiaa
