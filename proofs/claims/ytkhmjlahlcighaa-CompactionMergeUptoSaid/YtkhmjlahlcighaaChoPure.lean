/-
  Which range is chosen: plain.
-/
import Derived.Test.YtkhmjlahlcighaaVerJ
namespace Go.Proofs.Ytkhmjlahlcighaa
open Go.RowKit Go.Lib Go.IntWalk Go.Sort Go.Shelf

def sumP (s : List Int) : Int := s.foldl (fun a n => a + max 0 n) 0
def maxP (s : List Int) : Int := s.foldl (fun a n => max a (max 0 n)) 0
theorem sumP_snoc (s : List Int) (x : Int) : sumP (s ++ [x]) = sumP s + max 0 x := by simp [sumP, List.foldl_append]
theorem maxP_snoc (s : List Int) (x : Int) : maxP (s ++ [x]) = max (maxP s) (max 0 x) := by simp [maxP, List.foldl_append]
theorem snoc_ind {P : List Int → Prop} (h0 : P []) (h1 : ∀ s x, P s → P (s ++ [x])) (s : List Int) : P s := by
  have : ∀ n, ∀ s : List Int, s.length = n → P s := by
    intro n
    induction n with
    | zero => intro s hs; rw [List.eq_nil_of_length_eq_zero hs]; exact h0
    | succ n ih =>
      intro s hs
      have hne : s ≠ [] := fun e => by rw [e] at hs; simp at hs
      rw [← List.dropLast_concat_getLast hne]
      exact h1 _ _ (ih _ (by rw [List.length_dropLast]; omega))
  exact this _ s rfl
theorem sumP_bd (s : List Int) : (∀ x ∈ s, x ≤ 1099511627776) → 0 ≤ maxP s ∧ maxP s ≤ sumP s ∧ sumP s ≤ s.length * 1099511627776 := by
  induction s using snoc_ind with
  | h0 => intro _; simp [sumP, maxP]
  | h1 s x ih =>
    intro h
    obtain ⟨a, b, c⟩ := ih (fun y hy => h y (List.mem_append_left _ hy))
    have hx := h x (List.mem_append_right _ (List.mem_singleton_self x))
    rw [sumP_snoc, maxP_snoc, List.length_append]
    simp only [List.length_cons, List.length_nil]
    omega
def balP (s : List Int) : Bool := decide (2 ≤ s.length) && decide (maxP s ≤ sumP s - maxP s)
def seg (l : List Int) (i j : Nat) : List Int := (l.drop i).take (j - i)
theorem seg_self (l : List Int) (i : Nat) : seg l i i = [] := by simp [seg]
theorem seg_length (l : List Int) (i j : Nat) (hj : j ≤ l.length) : (seg l i j).length = j - i := by simp [seg]; omega
theorem seg_snoc (l : List Int) (i j : Nat) (hij : i ≤ j) (hj : j < l.length) : seg l i (j + 1) = seg l i j ++ [l[j]] := by
  unfold seg
  rw [show j + 1 - i = (j - i) + 1 by omega, List.take_succ_eq_append_getElem (by rw [List.length_drop]; omega), List.getElem_drop]
  congr 3
  omega
theorem seg_mem {l : List Int} {i j : Nat} {x : Int} (h : x ∈ seg l i j) : x ∈ l := List.mem_of_mem_drop (List.mem_of_mem_take h)
def Bal (l : List Int) (i j : Nat) : Prop := i < j ∧ j ≤ l.length ∧ balP (seg l i j) = true
theorem Bal.two {l : List Int} {i j : Nat} (h : Bal l i j) : i + 2 ≤ j := by
  obtain ⟨h1, h2, h3⟩ := h
  unfold balP at h3
  rw [seg_length l i j h2] at h3
  simp at h3
  omega
theorem Bal.iff {l : List Int} {i j : Nat} (hij : i ≤ j) (hj : j < l.length) : Bal l i (j + 1) ↔ (i < j ∧ maxP (seg l i (j + 1)) ≤ sumP (seg l i (j + 1)) - maxP (seg l i (j + 1))) := by
  unfold Bal balP
  rw [seg_length l i (j + 1) (by omega)]
  simp
  omega
/-- the longest balanced range among those of P, the first of them -/
def Best (l : List Int) (P : Nat → Nat → Prop) (a b : Nat) : Prop :=
  (a = 0 ∧ b = 0 ∧ ∀ i j, P i j → ¬ Bal l i j) ∨ (Bal l a b ∧ ∀ i j, P i j → Bal l i j → j - i < b - a ∨ (j - i = b - a ∧ a ≤ i))
theorem Best.unique {l : List Int} {a b a' b' : Nat} (h : Best l (fun _ _ => True) a b) (h' : Best l (fun _ _ => True) a' b') : a = a' ∧ b = b' := by
  rcases h with ⟨rfl, rfl, h⟩ | ⟨h, k⟩ <;> rcases h' with ⟨rfl, rfl, h'⟩ | ⟨h', k'⟩
  · exact ⟨rfl, rfl⟩
  · exact absurd h' (h _ _ trivial)
  · exact absurd h (h' _ _ trivial)
  · have e1 := k _ _ trivial h'
    have e2 := k' _ _ trivial h
    have := h.1; have := h'.1
    omega
theorem Best.mono {l : List Int} {P Q : Nat → Nat → Prop} {a b : Nat} (h : Best l P a b) (hq : ∀ i j, Q i j → Bal l i j → P i j) : Best l Q a b := by
  rcases h with ⟨rfl, rfl, h⟩ | ⟨h, k⟩
  · exact .inl ⟨rfl, rfl, fun i j q b => h i j (hq i j q b) b⟩
  · exact .inr ⟨h, fun i j q b => k i j (hq i j q b) b⟩
/-- the ranges that are seen before (i, j) -/
def Seen (i j : Nat) (a b : Nat) : Prop := a < i ∨ (a = i ∧ b ≤ j)
theorem best_yes {l : List Int} {i j a b : Nat} (h : Best l (Seen i j) a b) (hb : Bal l i (j + 1)) (hl : b - a < j + 1 - i) : Best l (Seen i (j + 1)) i (j + 1) := by
  refine .inr ⟨hb, fun x y hs hxy => ?_⟩
  by_cases c : Seen i j x y
  · rcases h with ⟨rfl, rfl, h⟩ | ⟨h, k⟩
    · exact absurd hxy (h _ _ c)
    · have := k _ _ c hxy
      left; omega
  · unfold Seen at hs c
    right; omega
theorem best_no {l : List Int} {i j a b : Nat} (h : Best l (Seen i j) a b) (ha : a ≤ i) (hn : Bal l i (j + 1) → j + 1 - i ≤ b - a) : Best l (Seen i (j + 1)) a b := by
  rcases h with ⟨rfl, rfl, h⟩ | ⟨h, k⟩
  · refine .inl ⟨rfl, rfl, fun x y hs hxy => ?_⟩
    by_cases c : Seen i j x y
    · exact h _ _ c hxy
    · unfold Seen at hs c
      obtain ⟨rfl, rfl⟩ : x = i ∧ y = j + 1 := by omega
      have := hn hxy
      have := hxy.1
      omega
  · refine .inr ⟨h, fun x y hs hxy => ?_⟩
    by_cases c : Seen i j x y
    · exact k _ _ c hxy
    · unfold Seen at hs c
      obtain ⟨rfl, rfl⟩ : x = i ∧ y = j + 1 := by omega
      have := hn hxy
      omega
theorem best_row {l : List Int} {i a b : Nat} (h : Best l (Seen i l.length) a b) : Best l (Seen (i + 1) (i + 1)) a b :=
  h.mono fun x y hs hxy => by
    have := hxy.1; have := hxy.2.1
    unfold Seen at *
    omega
theorem best_start (l : List Int) : Best l (Seen 0 0) 0 0 := .inl ⟨rfl, rfl, fun i j h b => by have := b.1; unfold Seen at h; omega⟩
theorem best_all {l : List Int} {a b : Nat} (h : Best l (Seen l.length l.length) a b) : Best l (fun _ _ => True) a b :=
  h.mono fun x y _ hxy => by have := hxy.1; have := hxy.2.1; unfold Seen; omega
/-- the reference: no range longer than n, none as long as n that begins before i -/
def NoneAt (l : List Int) (n i : Nat) : Prop := ∀ x y, Bal l x y → y - x < n ∨ (y - x = n ∧ i ≤ x)
theorem none_best {l : List Int} {n i : Nat} (h : NoneAt l n i) (hb : Bal l i (i + n)) : Best l (fun _ _ => True) i (i + n) :=
  .inr ⟨hb, fun x y _ hxy => by have := h x y hxy; omega⟩
theorem none_end {l : List Int} {n i : Nat} (h : NoneAt l n i) (hn : n < 2) : Best l (fun _ _ => True) 0 0 :=
  .inl ⟨rfl, rfl, fun x y _ hxy => by have := h x y hxy; have := hxy.two; omega⟩
theorem none_next {l : List Int} {n i : Nat} (h : NoneAt l n i) (hb : ¬ Bal l i (i + n)) : NoneAt l n (i + 1) := fun x y hxy => by
  have h1 := h x y hxy
  by_cases c : x = i ∧ y = i + n
  · obtain ⟨rfl, rfl⟩ := c; exact absurd hxy hb
  · have := hxy.1
    omega
theorem none_row {l : List Int} {n i : Nat} (h : NoneAt l n i) (hn : l.length < i + n) (h0 : 0 < n) : NoneAt l (n - 1) 0 := fun x y hxy => by
  have h1 := h x y hxy
  have := hxy.2.1; have := hxy.1
  omega
theorem none_start (l : List Int) : NoneAt l l.length 0 := fun x y hxy => by have := hxy.2.1; have := hxy.1; omega
end Go.Proofs.Ytkhmjlahlcighaa
