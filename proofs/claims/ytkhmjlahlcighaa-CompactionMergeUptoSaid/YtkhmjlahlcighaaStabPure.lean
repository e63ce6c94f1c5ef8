/-
  The stable sort in plain Lean: swapRange, rotate, symMerge, and that what they make is a sorted permutation. No program here.
-/
import Derived.Sort.LotA
namespace Go.Proofs.Ytkhmjlahlcighaa
open Go.Sort
section
variable {α : Type} [Inhabited α]

/-- 'for i := 0; i < n; i++ { swap a+i, b+i }' -/
def swpR (d : Array α) (a b : Nat) : Nat → Array α
  | 0 => d
  | n + 1 => swp (swpR d a b n) (a + n) (b + n)
theorem size_swpR (d : Array α) (a b n : Nat) : (swpR d a b n).size = d.size := by
  induction n with
  | zero => rfl
  | succ n ih => rw [swpR, size_swp, ih]
theorem swpR_get (d : Array α) (a b n : Nat) (h : a + n ≤ b) (hb : b + n ≤ d.size) : ∀ k,
    (swpR d a b n)[k]! = if a ≤ k ∧ k < a + n then d[k + (b - a)]! else if b ≤ k ∧ k < b + n then d[k - (b - a)]! else d[k]! := by
  induction n with
  | zero => intro k; rw [swpR, if_neg (by omega), if_neg (by omega)]
  | succ n ih =>
    have ih := ih (by omega) (by omega)
    intro k
    rw [swpR]
    by_cases h1 : k = a + n
    · subst h1
      rw [swp_left _ _ _ (by rw [size_swpR]; omega) (by omega), if_pos (by omega), ih, if_neg (by omega), if_neg (by omega)]
      exact congrArg (fun z => d[z]!) (by omega)
    · by_cases h2 : k = b + n
      · subst h2
        rw [swp_right _ _ _ (by rw [size_swpR]; omega), if_neg (by omega), if_pos (by omega), ih, if_neg (by omega), if_neg (by omega)]
        exact congrArg (fun z => d[z]!) (by omega)
      · rw [swp_other _ _ _ _ h1 h2, ih]
        by_cases c1 : a ≤ k ∧ k < a + n
        · rw [if_pos c1, if_pos (by omega)]
        · by_cases c2 : b ≤ k ∧ k < b + n
          · rw [if_neg c1, if_pos c2, if_neg (by omega), if_pos (by omega)]
          · rw [if_neg c1, if_neg c2, if_neg (by omega), if_neg (by omega)]
theorem swpR_perm (d : Array α) (a b n lo hi : Nat) (h : a + n ≤ b) (hlo : lo ≤ a) (hhi : b + n ≤ hi) (hb : hi ≤ d.size) : PermIn lo hi d (swpR d a b n) := by
  induction n with
  | zero => exact permIn_refl _ _ _
  | succ n ih => exact permIn_trans _ _ _ _ _ (ih (by omega) (by omega)) (swp_permIn _ _ _ _ _ (by omega) (by omega) (by omega) (by omega) (by rw [size_swpR]; omega))

/-- d' is d with the parts [a, m) and [m, b) exchanged. -/
def RotOf (d : Array α) (a m b : Nat) (d' : Array α) : Prop :=
  PermIn a b d d' ∧ (∀ x, a ≤ x → x < a + (b - m) → d'[x]! = d[x + (m - a)]!) ∧ (∀ x, a + (b - m) ≤ x → x < b → d'[x]! = d[x - (b - m)]!)
theorem RotOf.size {d d' : Array α} {a m b : Nat} (h : RotOf d a m b d') : d'.size = d.size := h.1.1
/-- one round of rotate with i > j -/
theorem RotOf.gt {d d' : Array α} {m i j : Nat} (hij : j < i) (hi : i ≤ m) (hb : m + j ≤ d.size) (h : RotOf (swpR d (m - i) m j) (m - (i - j)) m (m + j) d') : RotOf d (m - i) m (m + j) d' := by
  obtain ⟨h1, h2, h3⟩ := h
  have hg := swpR_get d (m - i) m j (by omega) (by omega)
  refine ⟨permIn_trans _ _ _ _ _ (swpR_perm d (m - i) m j (m - i) (m + j) (by omega) (by omega) (by omega) hb) (permIn_mono _ _ _ _ _ _ (by omega) (Nat.le_refl _) (by rw [size_swpR]; exact hb) h1), fun x hx1 hx2 => ?_, fun x hx1 hx2 => ?_⟩
  · -- final already: below m - i + j
    rw [h1.2.1 x (.inl (by omega)), hg, if_pos (by omega)]
  · by_cases hc : x < m - (i - j) + j
    · rw [h2 x (by omega) (by omega), hg]
      by_cases c1 : m ≤ x + (m - (m - (i - j)))
      · rw [if_neg (by omega), if_pos (by omega)]
        exact congrArg (fun z => d[z]!) (by omega)
      · rw [if_neg (by omega), if_neg (by omega)]
        exact congrArg (fun z => d[z]!) (by omega)
    · rw [h3 x (by omega) (by omega), hg]
      by_cases c1 : m ≤ x - (m + j - m)
      · omega
      · rw [if_neg (by omega), if_neg (by omega)]
/-- one round with i < j -/
theorem RotOf.lt {d d' : Array α} {m i j : Nat} (hij : i < j) (hi : i ≤ m) (hb : m + j ≤ d.size) (h : RotOf (swpR d (m - i) (m + j - i) i) (m - i) m (m + (j - i)) d') : RotOf d (m - i) m (m + j) d' := by
  obtain ⟨h1, h2, h3⟩ := h
  have hg := swpR_get d (m - i) (m + j - i) i (by omega) (by omega)
  refine ⟨permIn_trans _ _ _ _ _ (swpR_perm d (m - i) (m + j - i) i (m - i) (m + j) (by omega) (by omega) (by omega) hb) (permIn_mono _ _ _ _ _ _ (Nat.le_refl _) (by omega) (by rw [size_swpR]; omega) h1), fun x hx1 hx2 => ?_, fun x hx1 hx2 => ?_⟩
  · by_cases hc : x < m - i + (j - i)
    · rw [h2 x (by omega) (by omega), hg, if_neg (by omega), if_neg (by omega)]
    · by_cases c : x < m + (j - i)
      · rw [h3 x (by omega) (by omega), hg, if_pos (by omega)]
        exact congrArg (fun z => d[z]!) (by omega)
      · omega
  · by_cases c : x < m + (j - i)
    · omega
    · rw [h1.2.1 x (.inr (by omega)), hg, if_neg (by omega), if_pos (by omega)]
      exact congrArg (fun z => d[z]!) (by omega)
theorem RotOf.eq {d : Array α} {m i : Nat} (hi : i ≤ m) (hb : m + i ≤ d.size) : RotOf d (m - i) m (m + i) (swpR d (m - i) m i) := by
  have hg := swpR_get d (m - i) m i (by omega) (by omega)
  refine ⟨swpR_perm d (m - i) m i (m - i) (m + i) (by omega) (by omega) (by omega) hb, fun x hx1 hx2 => ?_, fun x hx1 hx2 => ?_⟩
  · rw [hg, if_pos (by omega)]
  · rw [hg, if_neg (by omega), if_pos (by omega)]
    exact congrArg (fun z => d[z]!) (by omega)
theorem RotOf.left {d : Array α} {a b : Nat} (h : a ≤ b) : RotOf d a a b d := ⟨permIn_refl _ _ _, fun x _ _ => congrArg (fun z => d[z]!) (by omega), fun x hx1 hx2 => by omega⟩
theorem RotOf.right {d : Array α} {a b : Nat} : RotOf d a b b d := ⟨permIn_refl _ _ _, fun x _ _ => by omega, fun x hx1 hx2 => congrArg (fun z => d[z]!) (by omega)⟩

variable {lt : α → α → Bool}
omit [Inhabited α] in
theorem SWO.asym (S : SWO lt) {x y : α} (h : lt x y = true) : lt y x = false := by
  rcases hyx : lt y x with _ | _
  · rfl
  · have := S.trans _ _ _ h hyx
    rw [S.irrefl] at this; cases this
omit [Inhabited α] in
theorem SWO.le_lt (S : SWO lt) {x y z : α} (h1 : lt y x = false) (h2 : lt y z = true) : lt x z = true := by
  rcases h : lt x z with _ | _
  · have := S.ntrans _ _ _ h1 h
    rw [h2] at this; cases this
  · rfl
theorem SortedIn.le {a b : Nat} {d : Array α} (S : SWO lt) (h : SortedIn lt a b d) {i j : Nat} (h1 : a ≤ i) (h2 : i ≤ j) (h3 : j < b) : lt d[j]! d[i]! = false := by
  rcases Nat.lt_or_eq_of_le h2 with h' | rfl
  · exact h i j h1 h' h3
  · exact S.irrefl _
theorem SortedIn.sub {a b a' b' : Nat} {d : Array α} (h : SortedIn lt a b d) (h1 : a ≤ a') (h2 : b' ≤ b) : SortedIn lt a' b' d := fun i j p q r => h i j (by omega) q (by omega)
theorem SortedIn.congr {a b : Nat} {d d' : Array α} (h : SortedIn lt a b d) (e : ∀ x, a ≤ x → x < b → d'[x]! = d[x]!) : SortedIn lt a b d' := fun i j p q r => by rw [e j (by omega) r, e i p (by omega)]; exact h i j p q r
/-- what the search of symMerge finds -/
structure SymCut (lt : α → α → Bool) (d : Array α) (a m b s : Nat) : Prop where
  lo : a ≤ s
  hi : s ≤ m
  hm : m ≤ (a + b) / 2 + m - s
  he : (a + b) / 2 + m - s ≤ b
  /-- what lies before the cut is not greater than what lies behind its end -/
  c1 : ∀ i k, a ≤ i → i < s → (a + b) / 2 + m - s ≤ k → k < b → lt d[k]! d[i]! = false
  /-- what lies before its end, behind m, is not greater than what lies behind the cut -/
  c2 : ∀ i k, m ≤ i → i < (a + b) / 2 + m - s → s ≤ k → k < m → lt d[k]! d[i]! = false
/-- the search's place satisfies the cut: m > mid -/
theorem SymCut.of {d : Array α} {a m b s s0 r0 : Nat} (S : SWO lt) (h1 : SortedIn lt a m d) (h2 : SortedIn lt m b d) (ham : a < m) (hmb : m < b)
    (hs0 : s0 = if (a + b) / 2 < m then (a + b) / 2 + m - b else a) (hr0 : r0 = if (a + b) / 2 < m then (a + b) / 2 else m) (hs : s0 ≤ s) (hsr : s ≤ r0)
    (hp : s0 < s → lt d[(a + b) / 2 + m - s]! d[s - 1]! = false) (hq : s < r0 → lt d[(a + b) / 2 + m - 1 - s]! d[s]! = true) : SymCut lt d a m b s := by
  have hmid1 : a ≤ (a + b) / 2 := by omega
  have hmid2 : (a + b) / 2 < b := by omega
  have hlo : a ≤ s := by split at hs0 <;> omega
  have hhi : s ≤ m := by split at hr0 <;> omega
  have hm' : m ≤ (a + b) / 2 + m - s := by split at hr0 <;> omega
  have he : (a + b) / 2 + m - s ≤ b := by split at hs0 <;> omega
  refine ⟨hlo, hhi, hm', he, fun i k p1 p2 p3 p4 => ?_, fun i k p1 p2 p3 p4 => ?_⟩
  · have hs' : s0 < s := by split at hs0 <;> omega
    have e1 := hp hs'
    have e2 := SortedIn.le S h1 (i := i) (j := s - 1) p1 (by omega) (by omega)
    have e3 := SortedIn.le S h2 (i := (a + b) / 2 + m - s) (j := k) hm' p3 p4
    exact S.ntrans _ _ _ (S.ntrans _ _ _ e3 e1) e2
  · have hr' : s < r0 := by split at hr0 <;> omega
    have e1 := SWO.asym S (hq hr')
    have e2 := SortedIn.le S h2 (i := i) (j := (a + b) / 2 + m - 1 - s) p1 (by omega) (by omega)
    have e3 := SortedIn.le S h1 (i := s) (j := k) hlo p3 p4
    exact S.ntrans _ _ _ (S.ntrans _ _ _ e3 e1) e2
/-- behind the rotation: both halves consist of two sorted parts, and nothing of the right half is less than anything of the left one -/
theorem SymCut.rot {d d' : Array α} {a m b s : Nat} (h1 : SortedIn lt a m d) (h2 : SortedIn lt m b d) (hb : b ≤ d.size) (hc : SymCut lt d a m b s) (hr : RotOf d s m ((a + b) / 2 + m - s) d') (ham : a < m) :
    s ≤ (a + b) / 2 ∧ (a + b) / 2 ≤ (a + b) / 2 + m - s ∧ PermIn a b d d' ∧ SortedIn lt a s d' ∧ SortedIn lt s ((a + b) / 2) d' ∧ SortedIn lt ((a + b) / 2) ((a + b) / 2 + m - s) d' ∧ SortedIn lt ((a + b) / 2 + m - s) b d' ∧
      ∀ i k, a ≤ i → i < (a + b) / 2 → (a + b) / 2 ≤ k → k < b → lt d'[k]! d'[i]! = false := by
  obtain ⟨c1, c2, c3, c4, c5, c6⟩ := hc
  obtain ⟨r1, r2, r3⟩ := hr
  generalize hmid : (a + b) / 2 = mid at *
  generalize hend : mid + m - s = e at *
  have hm1 : s + (e - m) = mid := by omega
  rw [hm1] at r2 r3
  have q1 : ∀ x, a ≤ x → x < s → d'[x]! = d[x]! := fun x p1 p2 => r1.2.1 x (.inl p2)
  have q2 : ∀ x, s ≤ x → x < mid → d'[x]! = d[x + (m - s)]! := r2
  have q3 : ∀ x, mid ≤ x → x < e → d'[x]! = d[x - (e - m)]! := r3
  have q4 : ∀ x, e ≤ x → x < b → d'[x]! = d[x]! := fun x p1 p2 => r1.2.1 x (.inr p1)
  refine ⟨by omega, by omega, permIn_mono _ _ _ _ _ _ (by omega) (by omega) hb r1, fun i j p1 p2 p3 => ?_, fun i j p1 p2 p3 => ?_, fun i j p1 p2 p3 => ?_, fun i j p1 p2 p3 => ?_, fun i k p1 p2 p3 p4 => ?_⟩
  · rw [q1 i p1 (by omega), q1 j (by omega) p3]; exact h1 i j p1 p2 (by omega)
  · rw [q2 i p1 (by omega), q2 j (by omega) p3]; exact h2 _ _ (by omega) (by omega) (by omega)
  · rw [q3 i p1 (by omega), q3 j (by omega) p3]; exact h1 _ _ (by omega) (by omega) (by omega)
  · rw [q4 i p1 (by omega), q4 j (by omega) p3]; exact h2 i j (by omega) p2 p3
  · by_cases ci : i < s
    · rw [q1 i p1 ci]
      by_cases ck : k < e
      · rw [q3 k p3 ck]; exact h1 _ _ p1 (by omega) (by omega)
      · rw [q4 k (by omega) p4]; exact c5 i k p1 ci (by omega) p4
    · rw [q2 i (by omega) p2]
      by_cases ck : k < e
      · rw [q3 k p3 ck]; exact c6 _ _ (by omega) (by omega) (by omega) (by omega)
      · rw [q4 k (by omega) p4]; exact h2 _ _ (by omega) (by omega) p4
/-- the halves put together -/
theorem sym_join {d d1 d2 : Array α} {a mid b : Nat} (hb : b ≤ d.size) (ha : a ≤ mid) (hm : mid ≤ b) (hx : ∀ i k, a ≤ i → i < mid → mid ≤ k → k < b → lt d[k]! d[i]! = false)
    (p1 : PermIn a mid d d1) (s1 : SortedIn lt a mid d1) (p2 : PermIn mid b d1 d2) (s2 : SortedIn lt mid b d2) : PermIn a b d d2 ∧ SortedIn lt a b d2 := by
  have hs1 : d1.size = d.size := p1.1
  refine ⟨permIn_trans _ _ _ _ _ (permIn_mono _ _ _ _ _ _ (Nat.le_refl _) hm hb p1) (permIn_mono _ _ _ _ _ _ ha (Nat.le_refl _) (by omega) p2), ?_⟩
  have hl : ∀ i, a ≤ i → i < mid → d2[i]! = d1[i]! := fun i _ h => p2.2.1 i (.inl h)
  have hr1 : ∀ k, mid ≤ k → k < b → d1[k]! = d[k]! := fun k h _ => p1.2.1 k (.inr h)
  have hcross : ∀ i k, a ≤ i → i < mid → mid ≤ k → k < b → lt d2[k]! d2[i]! = false := by
    intro i k q1 q2 q3 q4
    rw [hl i q1 q2]
    have hall : ∀ i, a ≤ i → i < mid → ∀ k, mid ≤ k → k < b → lt d1[k]! d1[i]! = false := by
      refine permIn_all d d1 a mid (fun x => ∀ k, mid ≤ k → k < b → lt d1[k]! x = false) (by omega) p1 (fun i h1 h2 k h3 h4 => ?_)
      rw [hr1 k h3 h4]
      exact hx i k h1 h2 h3 h4
    exact permIn_all d1 d2 mid b (fun x => lt x d1[i]! = false) (by omega) p2 (fun k h3 h4 => hall i q1 q2 k h3 h4) k q3 q4
  intro i j q1 q2 q3
  by_cases c1 : j < mid
  · rw [hl i q1 (by omega), hl j (by omega) c1]; exact s1 i j q1 q2 c1
  · by_cases c2 : i < mid
    · exact hcross i j q1 c2 (by omega) q3
    · exact s2 i j (by omega) q2 q3
end
end Go.Proofs.Ytkhmjlahlcighaa
