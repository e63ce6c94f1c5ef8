/-
  Texts of periods, in plain Lean. No program here.
-/
import Derived.Lib.IndexMore
import Derived.Lib.ItoaNum
import Derived.WalkKit
namespace Go.Proofs.YtipngnejiddkdaaDoor
open Go.Lib

def dig (c : UInt8) : Bool := decide (48 ≤ c.toNat ∧ c.toNat ≤ 57)
def val (l : List UInt8) : Nat := l.foldl (fun n c => 10 * n + (c.toNat - 48)) 0
def capF (lim : Nat) (l : List UInt8) : Nat := l.foldl (fun n c => min (10 * n + (c.toNat - 48)) lim) 0
theorem val_snoc (l : List UInt8) (c : UInt8) : val (l ++ [c]) = 10 * val l + (c.toNat - 48) := by simp [val]
theorem cap_snoc (lim : Nat) (l : List UInt8) (c : UInt8) : capF lim (l ++ [c]) = min (10 * capF lim l + (c.toNat - 48)) lim := by simp [capF]
theorem snoc_ind {P : List UInt8 → Prop} (h0 : P []) (h1 : ∀ l c, P l → P (l ++ [c])) (l : List UInt8) : P l := by
  have : ∀ n, ∀ l : List UInt8, l.length = n → P l := by
    intro n
    induction n with
    | zero => intro l hl; rw [List.eq_nil_of_length_eq_zero hl]; exact h0
    | succ n ih =>
      intro l hl
      have hne : l ≠ [] := fun h => by rw [h] at hl; simp at hl
      rw [← List.dropLast_concat_getLast hne]
      exact h1 _ _ (ih _ (by simp [hl]))
  exact this _ l rfl
theorem cap_val (lim : Nat) (l : List UInt8) : capF lim l = min (val l) lim := by
  induction l using snoc_ind with
  | h0 => simp [capF, val]
  | h1 l c ih => rw [cap_snoc, val_snoc, ih]; omega
theorem cap_le (lim : Nat) (l : List UInt8) : capF lim l ≤ lim := by rw [cap_val]; omega
/-- a number without leading zeros -/
def goodN (l : List UInt8) : Bool := decide (l ≠ []) && l.all dig && !(decide (l.head? = some 48) && decide (1 < l.length))
theorem goodN_iff (l : List UInt8) : goodN l = true ↔ l ≠ [] ∧ (∀ c ∈ l, dig c = true) ∧ ¬ (l.head? = some 48 ∧ 1 < l.length) := by
  simp only [goodN, Bool.and_eq_true, decide_eq_true_eq, List.all_eq_true, Bool.not_eq_true', Bool.and_eq_false_iff, decide_eq_false_iff_not, Classical.not_and_iff_not_or_not, and_assoc]
def numB (l : List UInt8) : Int × Bool := if goodN l = true then ((capF 1099511627777 l : Nat), true) else (0, false)
/-- what number and digits see of it -/
theorem dec_digit (n : Nat) (h : n < 10) : (UInt8.ofNat (48 + n)).toNat = 48 + n := by simp [UInt8.toNat_ofNat']; omega
theorem dec_all (n : Nat) : ∀ c ∈ decDigits n, dig c = true := by
  induction n using Nat.strongRecOn with
  | _ n ih =>
    rw [decDigits]
    split
    · rename_i h
      intro c hc
      rw [List.mem_singleton] at hc
      subst hc
      rw [dig, dec_digit n h, decide_eq_true_eq]
      omega
    · rename_i h
      intro c hc
      rcases List.mem_append.1 hc with hc | hc
      · exact ih (n / 10) (by omega) c hc
      · rw [List.mem_singleton] at hc
        subst hc
        rw [dig, dec_digit (n % 10) (by omega), decide_eq_true_eq]
        omega
theorem dec_val (n : Nat) : val (decDigits n) = n := by
  induction n using Nat.strongRecOn with
  | _ n ih =>
    rw [decDigits]
    split
    · rename_i h
      have := dec_digit n h
      simp only [val, List.foldl_cons, List.foldl_nil, this]
      omega
    · rename_i h
      rw [val_snoc, ih (n / 10) (by omega), dec_digit (n % 10) (by omega)]
      omega
theorem dec_ne (n : Nat) : decDigits n ≠ [] := by
  rw [decDigits]
  split <;> simp
theorem head_app {a b : List UInt8} (h : a ≠ []) : (a ++ b).head? = a.head? := by
  cases a with
  | nil => exact absurd rfl h
  | cons x r => rfl
theorem dec_head (n : Nat) : (decDigits n).head? = some 48 → n = 0 := by
  induction n using Nat.strongRecOn with
  | _ n ih =>
    rw [decDigits]
    split
    · rename_i h
      intro hh
      simp only [List.head?_cons, Option.some.injEq] at hh
      have := dec_digit n h
      rw [hh] at this
      have e : (48 : UInt8).toNat = 48 := rfl
      omega
    · rename_i h
      intro hh
      have hne := dec_ne (n / 10)
      rw [head_app hne] at hh
      have := ih (n / 10) (by omega) hh
      omega
theorem dec_good (n : Nat) : goodN (decDigits n) = true := by
  rw [goodN_iff]
  refine ⟨dec_ne n, dec_all n, fun ⟨h1, h2⟩ => ?_⟩
  have := dec_head n h1
  subst this
  rw [decDigits] at h2
  simp at h2
/-- the digits of a number without leading zeros are its own -/
theorem good_dec {l : List UInt8} (h : goodN l = true) : decDigits (val l) = l := by
  rw [goodN_iff] at h
  obtain ⟨h1, h2, h3⟩ := h
  induction l using snoc_ind with
  | h0 => exact absurd rfl h1
  | h1 l c ih =>
    have hc := h2 c (by simp)
    rw [dig, decide_eq_true_eq] at hc
    have e48 : UInt8.ofNat (48 + (c.toNat - 48)) = c := by
      have : 48 + (c.toNat - 48) = c.toNat := by omega
      rw [this]; simp
    by_cases hl : l = []
    · subst hl
      have hv : val ([] ++ [c]) = c.toNat - 48 := by rw [val_snoc]; simp [val]
      rw [hv, decDigits, dif_pos (by omega), e48]
      rfl
    · have hpos : 0 < val l := by
        have hh : ¬ (l.head? = some 48) := fun hh => h3 ⟨by rw [head_app hl]; exact hh, by
          have : 0 < l.length := List.length_pos_iff.2 hl
          simp; omega⟩
        rcases l with _ | ⟨a, r⟩
        · exact absurd rfl hl
        · have ha := h2 a (by simp)
          rw [dig, decide_eq_true_eq] at ha
          have hne : a.toNat ≠ 48 := fun he => hh (by
            have : a = 48 := UInt8.toNat_inj.1 he
            rw [this]; rfl)
          have hmono : ∀ (r : List UInt8) (k : Nat), k ≤ r.foldl (fun n c => 10 * n + (c.toNat - 48)) k := by
            intro r
            induction r with
            | nil => intro k; simp
            | cons b r ih => intro k; rw [List.foldl_cons]; have := ih (10 * k + (b.toNat - 48)); omega
          have := hmono r (10 * 0 + (a.toNat - 48))
          rw [val, List.foldl_cons]
          omega
      have hih := ih hl (fun c hc => h2 c (by simp [hc])) (fun ⟨a, b⟩ => h3 ⟨by rw [head_app hl]; exact a, by simp; omega⟩)
      rw [val_snoc, decDigits, dif_neg (by omega), show (10 * val l + (c.toNat - 48)) / 10 = val l by omega, show (10 * val l + (c.toNat - 48)) % 10 = c.toNat - 48 by omega, hih, e48]
end Go.Proofs.YtipngnejiddkdaaDoor
