/-
  Periods: intersection and difference partition a period. Plain Lean.
-/
import Derived.Test.YtipngnejiddkdaaDoorPerC
namespace Go.Proofs.YtipngnejiddkdaaDoor

/-- how many of the periods contain x -/
def cntP (x : Int) (l : List (Int × Int)) : Nat := (l.filter fun p => inP p.1 p.2 x).length
theorem cnt_snoc (x : Int) (l : List (Int × Int)) (p : Int × Int) : cntP x (l ++ [p]) = cntP x l + if inP p.1 p.2 x = true then 1 else 0 := by
  unfold cntP
  rw [List.filter_append, List.length_append]
  cases h : inP p.1 p.2 x <;> simp [h]
theorem cnt_le (x : Int) (l : List (Int × Int)) : cntP x l ≤ l.length := List.length_filter_le _ _
def n0P (f t a b x : Int) : Nat := if ovP f t a b = true ∧ inP (max f a) (min t b) x = true then 1 else 0
theorem sub_len (f t a b : Int) : (subP f t a b).length ≤ 2 := by
  unfold subP
  split
  · simp
  · split
    · simp
    · split <;> split <;> simp
theorem in_iff (f t x : Int) : inP f t x = true ↔ 0 ≤ f ∧ f < t ∧ t ≤ 1099511627776 ∧ f ≤ x ∧ x < t := by unfold inP; rw [decide_eq_true_eq]
theorem ov_iff (f t a b : Int) : ovP f t a b = true ↔ 0 ≤ f ∧ f < t ∧ t ≤ 1099511627776 ∧ 0 ≤ a ∧ a < b ∧ b ≤ 1099511627776 ∧ f < b ∧ a < t := by unfold ovP; rw [decide_eq_true_eq]
theorem cnt_nil (x : Int) : cntP x [] = 0 := rfl
theorem cnt_one (x : Int) (p : Int × Int) : cntP x [p] = if inP p.1 p.2 x = true then 1 else 0 := by
  have := cnt_snoc x [] p
  rw [List.nil_append, cnt_nil, Nat.zero_add] at this
  exact this
/-- every instant of p is in exactly one, no other in any -/
theorem part_in {f t a b x : Int} (h : inP f t x = true) : n0P f t a b x + cntP x (subP f t a b) = 1 := by
  rw [in_iff] at h
  have hv : validP f t = true := by unfold validP; rw [decide_eq_true_eq]; omega
  unfold n0P subP
  rw [if_neg (show ¬ validP f t = false by rw [hv]; simp)]
  by_cases ho : ovP f t a b = true
  · have ho' := (ov_iff f t a b).1 ho
    rw [if_neg (show ¬ ovP f t a b = false by rw [ho]; simp)]
    by_cases hi : inP (max f a) (min t b) x = true
    · rw [if_pos ⟨ho, hi⟩]
      rw [in_iff] at hi
      have z0 : ¬ inP f a x = true := by rw [in_iff]; omega
      have z1 : ¬ inP b t x = true := by rw [in_iff]; omega
      by_cases k0 : f < a <;> by_cases k1 : b < t
      · rw [if_pos k0, if_pos k1, cnt_snoc, cnt_one, if_neg z0, if_neg z1]
      · rw [if_pos k0, if_neg k1, List.append_nil, cnt_one, if_neg z0]
      · rw [if_neg k0, if_pos k1, List.nil_append, cnt_one, if_neg z1]
      · rw [if_neg k0, if_neg k1, List.nil_append, cnt_nil]
    · rw [if_neg (fun h => hi h.2)]
      rw [in_iff] at hi
      have hx : x < a ∨ b ≤ x := by omega
      by_cases k0 : f < a <;> by_cases k1 : b < t
      · rw [if_pos k0, if_pos k1, cnt_snoc, cnt_one]
        by_cases hxa : x < a
        · rw [if_pos ((in_iff ..).2 (by omega)), if_neg (by rw [in_iff]; omega)]
        · rw [if_neg (by rw [in_iff]; omega), if_pos ((in_iff ..).2 (by omega))]
      · rw [if_pos k0, if_neg k1, List.append_nil, cnt_one, if_pos ((in_iff ..).2 (by omega))]
      · rw [if_neg k0, if_pos k1, List.nil_append, cnt_one, if_pos ((in_iff ..).2 (by omega))]
      · omega
  · rw [if_neg (fun h => ho h.1), if_pos (by simpa using ho), cnt_one, if_pos ((in_iff ..).2 h)]
theorem part_out {f t a b x : Int} (h : inP f t x = false) : n0P f t a b x + cntP x (subP f t a b) = 0 := by
  have h' : ¬ (0 ≤ f ∧ f < t ∧ t ≤ 1099511627776 ∧ f ≤ x ∧ x < t) := by rw [← in_iff, h]; simp
  unfold n0P subP
  by_cases hv : validP f t = false
  · rw [if_pos hv, cnt_nil]
    have : ¬ ovP f t a b = true := by
      unfold validP at hv
      rw [decide_eq_false_iff_not] at hv
      rw [ov_iff]; omega
    rw [if_neg (fun h => this h.1)]
  · rw [if_neg hv]
    have hv' : validP f t = true := by simpa using hv
    unfold validP at hv'
    rw [decide_eq_true_eq] at hv'
    by_cases ho : ovP f t a b = true
    · have ho' := (ov_iff f t a b).1 ho
      rw [if_neg (show ¬ ovP f t a b = false by rw [ho]; simp)]
      rw [if_neg (fun h => by have := (in_iff ..).1 h.2; omega)]
      have z0 : ¬ inP f a x = true := by rw [in_iff]; omega
      have z1 : ¬ inP b t x = true := by rw [in_iff]; omega
      by_cases k0 : f < a <;> by_cases k1 : b < t
      · rw [if_pos k0, if_pos k1, cnt_snoc, cnt_one, if_neg z0, if_neg z1]
      · rw [if_pos k0, if_neg k1, List.append_nil, cnt_one, if_neg z0]
      · rw [if_neg k0, if_pos k1, List.nil_append, cnt_one, if_neg z1]
      · rw [if_neg k0, if_neg k1, List.nil_append, cnt_nil]
    · rw [if_neg (fun h => ho h.1), if_pos (by simpa using ho), cnt_one, if_neg (by rw [h]; simp)]
theorem merge_in {f t a b m n x : Int} (h : mergeP f t a b = (m, n, true)) : inP m n x = (inP f t x || inP a b x) := by
  unfold mergeP at h
  split at h
  · rename_i hc
    simp only [Prod.mk.injEq, and_true] at h
    obtain ⟨rfl, rfl⟩ := h
    unfold adP at hc
    rw [ov_iff, decide_eq_true_eq] at hc
    rw [Bool.eq_iff_iff, Bool.or_eq_true, in_iff, in_iff, in_iff]
    omega
  · simp at h
end Go.Proofs.YtipngnejiddkdaaDoor
