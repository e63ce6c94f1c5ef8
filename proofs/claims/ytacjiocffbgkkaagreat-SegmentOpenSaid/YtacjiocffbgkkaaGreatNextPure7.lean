/-
  What frames read as: plain laws.
-/
import Derived.Test.YtacjiocffbgkkaaGreatSegN
namespace Go.Proofs.YtacjiocffbgkkaaGreat
open Go.RowKit Go.Lib

theorem getD_mid (a b c : List UInt8) (k : Nat) (h : k < b.length) : (a ++ (b ++ c)).getD (a.length + k) 0 = b.getD k 0 := by
  simp only [List.getD_eq_getElem?_getD]
  rw [List.getElem?_append_right (by omega), show a.length + k - a.length = k by omega, List.getElem?_append_left h]
theorem num4_mid (a c : List UInt8) (x : Nat) (h : x < 4294967296) : num4L (a ++ (be4 x ++ c)) a.length = x := by
  have hx := num4_be4 x h
  unfold num4L at hx ⊢
  have h0 := getD_mid a (be4 x) c 0 (by rw [be4_length]; omega)
  have h1 := getD_mid a (be4 x) c 1 (by rw [be4_length]; omega)
  have h2 := getD_mid a (be4 x) c 2 (by rw [be4_length]; omega)
  have h3 := getD_mid a (be4 x) c 3 (by rw [be4_length]; omega)
  rw [Nat.add_zero] at h0
  rw [h0, h1, h2, h3]
  exact hx
theorem crcSum_lt' (a b : List UInt8) : crcSum a b < 4294967296 := by unfold crcSum; omega
theorem next_frame (a x c : List UInt8) (hx : x.length ≤ 1048576) : nextF (a ++ (frm x ++ c)) (a.length : Int) = (x, (a.length : Int) + 8 + (x.length : Nat), 0) := by
  have hl : (a ++ (frm x ++ c)).length = a.length + (x.length + 8) + c.length := by simp only [List.length_append, frm_length]; omega
  have e : frm x ++ c = be4 x.length ++ (be4 (crcSum (be4 x.length) x) ++ (x ++ c)) := by simp [frm]
  have n1 : num4L (a ++ (frm x ++ c)) a.length = x.length := by rw [e]; exact num4_mid a _ _ (by omega)
  have n2 : num4L (a ++ (frm x ++ c)) (a.length + 4) = crcSum (be4 x.length) x := by
    have := num4_mid (a ++ be4 x.length) (x ++ c) _ (crcSum_lt' (be4 x.length) x)
    rw [List.length_append, be4_length] at this
    rw [e]
    simpa [List.append_assoc] using this
  have d1 : ((a ++ (frm x ++ c)).drop a.length).take 4 = be4 x.length := by
    rw [List.drop_left, e]
    exact List.take_left' (be4_length _)
  have d2 : ((a ++ (frm x ++ c)).drop (a.length + 8)).take x.length = x := by
    have : a ++ (frm x ++ c) = (a ++ be4 x.length ++ be4 (crcSum (be4 x.length) x)) ++ (x ++ c) := by rw [e]; simp
    rw [this, List.drop_left' (by simp [be4_length])]
    exact List.take_left' rfl
  unfold nextF
  rw [Int.toNat_natCast, n1, n2, d1, d2, if_neg (by rw [hl]; omega), if_neg (by rw [hl]; omega), if_neg (by omega), if_neg (by rw [hl]; omega), if_neg (by simp)]
theorem be4_num4 (c0 c1 c2 c3 : UInt8) : be4 (num4 c0 c1 c2 c3) = [c0, c1, c2, c3] := by
  have h0 := c0.toNat_lt; have h1 := c1.toNat_lt; have h2 := c2.toNat_lt; have h3 := c3.toNat_lt
  simp only [be4, num4, List.map_cons, List.map_nil, List.cons.injEq, and_true]
  refine ⟨?_, ?_, ?_, ?_⟩ <;> apply UInt8.toNat_inj.1 <;> rw [UInt8.toNat_ofNat'] <;> omega
theorem take4 {l : List UInt8} {k : Nat} (h : k + 4 ≤ l.length) : (l.drop k).take 4 = be4 (num4L l k) := by
  unfold num4L
  rw [be4_num4]
  apply List.ext_getElem?
  intro i
  rw [List.getElem?_take]
  by_cases hi : i < 4
  · rw [if_pos hi, List.getElem?_drop, List.getElem?_eq_getElem (by omega)]
    have hc : i = 0 ∨ i = 1 ∨ i = 2 ∨ i = 3 := by omega
    have h0 := List.getElem?_eq_getElem (l := l) (i := k) (by omega)
    have h1 := List.getElem?_eq_getElem (l := l) (i := k + 1) (by omega)
    have h2 := List.getElem?_eq_getElem (l := l) (i := k + 2) (by omega)
    have h3 := List.getElem?_eq_getElem (l := l) (i := k + 3) (by omega)
    rcases hc with rfl | rfl | rfl | rfl <;> simp [List.getD, h0, h1, h2, h3]
  · rw [if_neg hi, List.getElem?_eq_none (by simp; omega)]
theorem next_frm {l : List UInt8} {k : Nat} (h : (nextF l (k : Int)).2.2 = 0) : (l.drop k).take ((nextF l (k : Int)).1.length + 8) = frm (nextF l (k : Int)).1 ∧ (nextF l (k : Int)).2.1 = (k : Int) + 8 + ((nextF l (k : Int)).1.length : Nat) := by
  unfold nextF at h ⊢
  rw [Int.toNat_natCast] at h ⊢
  split at h
  · simp at h
  split at h
  · simp at h
  split at h
  · simp at h
  split at h
  · simp at h
  split at h
  · simp at h
  rename_i q1 q2 q3 q4 q5
  rw [if_neg q1, if_neg q2, if_neg q3, if_neg q4, if_neg q5]
  have hlen : ((l.drop (k + 8)).take (num4L l k)).length = num4L l k := by rw [List.length_take, List.length_drop]; omega
  have q5' := Classical.not_not.1 q5
  refine ⟨?_, by rw [hlen]⟩
  simp only
  unfold frm
  rw [hlen]
  have t1 := take4 (l := l) (k := k) (by omega)
  have t2 := take4 (l := l) (k := k + 4) (by omega)
  rw [← t1, ← q5', ← t2]
  apply List.ext_getElem?
  intro i
  rw [List.getElem?_take]
  by_cases h4 : i < 4
  · rw [if_pos (by omega), List.getElem?_append_left (by rw [List.length_take, List.length_drop]; omega), List.getElem?_take, if_pos h4]
  · rw [List.getElem?_append_right (by rw [List.length_take, List.length_drop]; omega), List.length_take, List.length_drop]
    by_cases h8 : i < 8
    · rw [if_pos (by omega), List.getElem?_append_left (by rw [List.length_take, List.length_drop]; omega), List.getElem?_take, if_pos (by omega), List.getElem?_drop, List.getElem?_drop]
      congr 1; omega
    · rw [List.getElem?_append_right (by rw [List.length_take, List.length_drop]; omega), List.length_take, List.length_drop, List.getElem?_take]
      by_cases hn : i < num4L l k + 8
      · rw [if_pos hn, if_pos (by omega), List.getElem?_drop, List.getElem?_drop]
        congr 1; omega
      · rw [if_neg hn, if_neg (by omega)]
end Go.Proofs.YtacjiocffbgkkaaGreat
