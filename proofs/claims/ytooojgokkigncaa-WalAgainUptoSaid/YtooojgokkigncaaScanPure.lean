/-
  What is read from frames that were written. Plain.
-/
import Derived.Test.YtooojgokkigncaaFrameJ
import Derived.Test.YtooojgokkigncaaFrameD
namespace Go.Proofs.Ytooojgokkigncaa
open Go.RowKit Go.Lib

def fsum (rs : List (List UInt8)) : Nat := (rs.map fun r => r.length + 8).sum
def frs (rs : List (List UInt8)) : List UInt8 := rs.flatMap frm
theorem fsum_append (a b : List (List UInt8)) : fsum (a ++ b) = fsum a + fsum b := by simp [fsum]
theorem fsum_cons (r : List UInt8) (rs : List (List UInt8)) : fsum (r :: rs) = r.length + 8 + fsum rs := by simp [fsum]
theorem frm_length (l : List UInt8) : (frm l).length = l.length + 8 := by simp [frm, be4_length]; omega
theorem frs_length (rs : List (List UInt8)) : (frs rs).length = fsum rs := by
  induction rs with
  | nil => rfl
  | cons r rs ih => simp only [frs, List.flatMap_cons, List.length_append, frm_length, fsum_cons] at *; rw [ih]
theorem fsum_ge (rs : List (List UInt8)) : rs.length * 8 ≤ fsum rs := by
  induction rs with
  | nil => simp
  | cons r rs ih => rw [fsum_cons, List.length_cons]; omega

theorem scanN_inv (l : List UInt8) : ∀ (f k : Nat) (acc : List (List UInt8)), k ≤ l.length →
    ∃ more, (scanN l f k acc).1 = acc ++ more ∧ (scanN l f k acc).2 = k + fsum more ∧ (∀ r ∈ more, r.length ≤ 1048576) ∧ (scanN l f k acc).2 ≤ l.length := by
  intro f
  induction f with
  | zero => intro k acc hk; exact ⟨[], by simp [scanN], by simp [scanN, fsum], fun r hr => (by cases hr), hk⟩
  | succ f ih =>
    intro k acc hk
    unfold scanN
    by_cases h : (nextF l (k : Int)).2.2 = 0
    · rw [if_pos h]
      obtain ⟨j, hj, h1, h2⟩ := nextF_ok h
      rw [hj, Int.toNat_natCast]
      obtain ⟨more, e1, e2, e3, e4⟩ := ih j (acc ++ [(nextF l (k : Int)).1]) h2
      have hb : (nextF l (k : Int)).1.length + 8 = j - k ∧ (nextF l (k : Int)).1.length ≤ 1048576 := by
        have h' := h
        unfold nextF at h' hj ⊢
        rw [Int.toNat_natCast] at h' hj ⊢
        split at h'
        · simp at h'
        split at h'
        · simp at h'
        split at h'
        · simp at h'
        split at h'
        · simp at h'
        split at h'
        · simp at h'
        rename_i q1 q2 q3 q4 q5
        rw [if_neg q1, if_neg q2, if_neg q3, if_neg q4, if_neg q5] at hj ⊢
        simp only [List.length_take, List.length_drop] at hj ⊢
        omega
      refine ⟨(nextF l (k : Int)).1 :: more, by rw [e1]; simp, by rw [e2, fsum_cons]; omega, fun r hr => ?_, e4⟩
      rcases List.mem_cons.1 hr with rfl | hr
      · exact hb.2
      · exact e3 r hr
    · rw [if_neg h]
      exact ⟨[], by simp, by simp [fsum], fun r hr => (by cases hr), hk⟩
theorem scanF_inv (l : List UInt8) : (scanF l).2 = fsum (scanF l).1 ∧ (∀ r ∈ (scanF l).1, r.length ≤ 1048576) ∧ (scanF l).2 ≤ l.length := by
  obtain ⟨more, e1, e2, e3, e4⟩ := scanN_inv l (l.length + 1) 0 [] (Nat.zero_le _)
  unfold scanF
  rw [e1, List.nil_append]
  exact ⟨by rw [e2]; omega, e3, e4⟩

theorem getD_mid (a b c : List UInt8) (k : Nat) (h : k < b.length) : (a ++ (b ++ c)).getD (a.length + k) 0 = b.getD k 0 := by
  simp only [List.getD_eq_getElem?_getD]
  rw [List.getElem?_append_right (by omega), show a.length + k - a.length = k by omega, List.getElem?_append_left h]
theorem num4_mid (a c : List UInt8) (x : Nat) (h : x < 4294967296) : num4L (a ++ (be4 x ++ c)) a.length = x := by
  have hx := num4_be4 x h
  unfold num4L at hx ⊢
  have h0 := getD_mid a (be4 x) c 0 (by rw [be4_length]; omega)
  have h1 := getD_mid a (be4 x) c 1 (by rw [be4_length]; omega)
  have h2 := getD_mid a (be4 x) c 2 (by rw [be4_length]; omega)
  have h3 := getD_mid a (be4 x) c 3 (by rw [be4_length]; omega)
  rw [Nat.add_zero] at h0
  rw [h0, h1, h2, h3]
  exact hx
theorem crcSum_lt' (a b : List UInt8) : crcSum a b < 4294967296 := by unfold crcSum; omega
theorem next_frame (a x c : List UInt8) (hx : x.length ≤ 1048576) : nextF (a ++ (frm x ++ c)) (a.length : Int) = (x, (a.length : Int) + 8 + (x.length : Nat), 0) := by
  have hl : (a ++ (frm x ++ c)).length = a.length + (x.length + 8) + c.length := by simp only [List.length_append, frm_length]; omega
  have e : frm x ++ c = be4 x.length ++ (be4 (crcSum (be4 x.length) x) ++ (x ++ c)) := by simp [frm]
  have n1 : num4L (a ++ (frm x ++ c)) a.length = x.length := by rw [e]; exact num4_mid a _ _ (by omega)
  have n2 : num4L (a ++ (frm x ++ c)) (a.length + 4) = crcSum (be4 x.length) x := by
    have := num4_mid (a ++ be4 x.length) (x ++ c) _ (crcSum_lt' (be4 x.length) x)
    rw [List.length_append, be4_length] at this
    rw [e]
    simpa [List.append_assoc] using this
  have d1 : ((a ++ (frm x ++ c)).drop a.length).take 4 = be4 x.length := by
    rw [List.drop_left, e]
    exact List.take_left' (be4_length _)
  have d2 : ((a ++ (frm x ++ c)).drop (a.length + 8)).take x.length = x := by
    have : a ++ (frm x ++ c) = (a ++ be4 x.length ++ be4 (crcSum (be4 x.length) x)) ++ (x ++ c) := by rw [e]; simp
    rw [this, List.drop_left' (by simp [be4_length])]
    exact List.take_left' rfl
  unfold nextF
  rw [Int.toNat_natCast, n1, n2, d1, d2, if_neg (by rw [hl]; omega), if_neg (by rw [hl]; omega), if_neg (by omega), if_neg (by rw [hl]; omega), if_neg (by simp)]
theorem next_end (l : List UInt8) (k : Nat) (hk : k ≤ l.length) (h : l.length < k + 8) : (nextF l (k : Int)).2.2 = 2 := by
  unfold nextF
  rw [Int.toNat_natCast, if_neg (by omega), if_pos h]
theorem scanN_end (l : List UInt8) (f k : Nat) (acc : List (List UInt8)) (hk : k ≤ l.length) (h : l.length < k + 8) : scanN l f k acc = (acc, k) := by
  cases f with
  | zero => rfl
  | succ f => unfold scanN; rw [next_end l k hk h, if_neg (by omega)]
theorem scanN_frames (rs : List (List UInt8)) : ∀ (a tail : List UInt8) (f : Nat) (acc : List (List UInt8)), (∀ r ∈ rs, r.length ≤ 1048576) → rs.length ≤ f → tail.length < 8 →
    scanN (a ++ (frs rs ++ tail)) f a.length acc = (acc ++ rs, a.length + fsum rs) := by
  induction rs with
  | nil =>
    intro a tail f acc _ _ ht
    rw [scanN_end _ f _ _ (by simp) (by simp [frs]; omega)]
    simp [fsum]
  | cons r rs ih =>
    intro a tail f acc hr hf ht
    obtain ⟨f', rfl⟩ : ∃ f', f = f' + 1 := ⟨f - 1, by simp at hf; omega⟩
    have e : frs (r :: rs) ++ tail = frm r ++ (frs rs ++ tail) := by simp [frs]
    unfold scanN
    rw [e, next_frame a r _ (hr r (List.mem_cons_self ..)), if_pos rfl]
    have ht' : ((a.length : Int) + 8 + (r.length : Nat)).toNat = (a ++ frm r).length := by rw [List.length_append, frm_length]; omega
    show scanN (a ++ (frm r ++ (frs rs ++ tail))) f' ((a.length : Int) + 8 + (r.length : Nat)).toNat (acc ++ [r]) = _
    rw [ht', ← List.append_assoc, ih (a ++ frm r) tail f' (acc ++ [r]) (fun x hx => hr x (List.mem_cons_of_mem _ hx)) (by simp at hf; omega) ht]
    simp only [List.append_assoc, List.length_append, frm_length, fsum_cons, List.singleton_append, Prod.mk.injEq, true_and]
    omega
theorem scanF_frames (rs : List (List UInt8)) (tail : List UInt8) (hr : ∀ r ∈ rs, r.length ≤ 1048576) (ht : tail.length < 8) : scanF (frs rs ++ tail) = (rs, fsum rs) := by
  have h := scanN_frames rs [] tail ((frs rs ++ tail).length + 1) [] hr (by rw [List.length_append, frs_length]; have := fsum_ge rs; omega) ht
  simpa [scanF] using h
end Go.Proofs.Ytooojgokkigncaa
