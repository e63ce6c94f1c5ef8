/-
  Few versions: a file is built but where the versions are wrong, whatever the size of the blocks. Plain laws.
-/
import Derived.Test.YtacjiocffbgkkaaSegR
namespace Go.Proofs.Ytacjiocffbgkkaa
open Go.RowKit Go.Lib Go.IntWalk Go.Sort Go.Shelf

theorem segChk_none {p : Option Ver} {xs : List Ver} (h : segChk p xs = 0) : segChk none xs = 0 := by
  cases xs with
  | nil => rfl
  | cons x r =>
    rw [segChk_cons] at h ⊢
    split at h
    · rename_i h1
      rw [if_pos h1, if_pos (show okPrev none x = true from rfl)]
      split at h
      · exact h
      · cases h
    · cases h
theorem segChk_drop : ∀ (xs : List Ver) (n : Nat), segChk none xs = 0 → segChk none (xs.drop n) = 0 := by
  intro xs
  induction xs with
  | nil => intro n _; simp [segChk]
  | cons x r ih =>
    intro n h
    cases n with
    | zero => exact h
    | succ n =>
      rw [List.drop_succ_cons]
      rw [segChk_cons] at h
      split at h
      · split at h
        · exact ih n (segChk_none h)
        · cases h
      · cases h
theorem segChk_take : ∀ (xs : List Ver) (p : Option Ver) (n : Nat), segChk p xs = 0 → chkFrom p (xs.take n) = 0 := by
  intro xs
  induction xs with
  | nil => intro p n _; simp [chkFrom]
  | cons x r ih =>
    intro p n h
    cases n with
    | zero => simp [chkFrom]
    | succ n =>
      rw [List.take_succ_cons, chkFrom_cons]
      rw [segChk_cons] at h
      split at h
      · rename_i h1
        rw [if_pos (closed_valid h1)]
        split at h
        · rename_i h2
          rw [if_pos h2]
          exact ih _ n h
        · cases h
      · cases h
theorem chunks_chk {n : Nat} (hn : 1 ≤ n) : ∀ (k : Nat) (vs : List Ver), vs.length ≤ k → segChk none vs = 0 → ∀ c ∈ chunks n vs, chkFrom none c = 0 := by
  intro k
  induction k with
  | zero =>
    intro vs h _ c hc
    have : vs = [] := List.eq_nil_of_length_eq_zero (by omega)
    subst this
    rw [chunks_nil] at hc
    cases hc
  | succ k ih =>
    intro vs h hs c hc
    by_cases h0 : 0 < vs.length
    · rw [chunks_cons hn h0] at hc
      rcases List.mem_cons.1 hc with rfl | hc
      · exact segChk_take vs none n hs
      · exact ih _ (by rw [List.length_drop]; omega) (segChk_drop vs n hs) c hc
    · have : vs = [] := List.eq_nil_of_length_eq_zero (by omega)
      subst this
      rw [chunks_nil] at hc
      cases hc
theorem bldB_all : ∀ (cs : List (List Ver)) (acc : List UInt8), (∀ c ∈ cs, encVsE c = 0) → (bldB acc cs).2 = 0 := by
  intro cs
  induction cs with
  | nil => intro acc _; rfl
  | cons c q ih =>
    intro acc h
    rw [bldB, if_neg (by simpa using h c (List.mem_cons_self ..))]
    exact ih _ fun d hd => h d (List.mem_cons_of_mem _ hd)
/-- the error of a built file of few versions -/
theorem bld_few {vs : List Ver} {n : Int} (hl : vs.length ≤ 100) (h1 : 1 ≤ n) (h2 : n ≤ 100) : (bldF [116] vs n).2 = segChk none vs := by
  unfold bldF
  rw [if_neg (by decide), if_neg (by omega)]
  by_cases h3 : segChk none vs = 0
  · rw [if_neg (by simpa using h3)]
    have hn1 : 1 ≤ n.toNat := by omega
    have hcl := chunks_len n.toNat hn1 vs.length vs (Nat.le_refl _)
    have e1 := hdRs_le ((chunks n.toNat vs).map bndF)
    have e2 := hdPre_le [116] vs.length ((chunks n.toNat vs).map bndF).length
    rw [List.length_map] at e1
    have e3 : (headB [116] vs.length ((chunks n.toNat vs).map bndF)).length ≤ 1048576 := by
      unfold headB
      rw [List.length_append]
      simp only [List.length_cons, List.length_nil] at e2
      omega
    rw [if_neg (by omega), h3]
    refine bldB_all _ _ fun c hc => ?_
    obtain ⟨_, q2, q3⟩ := chunks_mem hn1 vs.length vs (Nat.le_refl _) c hc
    have hcc := segChk_closed h3
    have e4 := encVers_len (c := c) fun x hx => hcc x (q3 x hx)
    have e5 := encI_length (c.length : Nat)
    unfold encVsE encVsB
    rw [if_neg (by omega), if_neg (by rw [chunks_chk hn1 vs.length vs (Nat.le_refl _) h3 c hc]; simp), if_neg (by rw [List.length_append]; omega)]
  · rw [if_pos h3]
end Go.Proofs.Ytacjiocffbgkkaa
