/-
  The reference's reader of files: it answers as the code does. Plain laws.
-/
import Derived.Test.YtacjiocffbgkkaaGreatSegT
namespace Go.Proofs.YtacjiocffbgkkaaGreat
open Go.RowKit Go.Lib Go.IntWalk Go.Sort Go.Shelf

/-- the reference's size of blocks -/
def szR : List (List Ver) → Nat
  | [] => 1
  | x :: _ => x.length
/-- the table and the lists of versions of a file, or the error: the reference -/
def ropnF (l : List UInt8) : (List UInt8 × List (List Ver)) × Int :=
  if (nextF l 0).2.2 ≠ 0 then (([], []), (nextF l 0).2.2)
  else if (prsF (nextF l 0).1).2.2 ≠ 0 then (([], []), (prsF (nextF l 0).1).2.2)
  else if (opnL l (prsF (nextF l 0).1).2.1.toNat (nextF l 0).2.1).2.2 ≠ 0 then (([], []), (opnL l (prsF (nextF l 0).1).2.1.toNat (nextF l 0).2.1).2.2)
  else if (opnL l (prsF (nextF l 0).1).2.1.toNat (nextF l 0).2.1).2.1 < l.length then (([], []), 3)
  else if (bldF (prsF (nextF l 0).1).1 (opnL l (prsF (nextF l 0).1).2.1.toNat (nextF l 0).2.1).1.flatten (szR (opnL l (prsF (nextF l 0).1).2.1.toNat (nextF l 0).2.1).1)).2 ≠ 0 ∨ (bldF (prsF (nextF l 0).1).1 (opnL l (prsF (nextF l 0).1).2.1.toNat (nextF l 0).2.1).1.flatten (szR (opnL l (prsF (nextF l 0).1).2.1.toNat (nextF l 0).2.1).1)).1 ≠ l then (([], []), 24)
  else (((prsF (nextF l 0).1).1, (opnL l (prsF (nextF l 0).1).2.1.toNat (nextF l 0).2.1).1), 0)
theorem bld_zero (t : List UInt8) (vs : List Ver) : (bldF t vs 0).2 ≠ 0 := by
  unfold bldF
  by_cases h1 : nmW t = false
  · rw [if_pos h1]; simp
  · rw [if_neg h1, if_pos (.inl (by decide))]; simp
theorem opnL_len {l : List UInt8} : ∀ (n : Nat) (k m : Int) (dn : List (List Ver)), k ≤ l.length → opnL l n k = (dn, m, 0) → (dn.flatten.length : Int) + k ≤ m ∧ m ≤ l.length ∧ dn.length = n := by
  intro n
  induction n with
  | zero =>
    intro k m dn hk h
    simp only [opnL, Prod.mk.injEq, and_true] at h
    obtain ⟨rfl, rfl⟩ := h
    simp
    exact hk
  | succ n ih =>
    intro k m dn hk h
    rw [opnL] at h
    rcases hN : nextF l k with ⟨b, k2, e⟩
    rw [hN] at h
    simp only at h
    by_cases he : e = 0
    · subst he
      rw [if_neg (by simp)] at h
      have hD := decVersions_len b
      rcases hd : decVersions b with ⟨vs, e2⟩
      rw [hd] at h hD
      simp only at h hD
      by_cases he2 : e2 = 0
      · subst he2
        rw [if_neg (by simp)] at h
        rcases ho : opnL l n k2 with ⟨ds, m2, e3⟩
        rw [ho] at h
        simp only [Prod.mk.injEq] at h
        obtain ⟨rfl, rfl, rfl⟩ := h
        have hg := nextF_gt hN
        obtain ⟨i1, i2, i3⟩ := ih k2 _ ds hg.2.2 ho
        rw [List.flatten_cons, List.length_append, List.length_cons]
        omega
      · rw [if_pos he2] at h
        simp only [Prod.mk.injEq] at h
        exact absurd h.2.2 he2
    · rw [if_pos he] at h
      simp only [Prod.mk.injEq] at h
      exact absurd h.2.2 he
theorem opn_parts {l t : List UInt8} {dn : List (List Ver)} (h : opnF l = ((t, dn), 0)) : ∃ (k m : Int) (n : Nat), 0 ≤ k ∧ k ≤ l.length ∧ opnL l n k = (dn, m, 0) ∧ bldF t dn.flatten (szF dn) = (l, 0) := by
  unfold opnF at h
  rcases hN : nextF l 0 with ⟨b, k, e⟩
  rw [hN] at h
  simp only at h
  by_cases he : e = 0
  · subst he
    rw [if_neg (by simp)] at h
    rcases hp : prsF b with ⟨tb, n, e1⟩
    rw [hp] at h
    simp only at h
    by_cases h1 : e1 = 0
    · subst h1
      rw [if_neg (by simp)] at h
      rcases ho : opnL l n.toNat k with ⟨ds, m, e2⟩
      rw [ho] at h
      simp only at h
      by_cases h2 : e2 = 0
      · subst h2
        rw [if_neg (by simp)] at h
        by_cases h3 : m < l.length
        · rw [if_pos h3] at h
          simp at h
        · rw [if_neg h3] at h
          by_cases h4 : (bldF tb ds.flatten (szF ds)).2 ≠ 0 ∨ (bldF tb ds.flatten (szF ds)).1 ≠ l
          · rw [if_pos h4] at h
            simp at h
          · rw [if_neg h4] at h
            simp only [Prod.mk.injEq, and_true] at h
            obtain ⟨rfl, rfl⟩ := h
            simp only [not_or, Decidable.not_not] at h4
            exact ⟨k, m, n.toNat, by have := (nextF_gt hN).2.1; omega, (nextF_gt hN).2.2, ho, Prod.ext h4.2 h4.1⟩
      · rw [if_pos h2] at h
        simp only [Prod.mk.injEq] at h
        exact absurd h.2 h2
    · rw [if_pos h1] at h
      simp only [Prod.mk.injEq] at h
      exact absurd h.2 h1
  · rw [if_pos he] at h
    simp only [Prod.mk.injEq] at h
    exact absurd h.2 he
theorem opn_bld_eq {l t : List UInt8} {dn : List (List Ver)} (h : opnF l = ((t, dn), 0)) (hl : l.length ≤ 1048576) : dn.flatten.length ≤ l.length ∧ dn = chunks (szF dn) dn.flatten ∧ 1 ≤ szF dn ∧ bldF t dn.flatten (szF dn) = (l, 0) := by
  obtain ⟨k, m, n, h0, hk, ho, hb⟩ := opn_parts h
  have hq := opnL_len n k m dn hk ho
  have hlen : dn.flatten.length ≤ l.length := by omega
  have h2 := opn_bld hb (by omega)
  rw [h] at h2
  simp only [Prod.mk.injEq, and_true, true_and, Int.toNat_natCast] at h2
  refine ⟨hlen, h2, ?_, hb⟩
  cases dn with
  | nil => exact Nat.le_refl 1
  | cons x r => simp only [szF]; omega
theorem ropn_opn (l : List UInt8) (hl : l.length ≤ 1048576) : ropnF l = opnF l := by
  have key : ∀ t dn, opnF l = ((t, dn), 0) → szR dn = szF dn := fun t dn h => by
    obtain ⟨h1, h2, h3, h4⟩ := opn_bld_eq h hl
    cases dn with
    | nil => rfl
    | cons x r =>
      have : 0 < x.length := by
        have hx := (chunks_mem h3 (x :: r).flatten.length (x :: r).flatten (Nat.le_refl _) x (by rw [← h2]; exact List.mem_cons_self ..)).1
        exact hx
      simp only [szR, szF]
      omega
  unfold opnF at key
  unfold ropnF opnF
  by_cases h1 : (nextF l 0).2.2 ≠ 0
  · rw [if_pos h1, if_pos h1]
  rw [if_neg h1] at key
  rw [if_neg h1, if_neg h1]
  by_cases h2 : (prsF (nextF l 0).1).2.2 ≠ 0
  · rw [if_pos h2, if_pos h2]
  rw [if_neg h2] at key
  rw [if_neg h2, if_neg h2]
  obtain ⟨o, ho⟩ : ∃ o, o = opnL l (prsF (nextF l 0).1).2.1.toNat (nextF l 0).2.1 := ⟨_, rfl⟩
  rw [← ho] at key ⊢
  by_cases h3 : o.2.2 ≠ 0
  · rw [if_pos h3, if_pos h3]
  rw [if_neg h3] at key
  rw [if_neg h3, if_neg h3]
  by_cases h4 : o.2.1 < l.length
  · rw [if_pos h4, if_pos h4]
  rw [if_neg h4] at key
  rw [if_neg h4, if_neg h4]
  by_cases hz : szR o.1 = szF o.1
  · rw [hz]
  · have hR : szR o.1 = 0 := by
      cases hc : o.1 with
      | nil => rw [hc] at hz; exact absurd rfl hz
      | cons x r =>
        rw [hc] at hz
        simp only [szR, szF] at hz ⊢
        omega
    rw [hR, if_pos (.inl (bld_zero _ _))]
    by_cases h5 : (bldF (prsF (nextF l 0).1).1 o.1.flatten (szF o.1)).2 ≠ 0 ∨ (bldF (prsF (nextF l 0).1).1 o.1.flatten (szF o.1)).1 ≠ l
    · rw [if_pos h5]
    · rw [if_neg h5] at key
      exact absurd (key _ _ rfl) hz

/-- what the reference finds, and how many blocks it reads -/
def rsrchF (cs : List (List Ver)) (r : Rec) : List Ver × Nat := (cs.flatten.filter (fun x => ovlR (recOf x) r), (cs.filter fun c => ovlR (bndF c) r).length)
theorem ovlR_bad {a r : Rec} (h : ¬ validR r = true) : ovlR a r = false := by
  unfold ovlR
  have : validR r = false := by cases hv : validR r <;> simp_all
  rw [this]
  simp
theorem rsrch_srch {cs : List (List Ver)} {r : Rec} (h : ∀ c ∈ cs, ∀ x ∈ c, validVer x = true) : rsrchF cs r = srchF cs r := by
  refine Prod.ext ?_ ?_
  · rw [srch_found h]
    unfold rsrchF
    by_cases hr : validR r = true
    · rw [if_pos hr]
    · rw [if_neg hr]
      simp only
      rw [List.filter_eq_nil_iff]
      intro x _
      rw [ovlR_bad hr]
      simp
  · unfold rsrchF srchF
    by_cases hr : validR r = true
    · rw [if_pos hr]
    · rw [if_neg hr]
      simp only
      rw [List.length_eq_zero_iff, List.filter_eq_nil_iff]
      intro x _
      rw [ovlR_bad hr]
      simp
theorem opn_valid {l t : List UInt8} {dn : List (List Ver)} (h : opnF l = ((t, dn), 0)) (hl : l.length ≤ 1048576) : ∀ c ∈ dn, 0 < c.length ∧ ∀ x ∈ c, validVer x = true := by
  obtain ⟨h1, h2, h3, h4⟩ := opn_bld_eq h hl
  obtain ⟨_, _, q3, _, _⟩ := bld_has h4
  rw [Int.toNat_natCast, ← h2] at q3
  exact fun c hc => ⟨(q3 c hc).1, fun x hx => closed_valid ((q3 c hc).2 x hx)⟩
end Go.Proofs.YtacjiocffbgkkaaGreat
