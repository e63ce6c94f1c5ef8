/-
  A built file: its length, its blocks, its searches, its prefixes. Plain laws.
-/
import Derived.Test.YtacjiocffbgkkaaGreatSegQ7
namespace Go.Proofs.YtacjiocffbgkkaaGreat
open Go.RowKit Go.Lib Go.IntWalk Go.Sort Go.Shelf

theorem bldB_err : ∀ (cs : List (List Ver)) (acc : List UInt8), (bldB acc cs).2 ≠ 0 → (bldB acc cs).1 = [] := by
  intro cs
  induction cs with
  | nil => intro acc h; exact absurd rfl h
  | cons c q ih =>
    intro acc h
    rw [bldB] at h ⊢
    by_cases he : encVsE c = 0
    · rw [if_neg (by simpa using he)] at h ⊢
      exact ih _ h
    · rw [if_pos he]
theorem bld_err {t : List UInt8} {vs : List Ver} {n : Int} (h : (bldF t vs n).2 ≠ 0) : (bldF t vs n).1 = [] := by
  unfold bldF at h ⊢
  by_cases h1 : nmW t = false
  · rw [if_pos h1]
  rw [if_neg h1] at h ⊢
  by_cases h2 : n < 1 ∨ 4096 < n
  · rw [if_pos h2]
  rw [if_neg h2] at h ⊢
  by_cases h3 : segChk none vs = 0
  · rw [if_neg (by simpa using h3)] at h ⊢
    by_cases h4 : 1048576 < (headB t vs.length ((chunks n.toNat vs).map bndF)).length
    · rw [if_pos h4]
    · rw [if_neg h4] at h ⊢
      exact bldB_err _ _ h
  · rw [if_pos h3]
theorem closed_go {x : Ver} (h : closed x = true) : (∀ v ∈ x.row, goV v) ∧ x.row.length ≤ 12 := by
  have hv := closed_valid h
  unfold validVer validRowF at hv
  simp only [Bool.and_eq_true, decide_eq_true_eq, List.all_eq_true] at hv
  exact ⟨fun v q => validV_goV (hv.2.2.2.1.1 v q), hv.2.2.2.1.2⟩
theorem encVers_len {c : List Ver} (h : ∀ x ∈ c, closed x = true) : (encVers c).length ≤ 2600 * c.length := by
  induction c with
  | nil => simp [encVers]
  | cons x q ih =>
    have h1 := (encVer_le (closed_valid (h x (List.mem_cons_self ..))) (closed_go (h x (List.mem_cons_self ..))).1).1
    have h2 := ih fun y hy => h y (List.mem_cons_of_mem _ hy)
    have e : encVers (x :: q) = encVer x ++ encVers q := rfl
    rw [e, List.length_append, List.length_cons]
    omega
theorem frsB_len {cs : List (List Ver)} (h : ∀ c ∈ cs, ∀ x ∈ c, closed x = true) : (frsB cs).length ≤ 18 * cs.length + 2600 * cs.flatten.length := by
  induction cs with
  | nil => simp [frsB]
  | cons c q ih =>
    have h1 := encVers_len (h c (List.mem_cons_self ..))
    have h2 := ih fun y hy => h y (List.mem_cons_of_mem _ hy)
    have h3 := encI_length (c.length : Nat)
    have e : frsB (c :: q) = frm (encVsB c) ++ frsB q := rfl
    rw [e, List.length_append, frm_length, List.length_cons, List.flatten_cons, List.length_append]
    unfold encVsB
    rw [List.length_append]
    omega
theorem bld_has {t b : List UInt8} {vs : List Ver} {n : Int} (h : bldF t vs n = (b, 0)) : (∀ x ∈ vs, closed x = true) ∧ 1 ≤ n.toNat ∧ (∀ c ∈ chunks n.toNat vs, 0 < c.length ∧ ∀ x ∈ c, closed x = true) ∧ (chunks n.toNat vs).flatten = vs ∧ (chunks n.toNat vs).length ≤ vs.length := by
  obtain ⟨p1, p2, p3, p4, p5, p6⟩ := bldF_parts h
  have hn1 : 1 ≤ n.toNat := by omega
  have hcl := segChk_closed p4
  refine ⟨hcl, hn1, fun c hc => ?_, chunks_flat _ hn1 vs.length vs (Nat.le_refl _), chunks_len _ hn1 vs.length vs (Nat.le_refl _)⟩
  obtain ⟨q1, _, q3⟩ := chunks_mem hn1 vs.length vs (Nat.le_refl _) c hc
  exact ⟨q1, fun x hx => hcl x (q3 x hx)⟩
theorem bld_len {t b : List UInt8} {vs : List Ver} {n : Int} (h : bldF t vs n = (b, 0)) (hl : vs.length ≤ 100) : 0 < b.length ∧ b.length ≤ 1048576 := by
  obtain ⟨p1, p2, p3, p4, p5, p6⟩ := bldF_parts h
  obtain ⟨_, _, q3, q4, q5⟩ := bld_has h
  obtain ⟨hb, _⟩ := bldB_ok _ _ _ p6
  have h1 := frsB_len (cs := chunks n.toNat vs) fun c hc => (q3 c hc).2
  rw [q4] at h1
  have ht : t.length ≤ 24 := by
    unfold nmW at p1
    simp only [Bool.and_eq_true, decide_eq_true_eq] at p1
    exact p1.1.1.2
  have h2 := hdRs_le ((chunks n.toNat vs).map bndF)
  have h3 := hdPre_le t vs.length ((chunks n.toNat vs).map bndF).length
  rw [List.length_map] at h2
  rw [hb, List.length_append, frm_length]
  unfold headB
  rw [List.length_append]
  omega
theorem chunks_num {α : Type} (n : Nat) (hn : 1 ≤ n) : ∀ (k : Nat) (l : List α), l.length ≤ k → (chunks n l).length = (l.length + n - 1) / n := by
  intro k
  induction k with
  | zero =>
    intro l h
    have : l = [] := List.eq_nil_of_length_eq_zero (by omega)
    subst this
    rw [chunks_nil]
    simp only [List.length_nil]
    exact (Nat.div_eq_of_lt (by omega)).symm
  | succ k ih =>
    intro l h
    by_cases h0 : 0 < l.length
    · rw [chunks_cons hn h0, List.length_cons, ih _ (by rw [List.length_drop]; omega), List.length_drop]
      by_cases h1 : n ≤ l.length
      · rw [show l.length + n - 1 = (l.length - n + n - 1) + n by omega, Nat.add_div_right _ (by omega)]
      · rw [Nat.div_eq_of_lt (show l.length - n + n - 1 < n by omega), show l.length + n - 1 = (l.length - 1) + n by omega, Nat.add_div_right _ (by omega), Nat.div_eq_of_lt (by omega)]
    · have : l = [] := List.eq_nil_of_length_eq_zero (by omega)
      subst this
      rw [chunks_nil]
      simp only [List.length_nil]
      exact (Nat.div_eq_of_lt (by omega)).symm
theorem fold_in {x : Ver} : ∀ (q : List Ver) (r : Rec), ((r.vf ≤ x.vf ∧ x.vt ≤ r.vt ∧ r.sf ≤ x.sf ∧ x.st ≤ r.st) ∨ x ∈ q) → (q.foldl (fun a v => joinR a (recOf v)) r).vf ≤ x.vf ∧ x.vt ≤ (q.foldl (fun a v => joinR a (recOf v)) r).vt ∧ (q.foldl (fun a v => joinR a (recOf v)) r).sf ≤ x.sf ∧ x.st ≤ (q.foldl (fun a v => joinR a (recOf v)) r).st := by
  intro q
  induction q with
  | nil =>
    intro r h
    rcases h with h | h
    · exact h
    · cases h
  | cons y q ih =>
    intro r h
    rw [List.foldl_cons]
    refine ih _ ?_
    rcases h with h | h
    · left
      unfold joinR recOf
      simp only
      omega
    · rcases List.mem_cons.1 h with rfl | h
      · left
        unfold joinR recOf
        simp only
        omega
      · exact .inr h
theorem bnd_in {c : List Ver} {x : Ver} (h : x ∈ c) : (bndF c).vf ≤ x.vf ∧ x.vt ≤ (bndF c).vt ∧ (bndF c).sf ≤ x.sf ∧ x.st ≤ (bndF c).st := by
  cases c with
  | nil => cases h
  | cons y q => exact fold_in _ _ (.inr h)
theorem ovl_bnd {c : List Ver} {x : Ver} {r : Rec} (hc : ∀ y ∈ c, validVer y = true) (h : x ∈ c) (ho : ovlR (recOf x) r = true) : ovlR (bndF c) r = true := by
  have h1 := bnd_valid hc (List.length_pos_of_mem h)
  obtain ⟨b1, b2, b3, b4⟩ := bnd_in h
  unfold ovlR ovlP recOf at ho
  unfold ovlR ovlP
  have h2 := h1
  unfold validR at h2
  rw [Bool.and_eq_true] at h2
  rw [h1, h2.1, h2.2]
  simp only [Bool.and_eq_true, decide_eq_true_eq, Bool.true_and] at ho ⊢
  refine ⟨ho.2.1, ⟨ho.2.2.1.2.1, ?_, ?_⟩, ho.2.2.2.2.1, ?_, ?_⟩ <;> omega
theorem ovl_full {x : Ver} (h : validVer x = true) : ovlR (recOf x) ⟨0, 1099511627776, 0, 1099511627776⟩ = true := by
  obtain ⟨p1, p2⟩ := valid_per h
  unfold ovlR ovlP recOf validR
  simp only [p1, p2]
  unfold validP at *
  simp only [Bool.and_eq_true, decide_eq_true_eq] at *
  simp
  omega
/-- the blocks do not matter to what is found -/
theorem srch_flat {cs : List (List Ver)} {r : Rec} (h : ∀ c ∈ cs, ∀ x ∈ c, validVer x = true) : ((cs.filter fun c => ovlR (bndF c) r).flatMap fun c => c.filter fun x => ovlR (recOf x) r) = cs.flatten.filter fun x => ovlR (recOf x) r := by
  induction cs with
  | nil => rfl
  | cons c q ih =>
    have hi := ih fun d hd => h d (List.mem_cons_of_mem _ hd)
    have hc := h c (List.mem_cons_self ..)
    rw [List.flatten_cons, List.filter_append, List.filter_cons, ← hi]
    by_cases ho : ovlR (bndF c) r = true
    · rw [if_pos ho, List.flatMap_cons]
    · rw [if_neg ho]
      have : c.filter (fun x => ovlR (recOf x) r) = [] := by
        rw [List.filter_eq_nil_iff]
        intro x hx hx2
        exact ho (ovl_bnd hc hx hx2)
      rw [this, List.nil_append]
theorem srch_found {cs : List (List Ver)} {r : Rec} (h : ∀ c ∈ cs, ∀ x ∈ c, validVer x = true) : (srchF cs r).1 = if validR r = true then cs.flatten.filter fun x => ovlR (recOf x) r else [] := by
  unfold srchF
  by_cases hr : validR r = true
  · rw [if_pos hr, if_pos hr]
    exact srch_flat h
  · rw [if_neg hr, if_neg hr]
theorem srch_full {cs : List (List Ver)} (h : ∀ c ∈ cs, 0 < c.length ∧ ∀ x ∈ c, validVer x = true) : srchF cs ⟨0, 1099511627776, 0, 1099511627776⟩ = (cs.flatten, cs.length) := by
  refine Prod.ext ?_ ?_
  · rw [srch_found fun c hc => (h c hc).2, if_pos (by decide), List.filter_eq_self.2]
    intro x hx
    obtain ⟨c, hc, hx⟩ := List.mem_flatten.1 hx
    exact ovl_full ((h c hc).2 x hx)
  · unfold srchF
    rw [if_pos (by decide)]
    simp only
    rw [List.filter_eq_self.2]
    intro c hc
    obtain ⟨h1, h2⟩ := h c hc
    exact ovl_bnd h2 (List.getElem_mem (n := 0) h1) (ovl_full (h2 _ (List.getElem_mem (n := 0) h1)))
theorem srch_le (cs : List (List Ver)) (r : Rec) : (srchF cs r).2 ≤ cs.length := by
  unfold srchF
  split
  · exact List.length_filter_le _ _
  · exact Nat.zero_le _
theorem srch_zero {cs : List (List Ver)} {r : Rec} (h : (srchF cs r).2 = 0) : (srchF cs r).1 = [] := by
  unfold srchF at h ⊢
  split
  · rename_i hr
    rw [if_pos hr] at h
    simp only at h ⊢
    rw [List.eq_nil_of_length_eq_zero h]
    rfl
  · rfl
theorem srch_bad {cs : List (List Ver)} {r : Rec} (h : validR r = false) : (srchF cs r).2 = 0 := by
  unfold srchF
  rw [if_neg (by rw [h]; simp)]
theorem bnd_one (x : Ver) : bndF [x] = recOf x := by
  unfold bndF joinR recOf
  simp
theorem chunks_ones {α : Type} : ∀ (l : List α), chunks 1 l = l.map fun x => [x] := by
  intro l
  induction l with
  | nil => rfl
  | cons x q ih =>
    rw [chunks_cons (Nat.le_refl 1) (by simp)]
    simp [ih]
theorem srch_ones (vs : List Ver) (r : Rec) : (srchF (chunks 1 vs) r).2 = (srchF (chunks 1 vs) r).1.length := by
  rw [chunks_ones]
  unfold srchF
  by_cases hr : validR r = true
  · rw [if_pos hr]
    simp only
    induction vs with
    | nil => rfl
    | cons x q ih =>
      rw [List.map_cons, List.filter_cons, bnd_one]
      by_cases ho : ovlR (recOf x) r = true
      · rw [if_pos ho, List.flatMap_cons, List.length_cons, List.length_append, ih]
        simp [ho]
        omega
      · rw [if_neg ho]
        exact ih
  · rw [if_neg hr]
    rfl
theorem num4L_take {l : List UInt8} {j k : Nat} (h : j + 4 ≤ k) : num4L (l.take k) j = num4L l j := by
  unfold num4L
  simp only [List.getD_eq_getElem?_getD]
  rw [List.getElem?_take_of_lt (by omega), List.getElem?_take_of_lt (by omega), List.getElem?_take_of_lt (by omega), List.getElem?_take_of_lt (by omega)]
theorem next_torn (a x c : List UInt8) (hx : x.length ≤ 1048576) {k : Nat} (h1 : a.length ≤ k) (h2 : k < a.length + 8 + x.length) : nextF ((a ++ (frm x ++ c)).take k) (a.length : Int) = ([], 0, 2) := by
  have hl : ((a ++ (frm x ++ c)).take k).length = k := by
    rw [List.length_take]
    simp only [List.length_append, frm_length]
    omega
  have e : frm x ++ c = be4 x.length ++ (be4 (crcSum (be4 x.length) x) ++ (x ++ c)) := by simp [frm]
  unfold nextF
  rw [Int.toNat_natCast, hl, if_neg (by omega)]
  by_cases h3 : k < a.length + 8
  · rw [if_pos h3]
  · have n1 : num4L ((a ++ (frm x ++ c)).take k) a.length = x.length := by
      rw [num4L_take (by omega), e]
      exact num4_mid a _ _ (by omega)
    rw [if_neg h3, n1, if_neg (by omega), if_pos (by omega)]
theorem next_take (a x c : List UInt8) (hx : x.length ≤ 1048576) {k : Nat} (h : a.length + 8 + x.length ≤ k) : nextF ((a ++ (frm x ++ c)).take k) (a.length : Int) = (x, (a.length : Int) + 8 + (x.length : Nat), 0) := by
  have e : (a ++ (frm x ++ c)).take k = a ++ (frm x ++ c.take (k - a.length - (frm x).length)) := by
    rw [List.take_append, List.take_append, List.take_of_length_le (by omega), List.take_of_length_le (l := frm x) (by rw [frm_length]; omega)]
  rw [e]
  exact next_frame a x _ hx
theorem opnL_torn : ∀ (cs : List (List Ver)) (a : List UInt8) (k : Nat), (∀ c ∈ cs, encVsE c = 0) → a.length ≤ k → k < (a ++ frsB cs).length → (opnL ((a ++ frsB cs).take k) cs.length (a.length : Int)).2.2 = 2 := by
  intro cs
  induction cs with
  | nil => intro a k _ h1 h2; simp [frsB] at h2; omega
  | cons c q ih =>
    intro a k h h1 h2
    have hc := h c (List.mem_cons_self ..)
    have e0 : a ++ frsB (c :: q) = a ++ (frm (encVsB c) ++ frsB q) := by simp [frsB]
    rw [e0] at h2 ⊢
    rw [List.length_cons, opnL]
    by_cases h3 : k < a.length + 8 + (encVsB c).length
    · rw [next_torn a _ _ (encVsB_le hc) h1 h3]
      simp
    · have e1 := next_take a (encVsB c) (frsB q) (encVsB_le hc) (k := k) (by omega)
      have e2 : (a.length : Int) + 8 + ((encVsB c).length : Nat) = ((a ++ frm (encVsB c)).length : Int) := by rw [List.length_append, frm_length]; omega
      rw [e2] at e1
      have e3 := ih (a ++ frm (encVsB c)) k (fun d hd => h d (List.mem_cons_of_mem _ hd)) (by rw [List.length_append, frm_length]; omega) (by rw [List.append_assoc]; exact h2)
      rw [show (a ++ frm (encVsB c)) ++ frsB q = a ++ (frm (encVsB c) ++ frsB q) by simp] at e3
      rw [e1]
      simp only
      rw [decVersions_put c hc]
      simp only
      rw [if_neg (by simp), if_neg (by simp)]
      exact e3
theorem opn_torn {t b : List UInt8} {vs : List Ver} {n : Int} (h : bldF t vs n = (b, 0)) (hl : vs.length ≤ 1048576) {k : Nat} (hk : k < b.length) : opnF (b.take k) = (([], []), 2) := by
  obtain ⟨p1, p2, p3, p4, p5, p6⟩ := bldF_parts h
  have hn1 : 1 ≤ n.toNat := by omega
  obtain ⟨hb, henc⟩ := bldB_ok _ _ _ p6
  have ht : t.length ≤ 24 := by
    unfold nmW at p1
    simp only [Bool.and_eq_true, decide_eq_true_eq] at p1
    exact p1.1.1.2
  have hval : ∀ c ∈ chunks n.toNat vs, validR (bndF c) = true := fun c hc => by
    obtain ⟨q1, _, q3⟩ := chunks_mem hn1 vs.length vs (Nat.le_refl _) c hc
    exact bnd_valid (fun x hx => closed_valid (segChk_closed p4 x (q3 x hx))) q1
  have hcl := chunks_len n.toNat hn1 vs.length vs (Nat.le_refl _)
  obtain ⟨H, hH⟩ : ∃ H, H = headB t vs.length ((chunks n.toNat vs).map bndF) := ⟨_, rfl⟩
  rw [← hH] at hb p5
  have e2 : prsF H = (t, ((chunks n.toNat vs).length : Int), 0) := by
    rw [hH, prsF_put t vs.length _ (by omega) (by omega) (fun q hq => by
      obtain ⟨c, hc, rfl⟩ := List.mem_map.1 hq
      exact hval c hc) (by rw [List.length_map]; omega), List.length_map]
  unfold opnF
  by_cases h3 : k < 8 + H.length
  · have e1 := next_torn [] H (frsB (chunks n.toNat vs)) (by omega) (k := k) (Nat.zero_le _) (by simp; omega)
    simp only [List.nil_append, List.length_nil] at e1
    rw [show ((0 : Nat) : Int) = 0 from rfl, ← hb] at e1
    rw [e1]
    simp
  · have e1 : nextF (b.take k) 0 = (H, ((frm H).length : Int), 0) := by
      have := next_take [] H (frsB (chunks n.toNat vs)) (by omega) (k := k) (by simp; omega)
      simp only [List.nil_append, List.length_nil] at this
      rw [show ((0 : Nat) : Int) = 0 from rfl, ← hb] at this
      rw [this, frm_length]
      simp only [Prod.mk.injEq, and_true, true_and]
      omega
    have e3 : (opnL (b.take k) (chunks n.toNat vs).length ((frm H).length : Int)).2.2 = 2 := by
      rw [hb]
      exact opnL_torn _ _ k henc (by rw [frm_length]; omega) (by rw [← hb]; exact hk)
    simp only [e1, e2, Int.toNat_natCast]
    rw [if_neg (by simp), if_neg (by simp), if_pos (by rw [e3]; decide), e3]
end Go.Proofs.YtacjiocffbgkkaaGreat
