/-
  A row of versions, written in place; insertion into a sorted list. Plain lemmas.
-/
import Derived.Test.YtkhmjlahlcighaaVerJ
namespace Go.Proofs.Ytkhmjlahlcighaa
open Go.RowKit Go.Lib Go.IntWalk Go.Sort Go.Shelf

theorem own_setC {w : World} {base g cap n size : Nat} {e : TypeId} {cs : List Value} (h : w.ownsRow base e size (.slice (some ⟨g, 0, none⟩) n cap) n cs) (j : Nat) (u : Value) : (w.setCell ⟨g, j, none⟩ u).ownsRow base e size (.slice (some ⟨g, 0, none⟩) n cap) n (cs.set j u) := by
  obtain ⟨hl, h⟩ := h
  rcases h with ⟨e0, _⟩ | ⟨g', cap', cur, e0, hB, hg, hnc, hcm, hcs, htake⟩
  · cases e0
  · injection e0 with e1 e2 e3
    injection e1 with e1; injection e1 with e1
    subst e1; subst e3
    refine ⟨by rw [List.length_set]; exact hl, .inr ⟨g, cap, cur.setIfInBounds j u, rfl, hB, ?_, hnc, hcm, by simpa using hcs, ?_⟩⟩
    · exact heap_setCell_same w g j cur e u hg
    · rw [Array.toList_setIfInBounds, List.take_set, htake]
def set9 (cs : List Value) (o : Nat) (c0 c1 c2 c3 c4 c5 c6 c7 c8 : Value) : List Value := ((((((((cs.set o c0).set (o + 1) c1).set (o + 2) c2).set (o + 3) c3).set (o + 4) c4).set (o + 5) c5).set (o + 6) c6).set (o + 7) c7).set (o + 8) c8
theorem cellsP_set9 (Q : List VP) (i : Nat) (hi : i < Q.length) (p : VP) (c0 c1 c2 c3 c4 c5 c6 c7 c8 : Value) (he : p.1.enc = [c0, c1, c2, c3, c4, c5, c6, c7, c8]) : cellsP (Q.set i p) = set9 (cellsP Q) (i * 9) c0 c1 c2 c3 c4 c5 c6 c7 c8 := by
  induction Q generalizing i with
  | nil => simp at hi
  | cons a r ih =>
    cases i with
    | zero =>
      have ea : a.1.enc = [.int .i64 a.1.id, .int .i64 a.1.sch, .slice a.1.rA a.1.rn a.1.rc, .int .i64 a.1.vf, .int .i64 a.1.vt, .int .i64 a.1.sf, .int .i64 a.1.st, .int .i64 a.1.by_, .int .i64 a.1.un] := rfl
      simp only [cellsP, List.set_cons_zero, List.flatMap_cons, he, ea, Nat.zero_mul, Nat.zero_add, set9, List.cons_append, List.nil_append, List.set_cons_zero, List.set_cons_succ]
    | succ i =>
      have := ih i (by simpa using hi)
      simp only [cellsP, List.set_cons_succ, List.flatMap_cons] at this ⊢
      rw [this]
      have hl : a.1.enc.length = 9 := rfl
      unfold set9
      rw [show (i + 1) * 9 = i * 9 + 9 by omega]
      simp only [List.set_append_right (i * 9 + 9) _ (show a.1.enc.length ≤ i * 9 + 9 by omega), List.set_append_right (i * 9 + 9 + 1) _ (show a.1.enc.length ≤ i * 9 + 9 + 1 by omega), List.set_append_right (i * 9 + 9 + 2) _ (show a.1.enc.length ≤ i * 9 + 9 + 2 by omega), List.set_append_right (i * 9 + 9 + 3) _ (show a.1.enc.length ≤ i * 9 + 9 + 3 by omega), List.set_append_right (i * 9 + 9 + 4) _ (show a.1.enc.length ≤ i * 9 + 9 + 4 by omega), List.set_append_right (i * 9 + 9 + 5) _ (show a.1.enc.length ≤ i * 9 + 9 + 5 by omega), List.set_append_right (i * 9 + 9 + 6) _ (show a.1.enc.length ≤ i * 9 + 9 + 6 by omega), List.set_append_right (i * 9 + 9 + 7) _ (show a.1.enc.length ≤ i * 9 + 9 + 7 by omega), List.set_append_right (i * 9 + 9 + 8) _ (show a.1.enc.length ≤ i * 9 + 9 + 8 by omega), hl]
      simp only [show i * 9 + 9 - 9 = i * 9 by omega, show i * 9 + 9 + 1 - 9 = i * 9 + 1 by omega, show i * 9 + 9 + 2 - 9 = i * 9 + 2 by omega, show i * 9 + 9 + 3 - 9 = i * 9 + 3 by omega, show i * 9 + 9 + 4 - 9 = i * 9 + 4 by omega, show i * 9 + 9 + 5 - 9 = i * 9 + 5 by omega, show i * 9 + 9 + 6 - 9 = i * 9 + 6 by omega, show i * 9 + 9 + 7 - 9 = i * 9 + 7 by omega, show i * 9 + 9 + 8 - 9 = i * 9 + 8 by omega]
/-- nine cells written -/
def put9 (w : World) (g o : Nat) (c0 c1 c2 c3 c4 c5 c6 c7 c8 : Value) : World := ((((((((w.setCell ⟨g, o, none⟩ c0).setCell ⟨g, o + 1, none⟩ c1).setCell ⟨g, o + 2, none⟩ c2).setCell ⟨g, o + 3, none⟩ c3).setCell ⟨g, o + 4, none⟩ c4).setCell ⟨g, o + 5, none⟩ c5).setCell ⟨g, o + 6, none⟩ c6).setCell ⟨g, o + 7, none⟩ c7).setCell ⟨g, o + 8, none⟩ c8
theorem own_put9 {w : World} {base g cap : Nat} {Q : List VP} (h : OwnP w base (.slice (some ⟨g, 0, none⟩) Q.length cap) Q) {i : Nat} (hi : i < Q.length) (p : VP) (c0 c1 c2 c3 c4 c5 c6 c7 c8 : Value) (he : p.1.enc = [c0, c1, c2, c3, c4, c5, c6, c7, c8]) :
    OwnP (put9 w g (i * 9) c0 c1 c2 c3 c4 c5 c6 c7 c8) base (.slice (some ⟨g, 0, none⟩) Q.length cap) (Q.set i p) := by
  unfold OwnP
  rw [cellsP_set9 Q i hi p _ _ _ _ _ _ _ _ _ he, List.length_set]
  exact own_setC (own_setC (own_setC (own_setC (own_setC (own_setC (own_setC (own_setC (own_setC h _ c0) _ c1) _ c2) _ c3) _ c4) _ c5) _ c6) _ c7) _ c8
theorem chg_put9 (w : World) (g o : Nat) (c0 c1 c2 c3 c4 c5 c6 c7 c8 : Value) : Chg (· = g) w (put9 w g o c0 c1 c2 c3 c4 c5 c6 c7 c8) :=
  ((((((((((Chg.refl (fun x => x = g) w).setCell (p := ⟨g, o, none⟩) (.inl rfl) c0).setCell (p := ⟨g, o + 1, none⟩) (.inl rfl) c1).setCell (p := ⟨g, o + 2, none⟩) (.inl rfl) c2).setCell (p := ⟨g, o + 3, none⟩) (.inl rfl) c3).setCell (p := ⟨g, o + 4, none⟩) (.inl rfl) c4).setCell (p := ⟨g, o + 5, none⟩) (.inl rfl) c5).setCell (p := ⟨g, o + 6, none⟩) (.inl rfl) c6).setCell (p := ⟨g, o + 7, none⟩) (.inl rfl) c7).setCell (p := ⟨g, o + 8, none⟩) (.inl rfl) c8)
theorem own_rdG {w : World} {base g cap : Nat} {Q : List VP} (h : OwnP w base (.slice (some ⟨g, 0, none⟩) Q.length cap) Q) : RdG w g Q := by
  have := holdsP_rdG (own_holdsP h)
  simpa using this
theorem OwnP.keep {w w' : World} {base : Nat} {v : Value} {Q : List VP} (h : OwnP w base v Q) (hb : Below w.heap.size w w') : OwnP w' base v Q := own_below h hb

section
variable {α : Type}
/-- z put in at place i -/
def ins (Q : List α) (i : Nat) (z : α) : List α := Q.take i ++ z :: Q.drop i
theorem ins_length (Q : List α) (i : Nat) (z : α) (hi : i ≤ Q.length) : (ins Q i z).length = Q.length + 1 := by simp [ins]; omega
theorem ins_end (Q : List α) (z : α) : ins Q Q.length z = Q ++ [z] := by simp [ins]
theorem ins_set (Q : List α) (i : Nat) (z q : α) (hi : i ≤ Q.length) : (ins Q i z).set i q = ins Q i q := by
  unfold ins
  rw [List.set_append_right _ _ (by rw [List.length_take]; omega), List.length_take, show i - min i Q.length = 0 by omega, List.set_cons_zero]
theorem ins_prev (Q : List α) (i : Nat) (z : α) (h0 : 0 < i) (hi : i ≤ Q.length) : (ins Q i z)[i - 1]? = some (Q[i - 1]'(by omega)) := by
  unfold ins
  rw [List.getElem?_append_left (by rw [List.length_take]; omega), List.getElem?_take, if_pos (by omega), List.getElem?_eq_getElem]
theorem ins_shift (Q : List α) (i : Nat) (h0 : 0 < i) (hi : i ≤ Q.length) : ins Q i (Q[i - 1]'(by omega)) = ins Q (i - 1) (Q[i - 1]'(by omega)) := by
  obtain ⟨k, rfl⟩ : ∃ k, i = k + 1 := ⟨i - 1, by omega⟩
  have hk : k < Q.length := by omega
  simp only [Nat.add_sub_cancel]
  unfold ins
  rw [List.take_succ_eq_append_getElem hk, List.drop_eq_getElem_cons hk, List.append_assoc]
  rfl
theorem ins_perm (Q : List α) (i : Nat) (z : α) : (ins Q i z).Perm (Q ++ [z]) := by
  unfold ins
  have h1 : (Q.take i ++ z :: Q.drop i).Perm (z :: (Q.take i ++ Q.drop i)) := List.perm_middle
  rw [List.take_append_drop] at h1
  exact h1.trans (List.perm_append_comm (l₁ := [z]) (l₂ := Q))
end
theorem ins_sorted {Q : List VP} {i : Nat} {p : VP} (hi : i ≤ Q.length) (hs : (Q.map (·.2)).Pairwise ltVP) (hd : ∀ q ∈ Q.drop i, ltVP p.2 q.2) (hp : ∀ h : 0 < i, ltVP (Q[i - 1]'(by omega)).2 p.2) : ((ins Q i p).map (·.2)).Pairwise ltVP := by
  rw [List.pairwise_map] at hs ⊢
  have h3 : (Q.take i ++ Q.drop i).Pairwise (fun a b : VP => ltVP a.2 b.2) := by rw [List.take_append_drop]; exact hs
  rw [List.pairwise_append] at h3
  unfold ins
  rw [List.pairwise_append, List.pairwise_cons]
  refine ⟨h3.1, ⟨hd, h3.2.1⟩, fun a ha b hb => ?_⟩
  rcases List.mem_cons.1 hb with rfl | hb
  · obtain ⟨j, hj, rfl⟩ := List.mem_iff_getElem.1 ha
    rw [List.length_take] at hj
    rw [List.getElem_take]
    by_cases c : j = i - 1
    · subst c; exact hp (by omega)
    · refine ltV_trans ?_ (hp (by omega))
      exact (List.pairwise_iff_getElem.1 hs) j (i - 1) (by omega) (by omega) (by omega)
  · exact h3.2.2 a ha b hb
theorem drop_lt {Q : List VP} {i : Nat} {x : Ver} (h0 : 0 < i) (hi : i ≤ Q.length) (hd : ∀ q ∈ Q.drop i, ltVP x q.2) (h : ltVP x (Q[i - 1]'(by omega)).2) : ∀ q ∈ Q.drop (i - 1), ltVP x q.2 := by
  intro q hq
  obtain ⟨k, rfl⟩ : ∃ k, i = k + 1 := ⟨i - 1, by omega⟩
  have hk : k < Q.length := by omega
  simp only [Nat.add_sub_cancel] at hq h
  rw [List.drop_eq_getElem_cons hk] at hq
  rcases List.mem_cons.1 hq with rfl | hq
  · exact h
  · exact hd q hq
/-- two that are alike: no merging -/
theorem not_cmp {all done Q : List VP} {p q : VP} {rest : List VP} (ha : all = done ++ p :: rest) (hp : Q.Perm done) (hq : q ∈ Q) (h1 : ltV p.2 q.2 = false) (h2 : ltV q.2 p.2 = false) : ¬ (all.map (·.2)).Pairwise cmpb := by
  intro h
  rw [ha, List.map_append, List.pairwise_append] at h
  rcases h.2.2 q.2 (List.mem_map.2 ⟨q, hp.subset hq, rfl⟩) p.2 (by rw [List.map_cons]; exact List.mem_cons_self ..) with h3 | h3
  · rw [h2] at h3; cases h3
  · rw [h1] at h3; cases h3
theorem all_split {ls : List LVP} {k j : Nat} (hk : k < ls.length) (hj : j < ls[k].2.length) : ∃ rest, allP ls = (allP (ls.take k) ++ ls[k].2.take j) ++ ls[k].2[j] :: rest := by
  refine ⟨ls[k].2.drop (j + 1) ++ allP (ls.drop (k + 1)), ?_⟩
  have e1 : allP ls = allP (ls.take k) ++ allP (ls.drop k) := by unfold allP; rw [← List.flatMap_append, List.take_append_drop]
  have e2 : allP (ls.drop k) = ls[k].2 ++ allP (ls.drop (k + 1)) := by rw [List.drop_eq_getElem_cons hk]; rfl
  have e3 : ls[k].2 = ls[k].2.take j ++ ls[k].2[j] :: ls[k].2.drop (j + 1) := by
    rw [← List.drop_eq_getElem_cons hj, List.take_append_drop]
  rw [e1, e2]
  conv => lhs; rw [e3]
  simp only [List.append_assoc, List.cons_append]
end Go.Proofs.Ytkhmjlahlcighaa
