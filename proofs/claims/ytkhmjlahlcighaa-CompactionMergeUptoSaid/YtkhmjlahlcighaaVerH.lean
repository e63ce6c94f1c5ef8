/-
  compaction.Merge.
-/
import Derived.Test.YtkhmjlahlcighaaVerG
namespace Go.Proofs.Ytkhmjlahlcighaa
open Go.RowKit Go.Lib Go.IntWalk Go.Sort Go.Shelf

def mchk : List (List Ver) → Int
  | [] => 0
  | x :: r => if chkFrom none x = 0 then mchk r else chkFrom none x
theorem mchk_valid {xss : List (List Ver)} (h : mchk xss = 0) : ∀ x ∈ xss.flatten, validVer x = true := by
  induction xss with
  | nil => intro x hx; simp at hx
  | cons a r ih =>
    rw [mchk] at h
    split at h
    · rename_i h0
      intro x hx
      rw [List.flatten_cons, List.mem_append] at hx
      rcases hx with hx | hx
      · exact chkFrom_valid h0 x hx
      · exact ih h x hx
    · rename_i h0; exact absurd h h0
def ltVP (a b : Ver) : Prop := ltV a b = true
def cmpb (a b : Ver) : Prop := ltV a b = true ∨ ltV b a = true
/-- what merging lists of versions gives -/
def MSpec (xss : List (List Ver)) (r : Int) (ys : List Ver) : Prop :=
  (mchk xss ≠ 0 → r = mchk xss ∧ ys = []) ∧ (mchk xss = 0 → (r = 0 ∧ ys.Perm xss.flatten ∧ ys.Pairwise ltVP) ∨ (r = 10 ∧ ys = [] ∧ ¬ xss.flatten.Pairwise cmpb))
theorem ltV_asymm {a b : Ver} (h : ltVP a b) : ¬ ltVP b a := by
  unfold ltVP ltV at *; rw [decide_eq_true_eq] at *; omega
theorem ltV_trans {a b c : Ver} (h : ltVP a b) (k : ltVP b c) : ltVP a c := by
  unfold ltVP ltV at *; rw [decide_eq_true_eq] at *; omega
theorem MSpec.unique {xss : List (List Ver)} {r r' : Int} {ys ys' : List Ver} (h : MSpec xss r ys) (h' : MSpec xss r' ys') : r = r' ∧ ys = ys' := by
  by_cases h0 : mchk xss = 0
  · have key : ∀ {zs : List Ver}, zs.Perm xss.flatten → zs.Pairwise ltVP → xss.flatten.Pairwise cmpb := fun hp hs =>
      (List.Perm.pairwise_iff (fun {x y} (h : cmpb x y) => Or.symm h) hp).1 (hs.imp fun h => Or.inl h)
    rcases h.2 h0 with ⟨rfl, hp, hs⟩ | ⟨rfl, rfl, hn⟩ <;> rcases h'.2 h0 with ⟨rfl, hp', hs'⟩ | ⟨rfl, rfl, hn'⟩
    · exact ⟨rfl, List.Perm.eq_of_pairwise (fun a b _ _ h1 h2 => absurd h2 (ltV_asymm h1)) hs hs' (hp.trans hp'.symm)⟩
    · exact absurd (key hp hs) hn'
    · exact absurd (key hp' hs') hn
    · exact ⟨rfl, rfl⟩
  · obtain ⟨rfl, rfl⟩ := h.1 h0
    obtain ⟨rfl, rfl⟩ := h'.1 h0
    exact ⟨rfl, rfl⟩
theorem pair_snoc {ys : List Ver} {i : Nat} (hi : i < ys.length) (hp : (ys.take i).Pairwise ltVP) (hl : ∀ h0 : 0 < i, ltVP (ys[i - 1]'(by omega)) ys[i]) : (ys.take (i + 1)).Pairwise ltVP := by
  rw [List.take_succ_eq_append_getElem hi, List.pairwise_append]
  refine ⟨hp, by simp, fun a ha b hb => ?_⟩
  rw [List.mem_singleton] at hb
  subst hb
  obtain ⟨j, hj, rfl⟩ := List.mem_iff_getElem.1 ha
  rw [List.length_take] at hj
  rw [List.getElem_take]
  by_cases c : j = i - 1
  · subst c; exact hl (by omega)
  · refine ltV_trans ?_ (hl (by omega))
    have := (List.pairwise_iff_getElem.1 hp) j (i - 1) (by rw [List.length_take]; omega) (by rw [List.length_take]; omega) (by omega)
    rw [List.getElem_take, List.getElem_take] at this
    exact this

def encP (p : VP) : List Value := p.1.enc
def cfP (p q : VP) : Int := cmpV p.1 q.1
theorem cmpB_P : CmpB encP cfP := fun x y w => order_any x.1 y.1 w
theorem swoP : SWO (ltOf cfP) := ⟨fun x => swoV.irrefl x.1, fun x y z => swoV.trans x.1 y.1 z.1, fun x y z => swoV.ntrans x.1 y.1 z.1⟩
theorem aggV (w : World) : (isAgg 38).run Try.prog w = .ok true w := by
  first | rfl | (simp [isAgg, go_sem]; done)
theorem sizeV (w : World) : (Go.sizeOf 38).run Try.prog w = .ok 9 w := by
  first | rfl | (simp [Go.sizeOf, go_sem]; done)

/-- block g holds the versions Q from its start -/
def RdG (w : World) (g : Nat) (Q : List VP) : Prop := ∀ t u, (cellsP Q)[t]? = some u → w.cell? ⟨g, t, none⟩ = some u ∧ w.frozen? ⟨g, t, none⟩ = false
theorem RdG.of_block {w w' : World} {g : Nat} {Q : List VP} (h : RdG w g Q) (hb : w'.heap[g]? = w.heap[g]?) : RdG w' g Q := fun t u hu =>
  ⟨(World.cell?_of_block hb).trans (h t u hu).1, (World.frozen?_of_block hb).trans (h t u hu).2⟩
theorem cellsP_get {Q : List VP} {k j : Nat} (hk : k < Q.length) (hj : j < 9) : (cellsP Q)[k * 9 + j]? = Q[k].1.enc[j]? :=
  flat_getC 9 Q (fun p => p.1.enc) (fun _ _ => rfl) k j hj _ (List.getElem?_eq_getElem hk)
theorem cellsP_set (Q : List VP) (i : Nat) (hi : i < Q.length) (p : VP) (u : Value) (he : p.1.enc = (Q[i].1.enc).set 2 u) : cellsP (Q.set i p) = (cellsP Q).set (i * 9 + 2) u := by
  induction Q generalizing i with
  | nil => simp at hi
  | cons a r ih =>
    cases i with
    | zero =>
      simp only [List.getElem_cons_zero] at he
      simp only [cellsP, List.set_cons_zero, List.flatMap_cons, he, Nat.zero_mul, Nat.zero_add]
      rw [List.set_append_left _ _ (by rw [a.1.enc_length]; omega)]
    | succ i =>
      simp only [List.getElem_cons_succ] at he
      have := ih i (by simpa using hi) he
      simp only [cellsP, List.set_cons_succ, List.flatMap_cons] at this ⊢
      rw [this, List.set_append_right _ _ (by rw [a.1.enc_length]; omega), a.1.enc_length, show (i + 1) * 9 + 2 - 9 = i * 9 + 2 by omega]
theorem RdG.set {w : World} {g : Nat} {Q : List VP} (h : RdG w g Q) {i : Nat} (hi : i < Q.length) (p : VP) (u : Value) (he : p.1.enc = (Q[i].1.enc).set 2 u) : RdG (w.setCell ⟨g, i * 9 + 2, none⟩ u) g (Q.set i p) := by
  intro t x hx
  rw [cellsP_set Q i hi p u he, List.getElem?_set] at hx
  by_cases c : i * 9 + 2 = t
  · subst c
    rw [if_pos rfl] at hx
    have hl : i * 9 + 2 < (cellsP Q).length := by rw [cellsP_length]; omega
    rw [if_pos hl] at hx
    injection hx with hx
    subst hx
    have h0 := h (i * 9 + 2) _ (List.getElem?_eq_getElem hl)
    exact ⟨World.cell?_setCell_same' w _ u (by rw [h0.1]; rfl), by rw [World.frozen?_setCell]; exact h0.2⟩
  · rw [if_neg c] at hx
    have h0 := h t x hx
    exact ⟨by
      rw [World.cell?_setCell_other]
      · exact h0.1
      · intro e; apply c; injection e, by rw [World.frozen?_setCell]; exact h0.2⟩
theorem own_holdsP {w : World} {base g cap : Nat} {ps : List VP} (h : OwnP w base (.slice (some ⟨g, 0, none⟩) ps.length cap) ps) : HoldsK encP 9 w g 0 ps.toArray := by
  obtain ⟨hl, h⟩ := h
  rcases h with ⟨e, _⟩ | ⟨g', cap', cur, e, hB, hg, hnc, hcm, hcs, htake⟩
  · cases e
  · injection e with e1 e2 e3
    injection e1 with e1; injection e1 with e1
    subst e1
    intro j hj
    rw [size_flatK] at hj
    have hj' : j < ps.length * 9 := by simpa using hj
    have hjl : j < (cellsP ps).length := by rw [cellsP_length]; exact hj'
    have h2 : (cellsP ps)[j]? = some ((flatK encP 9 ps.toArray)[j]!) := by
      rw [get_flatK _ _ _ _ hj]
      have hk : j / 9 < ps.length := by omega
      have e3 : ps.toArray[j / 9]! = ps[j / 9] := by simp [hk]
      rw [e3]
      have := cellsP_get (j := j % 9) hk (by omega)
      rw [show j / 9 * 9 + j % 9 = j by omega] at this
      rw [this]
      have h9 : j % 9 < (encP ps[j / 9]).length := by rw [encP, RV.enc_length]; omega
      show (encP ps[j / 9])[j % 9]? = some ((encP ps[j / 9])[j % 9]!)
      rw [List.getElem?_eq_getElem h9]
      simp [h9]
    have h3 : cur[j]? = some ((flatK encP 9 ps.toArray)[j]!) := by
      rw [← h2, ← htake, List.getElem?_take, if_pos (by omega), Array.getElem?_toList]
    exact ⟨by rw [Nat.zero_add]; exact (cell_of_row w g j _ _ _ hg).trans h3, by rw [Nat.zero_add]; exact frozen_of_row w g j _ _ hg⟩
theorem holdsP_rdG {w : World} {g : Nat} {d : Array VP} (h : HoldsK encP 9 w g 0 d) : RdG w g d.toList := by
  intro t u hu
  have hl : t < (cellsP d.toList).length := by
    rcases Nat.lt_or_ge t (cellsP d.toList).length with c | c
    · exact c
    · rw [List.getElem?_eq_none c] at hu; cases hu
  rw [cellsP_length, Array.length_toList] at hl
  have := h t (by rw [size_flatK]; exact hl)
  rw [Nat.zero_add, get_flatK _ _ _ _ hl] at this
  have hk : t / 9 < d.toList.length := by rw [Array.length_toList]; omega
  have h2 := cellsP_get (j := t % 9) hk (by omega)
  rw [show t / 9 * 9 + t % 9 = t by omega, hu] at h2
  have hk' : t / 9 < d.size := by omega
  have e3 : d[t / 9]! = d.toList[t / 9] := by simp [hk']
  have h9 : t % 9 < (encP d.toList[t / 9]).length := by rw [encP, RV.enc_length]; omega
  have h4 : (encP d.toList[t / 9])[t % 9]! = u := by
    have : (encP d.toList[t / 9])[t % 9]? = some u := h2.symm
    rw [List.getElem!_eq_getElem?_getD, this]; rfl
  rw [e3] at this
  have h5 : (id (encP d.toList[t / 9])[t % 9]! : Value) = u := h4
  rw [h5] at this
  exact this
def MergeOut (xss : List (List Ver)) (w0 : World) (e : Ending) (w : World) : Prop :=
  ∃ u r Q, e = .returned (.tuple #[u, .int .i64 r]) ∧ Below w0.heap.size w0 w ∧ RdVs w (· < w.heap.size) u Q ∧ MSpec xss r (Q.map (·.2))
theorem MergeOut.err {xss : List (List Ver)} {w0 w : World} {e : Ending} {r : Int} (he : e = .returned (.tuple #[.slice none 0 0, .int .i64 r])) (hb : Below w0.heap.size w0 w) (hs : MSpec xss r []) : MergeOut xss w0 e w :=
  ⟨_, r, [], he, hb, ⟨Rd.nil _ _ _, fun p hp => by cases hp⟩, hs⟩
end Go.Proofs.Ytkhmjlahlcighaa
