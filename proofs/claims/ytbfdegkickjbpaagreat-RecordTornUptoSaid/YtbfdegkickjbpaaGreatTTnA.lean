/-
 TnA
-/
import Derived.Test.YtbfdegkickjbpaaGreatTDcP
namespace Go.Proofs.YtbfdegkickjbpaaGreat
open Go.RowKit Go.Lib Go.IntWalk Go.Sort Go.Shelf
/-- a reader -/
abbrev Rdn (α : Type) : Type := List UInt8 → Int × Int → α × Int × Int
/-- it goes on; on longer bytes it gives the same, unless these end too early -/
structure Rd0 {α : Type} (rd : Rdn α) : Prop where
 mon : ∀ l, Mon l (rd l)
 ext : ∀ l r s, (s.2 = 0 → 0 ≤ s.1 ∧ s.1 ≤ l.length) → (rd l s).2.2 ≠ 2 → rd (l ++ r) s = rd l s
/-- and it stops at an error -/
structure Rd1 {α : Type} (rd : Rdn α) : Prop extends Rd0 rd where
 stop : ∀ l s, s.2 ≠ 0 → (rd l s).2 = s
def sq {α β : Type} (r1 : Rdn α) (r2 : α → Rdn β) : Rdn β := fun l s => r2 (r1 l s).1 l (r1 l s).2
def mp {α β : Type} (f : α → β) (r : Rdn α) : Rdn β := fun l s => (f (r l s).1, (r l s).2)
theorem Rd1.mp {α β : Type} {r : Rdn α} (h : Rd1 r) (f : α → β) : Rd1 (mp f r) :=
 ⟨⟨fun l s hs => h.mon l s hs, fun l r' s h1 h2 => by show (f _, _) = (f _, _); rw [h.ext l r' s h1 h2]⟩, fun l s hs => h.stop l s hs⟩
theorem Rd1.sq {α β : Type} {r1 : Rdn α} {r2 : α → Rdn β} (h1 : Rd1 r1) (h2 : ∀ a, Rd1 (r2 a)) : Rd1 (sq r1 r2) := by
 refine ⟨⟨fun l s hs => ?_, fun l r s hk hs => ?_⟩, fun l s hs => ?_⟩
 ·have g2 := (h2 _).mon l _ hs
  have g1 := h1.mon l s g2.1
  exact ⟨g1.1, by have := g1.2.1; have := g2.2.1; show s.1 + 1 ≤ (r2 _ l _).2.1; omega, g2.2.2⟩
 ·have hne : (r1 l s).2.2 ≠ 2 := fun e => hs (by show (r2 _ l (r1 l s).2).2.2 = 2; rw [(h2 _).stop l _ (by rw [e]; decide)]; exact e)
  have e1 := h1.ext l r s hk hne
  show r2 (r1 (l ++ r) s).1 (l ++ r) (r1 (l ++ r) s).2 = r2 (r1 l s).1 l (r1 l s).2
  rw [e1]
  refine (h2 _).ext l r _ (fun h0 => ?_) hs
  have g := h1.mon l s h0
  have := hk g.1
  exact ⟨by have := g.2.1; omega, g.2.2⟩
 ·show (r2 _ l (r1 l s).2).2 = s
  rw [h1.stop l s hs]
  exact (h2 _).stop l s hs
theorem rd1_S {α : Type} {dec : List UInt8 → Int → α × Int × Int} {z : α} (hm : ∀ l, Mon l (rdS (dec l) z)) (he : ∀ l r (k : Nat), k ≤ l.length → (dec l (k : Int)).2.2 ≠ 2 → dec (l ++ r) (k : Int) = dec l (k : Int)) : Rd1 (fun l => rdS (dec l) z) := by
 refine ⟨⟨hm, fun l r s hk hs => ?_⟩, fun l s hs => ?_⟩
 ·by_cases h0 : s.2 = 0
  ·obtain ⟨k, hk2⟩ := Int.eq_ofNat_of_zero_le (hk h0).1
   have hl := (hk h0).2
   obtain ⟨a, b⟩ := s
   simp only at h0 hk2 hl
   subst h0
   subst hk2
   have e : (dec l (k : Int)).2.2 ≠ 2 := fun e => hs (by simp only [rdS]; simp [e])
   simp only [rdS, he l r k (by omega) e]
  ·simp only [rdS, h0, ne_eq, not_false_eq_true, if_true]
 ·simp only [rdS, hs, ne_eq, not_false_eq_true, if_true]
theorem decL_ext (at_ : Int) (r : List UInt8) : ∀ (l : List UInt8) (i z : Nat), (decL at_ l i z).2.2 ≠ 2 → decL at_ (l ++ r) i z = decL at_ l i z
 | [], _, _, h => absurd rfl h
 | c :: l, i, z, h => by
  rw [List.cons_append]
  by_cases h1 : (i = 9 ∧ 1 < c.toNat) ∨ (0 < i ∧ c.toNat = 0)
  ·rw [decL_bad h1, decL_bad h1]
  ·by_cases hc : c.toNat < 128
   ·rw [decL_end h1 hc, decL_end h1 hc]
   ·rw [decL_on h1 hc] at h
    rw [decL_on h1 hc, decL_on h1 hc]
    exact decL_ext at_ r l _ _ h
theorem decI_ext (l r : List UInt8) (k : Nat) (hk : k ≤ l.length) (h : (decI l (k : Int)).2.2 ≠ 2) : decI (l ++ r) (k : Int) = decI l (k : Int) := by
 rw [decI_in hk] at h
 rw [decI_in hk, decI_in (by rw [List.length_append]; omega), List.drop_append_of_le_length hk]
 exact decL_ext _ r _ _ _ h
theorem decI_end {l : List UInt8} {k : Int} (h : (decI l k).2.2 = 0) : ∃ m : Nat, (decI l k).2.1 = (m : Int) ∧ m ≤ l.length := by
 rcases e : decI l k with ⟨a, m, c⟩
 rw [e] at h
 simp only at h
 subst h
 obtain ⟨x, r, hl, hk, hm⟩ := decI_got e
 exact ⟨_, hm, by rw [hl]; simp only [List.length_append]; omega⟩
theorem decT_ext (l r : List UInt8) (k : Nat) (hk : k ≤ l.length) (h : (decT l (k : Int) 200).2.2 ≠ 2) : decT (l ++ r) (k : Int) 200 = decT l (k : Int) 200 := by
 have hI : (decI l (k : Int)).2.2 ≠ 2 := fun e => h (by unfold decT; rw [if_pos (by rw [e]; decide)]; exact e)
 have e := decI_ext l r k hk hI
 unfold decT at h ⊢
 rw [e]
 by_cases h1 : (decI l (k : Int)).2.2 ≠ 0
 ·rw [if_pos h1, if_pos h1]
 rw [if_neg h1] at h
 rw [if_neg h1, if_neg h1]
 obtain ⟨m, hm, hml⟩ := decI_end (l := l) (k := (k : Int)) (by simpa using h1)
 by_cases h2 : (decI l (k : Int)).1 < 0
 ·rw [if_pos h2, if_pos h2]
 rw [if_neg h2] at h
 rw [if_neg h2, if_neg h2]
 by_cases h3 : max 200 0 < (decI l (k : Int)).1
 ·rw [if_pos h3, if_pos h3]
 rw [if_neg h3] at h
 rw [if_neg h3, if_neg h3]
 by_cases h4 : (l.length : Int) - (decI l (k : Int)).2.1 < (decI l (k : Int)).1
 ·rw [if_pos h4] at h; exact absurd rfl h
 ·have h5 : ¬ ((l ++ r).length : Int) - (decI l (k : Int)).2.1 < (decI l (k : Int)).1 := by rw [List.length_append]; omega
  rw [if_neg h4, if_neg h5, hm]
  rw [hm] at h4
  rw [show ((m : Int)).toNat = m by omega, List.drop_append_of_le_length hml, List.take_append_of_le_length (by rw [List.length_drop]; omega)]
theorem decV_ext (l r : List UInt8) (k : Nat) (hk : k ≤ l.length) (h : (decV l (k : Int)).2.2 ≠ 2) : decV (l ++ r) (k : Int) = decV l (k : Int) := by
 unfold decV at h ⊢
 have h1 : ¬ ((k : Int) < 0 ∨ (l.length : Int) < k) := by omega
 have h2 : ¬ ((k : Int) < 0 ∨ ((l ++ r).length : Int) < k) := by rw [List.length_append]; omega
 rw [if_neg h1] at h
 rw [if_neg h1, if_neg h2]
 rw [show ((k : Int)).toNat = k by omega] at h ⊢
 by_cases hlt : k < l.length
 ·rw [List.getElem?_append_left hlt]
  rw [List.getElem?_eq_getElem hlt] at h ⊢
  simp only at h ⊢
  unfold decV1 at h ⊢
  by_cases c0 : l[k].toNat = 0
  ·rw [if_pos c0, if_pos c0]
  rw [if_neg c0] at h
  rw [if_neg c0, if_neg c0]
  by_cases c1 : l[k].toNat = 1
  ·rw [if_pos c1] at h
   rw [if_pos c1, if_pos c1]
   have hI : (decI l ((k + 1 : Nat) : Int)).2.2 ≠ 2 := fun e => h (by rw [if_pos (by rw [show ((k : Int) + 1) = ((k + 1 : Nat) : Int) by omega, e]; decide)]; exact e)
   rw [show ((k : Int) + 1) = ((k + 1 : Nat) : Int) by omega, decI_ext l r (k + 1) hlt hI]
  rw [if_neg c1] at h
  rw [if_neg c1, if_neg c1]
  by_cases c2 : l[k].toNat = 2
  ·rw [if_pos c2] at h
   rw [if_pos c2, if_pos c2]
   have hI : (decT l ((k + 1 : Nat) : Int) 200).2.2 ≠ 2 := fun e => h (by rw [if_pos (by rw [show ((k : Int) + 1) = ((k + 1 : Nat) : Int) by omega, e]; decide)]; exact e)
   rw [show ((k : Int) + 1) = ((k + 1 : Nat) : Int) by omega, decT_ext l r (k + 1) hlt hI]
  rw [if_neg c2, if_neg c2]
 ·rw [List.getElem?_eq_none (by omega)] at h
  exact absurd rfl h
theorem decP_ext (l r : List UInt8) (k : Nat) (hk : k ≤ l.length) (h : (decP l (k : Int)).2.2 ≠ 2) : decP (l ++ r) (k : Int) = decP l (k : Int) := by
 have hI : (decI l (k : Int)).2.2 ≠ 2 := fun e => h (by unfold decP; rw [if_pos (by rw [e]; decide)]; exact e)
 have e := decI_ext l r k hk hI
 unfold decP at h ⊢
 rw [e]
 by_cases h1 : (decI l (k : Int)).2.2 ≠ 0
 ·rw [if_pos h1, if_pos h1]
 rw [if_neg h1] at h
 rw [if_neg h1, if_neg h1]
 obtain ⟨m, hm, hml⟩ := decI_end (l := l) (k := (k : Int)) (by simpa using h1)
 rw [hm] at h ⊢
 have hJ : (decI l (m : Int)).2.2 ≠ 2 := fun e => h (by rw [if_pos (by rw [e]; decide)]; exact e)
 rw [decI_ext l r m hml hJ]
theorem decV_end {l : List UInt8} {k : Int} (h : (decV l k).2.2 = 0) : ∃ m : Nat, (decV l k).2.1 = (m : Int) ∧ m ≤ l.length := by
 rcases e : decV l k with ⟨a, m, c⟩
 rw [e] at h
 simp only at h
 subst h
 obtain ⟨x, r, hl, hk, hm, _⟩ := decV_got e
 exact ⟨_, hm, by rw [hl]; simp only [List.length_append]; omega⟩
theorem decVs_ext (l r : List UInt8) : ∀ (n k : Nat) (acc : List Val), k ≤ l.length → (decVs l n (k : Int) acc).2.2 ≠ 2 → decVs (l ++ r) n (k : Int) acc = decVs l n (k : Int) acc := by
 intro n
 induction n with
 | zero => intro k acc _ _; rfl
 | succ n ih =>
  intro k acc hk h
  have hV : (decV l (k : Int)).2.2 ≠ 2 := fun e => h (by unfold decVs; rw [if_pos (by rw [e]; decide)]; exact e)
  have e := decV_ext l r k hk hV
  unfold decVs at h ⊢
  rw [e]
  by_cases h1 : (decV l (k : Int)).2.2 ≠ 0
  ·rw [if_pos h1, if_pos h1]
  rw [if_neg h1] at h
  rw [if_neg h1, if_neg h1]
  obtain ⟨m, hm, hml⟩ := decV_end (l := l) (k := (k : Int)) (by simpa using h1)
  rw [hm] at h ⊢
  exact ih m _ hml h
theorem decR_ext (l r : List UInt8) (k : Nat) (hk : k ≤ l.length) (h : (decR l (k : Int)).2.2 ≠ 2) : decR (l ++ r) (k : Int) = decR l (k : Int) := by
 have hI : (decI l (k : Int)).2.2 ≠ 2 := fun e => h (by unfold decR; rw [if_pos (by rw [e]; decide)]; exact e)
 have e := decI_ext l r k hk hI
 unfold decR at h ⊢
 rw [e]
 by_cases h1 : (decI l (k : Int)).2.2 ≠ 0
 ·rw [if_pos h1, if_pos h1]
 rw [if_neg h1] at h
 rw [if_neg h1, if_neg h1]
 obtain ⟨m, hm, hml⟩ := decI_end (l := l) (k := (k : Int)) (by simpa using h1)
 by_cases h2 : (decI l (k : Int)).1 < 0
 ·rw [if_pos h2, if_pos h2]
 rw [if_neg h2] at h
 rw [if_neg h2, if_neg h2]
 by_cases h3 : 12 < (decI l (k : Int)).1
 ·rw [if_pos h3, if_pos h3]
 rw [if_neg h3] at h
 rw [if_neg h3, if_neg h3]
 rw [hm] at h ⊢
 exact decVs_ext l r _ m [] hml h
theorem rd1_I : Rd1 rdI := rd1_S (fun _ => mon_I) decI_ext
theorem rd1_R : Rd1 rdR := rd1_S (fun _ => mon_R) decR_ext
theorem rd1_P : Rd1 rdP := rd1_S (fun _ => mon_P) decP_ext
theorem rd1_V : Rd1 rdV := rd1_S (fun _ => mon_V) decV_ext
theorem rd1_T : Rd1 rdT := rd1_S (fun _ => mon_T) (fun l r k hk h => by simp only at h ⊢; rw [decT_ext l r k hk h])
theorem rd1_Bool : Rd1 rdBool := by
 refine ⟨⟨fun _ => mon_Bool, fun l r s hk hs => ?_⟩, fun l s hs => ?_⟩
 ·have hne : (rdI l s).2.2 ≠ 2 := fun e => hs (by
   unfold rdBool
   rw [if_neg (fun h => by rw [e] at h; exact absurd h.1 (by decide))]
   exact e)
  unfold rdBool
  rw [rd1_I.ext l r s hk hne]
 ·unfold rdBool
  rw [if_neg (fun h => by rw [rd1_I.stop l s hs] at h; exact hs h.1)]
  exact rd1_I.stop l s hs
theorem getS_ext {α : Type} {rd : Rdn α} (h : Rd0 rd) (l r : List UInt8) : ∀ (n : Nat) (s : Int × Int), (s.2 = 0 → 0 ≤ s.1 ∧ s.1 ≤ l.length) → (getS (rd l) n s).2.2 ≠ 2 → getS (rd (l ++ r)) n s = getS (rd l) n s := by
 intro n
 induction n with
 | zero => intro s _ _; rfl
 | succ n ih =>
  intro s hk hs
  by_cases h0 : s.2 = 0
  ·rcases e : rd l s with ⟨x, s'⟩
   rw [getS_step h0 e] at hs
   have hne : (rd l s).2.2 ≠ 2 := fun e2 => hs (by
    rw [e] at e2
    simp only at e2 ⊢
    rw [getS_stop (.inr (by rw [e2]; decide))]
    exact e2)
   have e1 := h.ext l r s hk hne
   rw [e] at e1
   rw [getS_step h0 e, getS_step h0 e1]
   rw [ih s' (fun h1 => by
    have g := h.mon l s (by rw [e]; exact h1)
    rw [e] at g
    have := hk h0
    exact ⟨by have := g.2.1; simp only at this; omega, g.2.2⟩) hs]
  ·rw [getS_stop (.inr h0), getS_stop (.inr h0)]
theorem Rd0.list {α : Type} {rd : Rdn α} (h : Rd0 rd) : Rd1 (fun l => rdL l (rd l)) := by
 refine ⟨⟨fun l => mon_L (h.mon l), fun l r s hk hs => ?_⟩, fun l s hs => ?_⟩
 ·have hne : (rdI l s).2.2 ≠ 2 := fun e => hs (by
   unfold rdL
   rw [if_neg (fun h => by rw [e] at h; exact absurd h.1 (by decide)), getS_stop (.inr (by rw [e]; decide))]
   exact e)
  have e1 := rd1_I.ext l r s hk hne
  unfold rdL at hs ⊢
  rw [e1]
  by_cases h1 : (rdI l s).2.2 = 0 ∧ (rdI l s).1 < 0
  ·rw [if_pos h1, if_pos h1]
  ·rw [if_neg h1] at hs
   rw [if_neg h1, if_neg h1]
   refine getS_ext h l r _ _ (fun h0 => ?_) hs
   have g := mon_I s h0
   have := hk g.1
   exact ⟨by have := g.2.1; omega, g.2.2⟩
 ·unfold rdL
  have e := rd1_I.stop l s hs
  rw [if_neg (fun h => by rw [e] at h; exact hs h.1), getS_stop (.inr (by rw [e]; exact hs))]
  exact e
theorem rd1_Col : Rd1 rdCol := rd1_T.sq (fun a => rd1_I.sq (fun b => rd1_Bool.mp (fun c => (⟨a, b, c⟩ : RCol))))
theorem rd1_For : Rd1 rdFor := rd1_I.list.sq (fun a => rd1_T.mp (fun b => (⟨none, 0, a, b⟩ : RFor)))
theorem rd0_X : ∀ d : Nat, Rd0 (fun l => rdX l d)
 | 0 => ⟨fun _ => mon_X 0, fun _ _ _ _ _ => rfl⟩
 | d + 1 => (rd1_I.sq (fun a => rd1_I.sq (fun b => rd1_V.sq (fun c => rd1_T.sq (fun t => (rd0_X d).list.mp (fun r => RE.mk a b c t none 0 r)))))).toRd0
theorem rd1_Tab : Rd1 rdTab := rd1_T.sq (fun a => rd1_Col.list.sq (fun b => rd1_I.list.sq (fun c => rd1_For.list.sq (fun d => (rd0_X 24).list.mp (fun e => (⟨a, none, 0, b, none, 0, c, none, 0, d, none, 0, e⟩ : RTab))))))
theorem rd1_Chn (k : Int) : Rd1 (fun l => rdChn l k) := rd1_T.sq (fun a => rd1_T.sq (fun b => rd1_Col.sq (fun c => rd1_V.mp (fun d => (⟨k, a, b, c.name, c.kind, c.null, d⟩ : Chn)))))
theorem rd1_Ent : Rd1 rdEnt := by
 have h : rdEnt = sq rdI (fun a => sq rdT (fun b => sq rdI (fun c => if c = 0 then mp (fun t => (⟨a, b, t, ⟨0, ⟨#[]⟩, ⟨#[]⟩, ⟨#[]⟩, 0, false, zeroV⟩⟩ : REn)) rdTab else mp (fun x => (⟨a, b, RTab.none_, x⟩ : REn)) (fun l => rdChn l c)))) := by
  funext l s
  unfold rdEnt sq
  simp only
  split <;> rfl
 rw [h]
 refine rd1_I.sq (fun a => rd1_T.sq (fun b => rd1_I.sq (fun c => ?_)))
 split
 ·exact rd1_Tab.mp _
 ·exact (rd1_Chn c).mp _
theorem rd1_Fct : Rd1 rdFct := rd1_R.sq (fun a => rd1_P.mp (fun b => (⟨none, 0, 0, a, b.1, b.2⟩ : RF)))
theorem rd1_Del : Rd1 rdDel := rd1_T.sq (fun a => rd1_I.list.sq (fun b => rd1_Fct.list.mp (fun c => (⟨a, none, 0, b, none, 0, c⟩ : RDl))))
theorem rd1_Hld : Rd1 rdHld := rd1_T.sq (fun a => rd1_T.sq (fun b => rd1_P.sq (fun c => rd1_P.mp (fun d => (⟨a, b, c.1, c.2, d.1, d.2⟩ : Hld)))))
theorem rd1_Pol : Rd1 rdPol := rd1_T.sq (fun a => rd1_I.mp (fun b => (⟨a, b⟩ : Pol)))
theorem rd1_Hor : Rd1 rdHor := rd1_T.sq (fun a => rd1_I.mp (fun b => (⟨a, b⟩ : Hor)))
theorem rd1_Cm : Rd1 rdCm :=
 rd1_I.sq (fun a => rd1_I.sq (fun b => rd1_I.sq (fun c => rd1_I.sq (fun d => rd1_Ent.list.sq (fun e => rd1_Del.list.sq (fun f => rd1_Hld.list.sq (fun g => rd1_T.list.sq (fun h => rd1_Pol.list.sq (fun i => rd1_Hor.list.mp (fun j =>
  (⟨a, b, c, d, none, 0, e, none, 0, f, none, 0, g, none, 0, h, none, 0, i, none, 0, j⟩ : RCm)))))))))))
/-- bytes that end too early -/
theorem cm_torn {l : List UInt8} (h : (rdCm l (0, 0)).2 = ((l.length : Int), 0)) {m : Nat} (hm : m < l.length) : (rdCm (l.take m) (0, 0)).2.2 = 2 := by
 rcases Int.decEq (rdCm (l.take m) (0, 0)).2.2 2 with hne | he
 ·have e := rd1_Cm.ext (l.take m) (l.drop m) (0, 0) (fun _ => ⟨Int.le_refl _, by simp⟩) hne
  rw [List.take_append_drop] at e
  rw [e] at h
  have g := rd1_Cm.mon (l.take m) (0, 0) (by rw [h])
  rw [h] at g
  have := g.2.2
  rw [List.length_take] at this
  simp only at this
  omega
 ·exact he
theorem decCm_torn {l : List UInt8} (hl : l.length ≤ 1048576) (h : (rdCm l (0, 0)).2 = ((l.length : Int), 0)) {m : Nat} (hm : m < l.length) : decCm (l.take m) = (RCm.none_, 2) := by
 have h2 := cm_torn h hm
 have e : endE (rdCm (l.take m) (0, 0)).2 (l.take m).length = 2 := by unfold endE; rw [h2]; rfl
 unfold decCm
 rw [if_neg (by rw [List.length_take]; omega), e]
 rfl
end Go.Proofs.YtbfdegkickjbpaaGreat
