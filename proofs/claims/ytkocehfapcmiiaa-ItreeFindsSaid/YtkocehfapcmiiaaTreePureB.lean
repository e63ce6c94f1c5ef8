/-
  Balanced trees of items: adding, removing, finding, heights. Plain laws.
-/
import Derived.Test.YtkocehfapcmiiaaTreePure
namespace Go.Proofs.Ytkocehfapcmiiaa
open Go.RowKit Go.Lib

/-- the list with an item more -/
def insF (x : It) (l : List It) : List It := l.filter (fun y => decide (ltI y x)) ++ x :: l.filter (fun y => decide (ltI x y))
/-- the list without an item -/
def remF (x : It) (l : List It) : List It := l.filter (fun y => decide (y ≠ x))
theorem srt_app {l r : List It} {y : It} : srtI (l ++ y :: r) ↔ srtI l ∧ srtI r ∧ (∀ z ∈ l, ltI z y) ∧ (∀ z ∈ r, ltI y z) ∧ (∀ a ∈ l, ∀ b ∈ r, ltI a b) := by
  unfold srtI
  rw [List.pairwise_append, List.pairwise_cons]
  constructor
  · rintro ⟨h1, ⟨h2, h3⟩, h4⟩
    exact ⟨h1, h3, fun z hz => h4 z hz y (List.mem_cons_self ..), h2, fun a ha b hb => h4 a ha b (List.mem_cons_of_mem _ hb)⟩
  · rintro ⟨h1, h2, h3, h4, h5⟩
    refine ⟨h1, ⟨h4, h2⟩, fun a ha b hb => ?_⟩
    rcases List.mem_cons.1 hb with rfl | hb
    · exact h3 a ha
    · exact h5 a ha b hb
theorem filter_all {l : List It} {p : It → Bool} (h : ∀ z ∈ l, p z = true) : l.filter p = l := List.filter_eq_self.2 h
theorem filter_none {l : List It} {p : It → Bool} (h : ∀ z ∈ l, p z = false) : l.filter p = [] := List.filter_eq_nil_iff.2 (fun a ha e => by rw [h a ha] at e; cases e)
theorem insF_left {l r : List It} {x y : It} (hs : srtI (l ++ y :: r)) (h : ltI x y) : insF x (l ++ y :: r) = insF x l ++ y :: r := by
  obtain ⟨_, _, h3, h4, h5⟩ := srt_app.1 hs
  have hr : ∀ z ∈ r, ltI x z := fun z hz => ltI_trans h (h4 z hz)
  unfold insF
  rw [List.filter_append, List.filter_append, List.filter_cons_of_neg (by simpa using ltI_asymm h), List.filter_cons_of_pos (by simpa using h),
    filter_none (l := r) (p := fun z => decide (ltI z x)) (fun z hz => by simpa using ltI_asymm (hr z hz)), filter_all (l := r) (p := fun z => decide (ltI x z)) (fun z hz => by simpa using hr z hz)]
  simp
theorem insF_right {l r : List It} {x y : It} (hs : srtI (l ++ y :: r)) (h : ltI y x) : insF x (l ++ y :: r) = l ++ y :: insF x r := by
  obtain ⟨_, _, h3, h4, h5⟩ := srt_app.1 hs
  have hl : ∀ z ∈ l, ltI z x := fun z hz => ltI_trans (h3 z hz) h
  unfold insF
  rw [List.filter_append, List.filter_append, List.filter_cons_of_pos (by simpa using h), List.filter_cons_of_neg (by simpa using ltI_asymm h),
    filter_all (l := l) (p := fun z => decide (ltI z x)) (fun z hz => by simpa using hl z hz), filter_none (l := l) (p := fun z => decide (ltI x z)) (fun z hz => by simpa using ltI_asymm (hl z hz))]
  simp
theorem mem_insF {x : It} {l : List It} {y : It} : y ∈ insF x l ↔ y = x ∨ y ∈ l := by
  unfold insF
  simp only [List.mem_append, List.mem_filter, List.mem_cons, decide_eq_true_eq]
  constructor
  · rintro (h | h | h)
    · exact .inr h.1
    · exact .inl h
    · exact .inr h.1
  · rintro (h | h)
    · exact .inr (.inl h)
    · rcases ltI_tri y x with k | k | k
      · exact .inl ⟨h, k⟩
      · exact .inr (.inl k)
      · exact .inr (.inr ⟨h, k⟩)
theorem srt_insF {x : It} {l : List It} (hs : srtI l) : srtI (insF x l) := by
  unfold insF
  rw [srt_app]
  refine ⟨List.Pairwise.sublist List.filter_sublist hs, List.Pairwise.sublist List.filter_sublist hs, ?_, ?_, ?_⟩
  · intro z hz; simpa using (List.mem_filter.1 hz).2
  · intro z hz; simpa using (List.mem_filter.1 hz).2
  · intro a ha b hb
    have h1 : ltI a x := by simpa using (List.mem_filter.1 ha).2
    have h2 : ltI x b := by simpa using (List.mem_filter.1 hb).2
    exact ltI_trans h1 h2
theorem srt_remF {x : It} {l : List It} (hs : srtI l) : srtI (remF x l) := List.Pairwise.sublist List.filter_sublist hs
theorem mem_remF {x y : It} {l : List It} : y ∈ remF x l ↔ y ∈ l ∧ y ≠ x := by simp [remF]
theorem remF_not {x : It} {l : List It} (h : x ∉ l) : remF x l = l := filter_all fun z hz => by simpa using fun e : z = x => h (e ▸ hz)
theorem len_insF {x : It} {l : List It} (hx : x ∉ l) : (insF x l).length = l.length + 1 := by
  unfold insF
  rw [List.length_append, List.length_cons]
  have h : ∀ m : List It, x ∉ m → (m.filter (fun y => decide (ltI y x))).length + (m.filter (fun y => decide (ltI x y))).length = m.length := by
    intro m
    induction m with
    | nil => intro _; rfl
    | cons a r ih =>
      intro hm
      have ih := ih fun h => hm (List.mem_cons_of_mem _ h)
      rcases ltI_tri a x with k | k | k
      · rw [List.filter_cons_of_pos (by simpa using k), List.filter_cons_of_neg (by simpa using ltI_asymm k)]; simp only [List.length_cons]; omega
      · exact absurd (k ▸ List.mem_cons_self ..) hm
      · rw [List.filter_cons_of_neg (by simpa using ltI_asymm k), List.filter_cons_of_pos (by simpa using k)]; simp only [List.length_cons]; omega
  have := h l hx
  omega
theorem len_remF {x : It} {l : List It} (hs : srtI l) (hx : x ∈ l) : (remF x l).length + 1 = l.length := by
  induction l with
  | nil => cases hx
  | cons a r ih =>
    obtain ⟨h1, h2⟩ := List.pairwise_cons.1 hs
    by_cases e : a = x
    · subst e
      have hn : a ∉ r := fun h => ltI_irrefl a (h1 a h)
      have : remF a (a :: r) = r := by unfold remF; rw [List.filter_cons_of_neg (by simp)]; exact remF_not hn
      rw [this, List.length_cons]
    · have hr : x ∈ r := by rcases List.mem_cons.1 hx with h | h; exact absurd h.symm e; exact h
      have : remF x (a :: r) = a :: remF x r := by unfold remF; rw [List.filter_cons_of_pos (by simpa using e)]
      rw [this, List.length_cons, List.length_cons, ih h2 hr]

namespace Tr
theorem ins_spec (nb : Nat) (x : It) : ∀ t : Tr, t.Ok → srtI t.items → x ∉ t.items →
    (ins nb x t).Ok ∧ (ins nb x t).items = insF x t.items ∧ t.ht ≤ (ins nb x t).ht ∧ (ins nb x t).ht ≤ t.ht + 1 ∧ (ins nb x t).blocks.Perm (nb :: t.blocks)
  | nil, _, _, _ => by
    obtain ⟨h1, h2, h3, h4, h5, h6⟩ := bal_spec nb x nil nil trivial trivial (by rw [ht_nil]; omega) (by rw [ht_nil]; omega)
    refine ⟨h1, h2, ?_, ?_, h5⟩
    · rw [ht_nil] at *; rw [ins]; omega
    · rw [ht_nil] at *; rw [ins]; omega
  | node b y l r hh ee, hok, hs, hx => by
    obtain ⟨e1, e2, e3, e4, hl, hr⟩ := hok
    rw [items_node] at hs hx
    obtain ⟨hsl, hsr, h3, h4, h5⟩ := srt_app.1 hs
    have hxl : x ∉ l.items := fun h => hx (List.mem_append_left _ h)
    have hxr : x ∉ r.items := fun h => hx (List.mem_append_right _ (List.mem_cons_of_mem _ h))
    have hxy : x ≠ y := fun h => hx (h ▸ List.mem_append_right _ (List.mem_cons_self ..))
    rw [ins]
    rcases cmpI_cases y x with ⟨c, k⟩ | ⟨c, k⟩ | ⟨c, k⟩
    · rw [if_neg (by omega)]
      obtain ⟨g1, g2, g3, g4, g5⟩ := ins_spec nb x r hr hsr hxr
      obtain ⟨b1, b2, b3, b4, b5, b6⟩ := bal_spec b y l (ins nb x r) hl g1 (by omega) (by omega)
      refine ⟨b1, ?_, ?_, ?_, ?_⟩
      · rw [b2, g2, items_node, insF_right hs k]
      · rw [ht_node]; by_cases q : (ins nb x r).ht ≤ r.ht
        · have := b6 ⟨by omega, by omega⟩; omega
        · by_cases q2 : (ins nb x r).ht - l.ht ≤ 1
          · have := b6 ⟨by omega, by omega⟩; omega
          · omega
      · rw [ht_node]; omega
      · refine b5.trans (List.perm_iff_count.2 fun a => ?_)
        have := List.perm_iff_count.1 g5 a
        simp only [blocks_node, List.count_cons, List.count_append] at *
        omega
    · rw [if_pos (by omega)]
      obtain ⟨g1, g2, g3, g4, g5⟩ := ins_spec nb x l hl hsl hxl
      obtain ⟨b1, b2, b3, b4, b5, b6⟩ := bal_spec b y (ins nb x l) r g1 hr (by omega) (by omega)
      refine ⟨b1, ?_, ?_, ?_, ?_⟩
      · rw [b2, g2, items_node, insF_left hs k]
      · rw [ht_node]; by_cases q : (ins nb x l).ht ≤ l.ht
        · have := b6 ⟨by omega, by omega⟩; omega
        · by_cases q2 : (ins nb x l).ht - r.ht ≤ 1
          · have := b6 ⟨by omega, by omega⟩; omega
          · omega
      · rw [ht_node]; omega
      · refine b5.trans (List.perm_iff_count.2 fun a => ?_)
        have := List.perm_iff_count.1 g5 a
        simp only [blocks_node, List.count_cons, List.count_append] at *
        omega
    · exact absurd k.symm hxy
theorem fst_spec : ∀ t : Tr, t ≠ nil → ∃ l, t.items = fst t :: l
  | nil, h => absurd rfl h
  | node _ x nil r _ _, _ => ⟨r.items, rfl⟩
  | node _ x (node b y l r h e) r' _ _, _ => by
    obtain ⟨k, hk⟩ := fst_spec (node b y l r h e) (fun e => by cases e)
    exact ⟨k ++ x :: r'.items, by rw [items_node, hk]; rfl⟩
theorem rem_left {b : Nat} {y x : It} {l r : Tr} {h e : Int} (c : 0 < cmpI y x) : rem (node b y l r h e) x = bal b y (rem l x) r := by rw [rem, if_pos c]
theorem rem_right {b : Nat} {y x : It} {l r : Tr} {h e : Int} (c : cmpI y x < 0) : rem (node b y l r h e) x = bal b y l (rem r x) := by rw [rem, if_neg (by omega), if_pos c]
theorem not_isNil {t : Tr} (h : t ≠ nil) : t.isNil = false := by
  cases t with
  | nil => exact absurd rfl h
  | node => rfl
theorem rem_nil1 {b : Nat} {y x : It} {r : Tr} {h e : Int} (c : cmpI y x = 0) : rem (node b y nil r h e) x = r := by rw [rem, if_neg (by omega), if_neg (by omega)]; rfl
theorem rem_nil2 {b : Nat} {y x : It} {l : Tr} {h e : Int} (c : cmpI y x = 0) (hl : l ≠ nil) : rem (node b y l nil h e) x = l := by
  rw [rem, if_neg (by omega), if_neg (by omega), not_isNil hl, if_neg (by simp)]; rfl
theorem rem_both {b : Nat} {y x : It} {l r : Tr} {h e : Int} (c : cmpI y x = 0) (hl : l ≠ nil) (hr : r ≠ nil) : rem (node b y l r h e) x = bal b (fst r) l (rem r (fst r)) := by
  rw [rem, if_neg (by omega), if_neg (by omega), not_isNil hl, if_neg (by simp), not_isNil hr, if_neg (by simp)]
theorem cmpI_self (x : It) : cmpI x x = 0 := by
  rcases cmpI_cases x x with h | h | h
  · exact absurd h.2 (ltI_irrefl x)
  · exact absurd h.2 (ltI_irrefl x)
  · exact h.1
theorem remF_left {l r : List It} {x y : It} (hs : srtI (l ++ y :: r)) (h : ltI x y) : remF x (l ++ y :: r) = remF x l ++ y :: r := by
  obtain ⟨_, _, h3, h4, h5⟩ := srt_app.1 hs
  unfold remF
  rw [List.filter_append, List.filter_cons_of_pos (by simpa using (ltI_ne h).symm), filter_all (l := r) (fun z hz => by simpa using (ltI_ne (ltI_trans h (h4 z hz))).symm)]
theorem remF_right {l r : List It} {x y : It} (hs : srtI (l ++ y :: r)) (h : ltI y x) : remF x (l ++ y :: r) = l ++ y :: remF x r := by
  obtain ⟨_, _, h3, h4, h5⟩ := srt_app.1 hs
  unfold remF
  rw [List.filter_append, List.filter_cons_of_pos (by simpa using ltI_ne h), filter_all (l := l) (fun z hz => by simpa using ltI_ne (ltI_trans (h3 z hz) h))]
theorem remF_mid {l r : List It} {x : It} (hs : srtI (l ++ x :: r)) : remF x (l ++ x :: r) = l ++ r := by
  obtain ⟨_, _, h3, h4, h5⟩ := srt_app.1 hs
  unfold remF
  rw [List.filter_append, List.filter_cons_of_neg (by simp), filter_all (l := l) (fun z hz => by simpa using ltI_ne (h3 z hz)), filter_all (l := r) (fun z hz => by simpa using (ltI_ne (h4 z hz)).symm)]
theorem rem_spec : ∀ t : Tr, t.Ok → srtI t.items → ∀ x ∈ t.items,
    (rem t x).Ok ∧ (rem t x).items = remF x t.items ∧ t.ht - 1 ≤ (rem t x).ht ∧ (rem t x).ht ≤ t.ht ∧ ∃ c, t.blocks.Perm (c :: (rem t x).blocks)
  | nil, _, _, x, hx => by cases hx
  | node b y l r hh ee, hok, hs, x, hx => by
    obtain ⟨e1, e2, e3, e4, hl, hr⟩ := hok
    have nl := hl.nonneg
    have nr := hr.nonneg
    rw [items_node] at hs hx
    obtain ⟨hsl, hsr, h3, h4, h5⟩ := srt_app.1 hs
    rcases cmpI_cases y x with ⟨c, k⟩ | ⟨c, k⟩ | ⟨c, k⟩
    · have hxr : x ∈ r.items := by
        rcases List.mem_append.1 hx with h | h
        · exact absurd (ltI_trans (h3 x h) k) (ltI_irrefl x)
        · rcases List.mem_cons.1 h with h | h
          · exact absurd h.symm (ltI_ne k)
          · exact h
      obtain ⟨g1, g2, g3, g4, cc, g5⟩ := rem_spec r hr hsr x hxr
      obtain ⟨b1, b2, b3, b4, b5, b6⟩ := bal_spec b y l (rem r x) hl g1 (by omega) (by omega)
      rw [rem_right (by omega)]
      refine ⟨b1, ?_, ?_, ?_, cc, ?_⟩
      · rw [b2, g2, items_node, remF_right hs k]
      · rw [ht_node]; by_cases q : l.ht - (rem r x).ht ≤ 1
        · have := b6 ⟨by omega, by omega⟩; omega
        · omega
      · rw [ht_node]; by_cases q : l.ht - (rem r x).ht ≤ 1
        · have := b6 ⟨by omega, by omega⟩; omega
        · omega
      · refine (List.perm_iff_count.2 fun a => ?_)
        have := List.perm_iff_count.1 g5 a
        have := List.perm_iff_count.1 b5 a
        simp only [blocks_node, List.count_cons, List.count_append] at *
        omega
    · have hxl : x ∈ l.items := by
        rcases List.mem_append.1 hx with h | h
        · exact h
        · rcases List.mem_cons.1 h with h | h
          · exact absurd h (ltI_ne k)
          · exact absurd (ltI_trans k (h4 x h)) (ltI_irrefl x)
      obtain ⟨g1, g2, g3, g4, cc, g5⟩ := rem_spec l hl hsl x hxl
      obtain ⟨b1, b2, b3, b4, b5, b6⟩ := bal_spec b y (rem l x) r g1 hr (by omega) (by omega)
      rw [rem_left (by omega)]
      refine ⟨b1, ?_, ?_, ?_, cc, ?_⟩
      · rw [b2, g2, items_node, remF_left hs k]
      · rw [ht_node]; by_cases q : r.ht - (rem l x).ht ≤ 1
        · have := b6 ⟨by omega, by omega⟩; omega
        · omega
      · rw [ht_node]; by_cases q : r.ht - (rem l x).ht ≤ 1
        · have := b6 ⟨by omega, by omega⟩; omega
        · omega
      · refine (List.perm_iff_count.2 fun a => ?_)
        have := List.perm_iff_count.1 g5 a
        have := List.perm_iff_count.1 b5 a
        simp only [blocks_node, List.count_cons, List.count_append] at *
        omega
    · subst k
      rw [items_node, remF_mid hs]
      by_cases hln : l = nil
      · subst hln
        rw [rem_nil1 c]
        refine ⟨hr, rfl, ?_, ?_, b, List.Perm.refl _⟩
        · rw [ht_node, e1, ht_nil]; omega
        · rw [ht_node, e1, ht_nil]; omega
      by_cases hrn : r = nil
      · subst hrn
        rw [rem_nil2 c hln]
        refine ⟨hl, by simp [items], ?_, ?_, b, by rw [blocks_node]; simp [blocks]⟩
        · rw [ht_node, e1, ht_nil]; omega
        · rw [ht_node, e1, ht_nil]; omega
      obtain ⟨r2, hr2⟩ := fst_spec r hrn
      obtain ⟨g1, g2, g3, g4, cc, g5⟩ := rem_spec r hr hsr (fst r) (by rw [hr2]; exact List.mem_cons_self ..)
      obtain ⟨b1, b2, b3, b4, b5, b6⟩ := bal_spec b (fst r) l (rem r (fst r)) hl g1 (by omega) (by omega)
      have hg : remF (fst r) r.items = r2 := by
        have := remF_mid (l := []) (x := fst r) (r := r2) (by rw [← hr2]; exact hsr)
        rw [hr2]; simpa using this
      rw [rem_both c hln hrn]
      refine ⟨b1, ?_, ?_, ?_, cc, ?_⟩
      · rw [b2, g2, hg, ← hr2]
      · rw [ht_node]; by_cases q : l.ht - (rem r (fst r)).ht ≤ 1
        · have := b6 ⟨by omega, by omega⟩; omega
        · omega
      · rw [ht_node]; by_cases q : l.ht - (rem r (fst r)).ht ≤ 1
        · have := b6 ⟨by omega, by omega⟩; omega
        · omega
      · refine (List.perm_iff_count.2 fun a => ?_)
        have := List.perm_iff_count.1 g5 a
        have := List.perm_iff_count.1 b5 a
        simp only [blocks_node, List.count_cons, List.count_append] at *
        omega

/-- the numbers of the items that overlap a period -/
def ovl (p q : Int) (l : List It) : List Int := (l.filter fun i => decide (i.fr < q ∧ p < i.to)).map (·.id)
theorem ovl_append (p q : Int) (a b : List It) : ovl p q (a ++ b) = ovl p q a ++ ovl p q b := by simp [ovl]
theorem Ok.le_en : ∀ {t : Tr}, t.Ok → ∀ i ∈ t.items, i.to ≤ t.en
  | nil, _, i, hi => by cases hi
  | node b x l r h e, ⟨h1, h2, h3, h4, hl, hr⟩, i, hi => by
    rw [en_node, h2]
    rcases List.mem_append.1 hi with hi | hi
    · have := Ok.le_en hl i hi; omega
    · rcases List.mem_cons.1 hi with rfl | hi
      · omega
      · have := Ok.le_en hr i hi; omega
theorem ovl_none {p q : Int} {l : List It} (h : ∀ i ∈ l, ¬ (i.fr < q ∧ p < i.to)) : ovl p q l = [] := by
  unfold ovl
  rw [filter_none fun z hz => by simpa using h z hz]
  rfl
theorem ovl_end {t : Tr} (h : t.Ok) {p q : Int} (he : t.en ≤ p) : ovl p q t.items = [] :=
  ovl_none fun i hi hc => by have := h.le_en i hi; omega
theorem ovl_from {x : It} {r : List It} {p q : Int} (hs : ∀ z ∈ r, ltI x z) (h : q ≤ x.fr) : ovl p q (x :: r) = [] :=
  ovl_none fun i hi hc => by
    rcases List.mem_cons.1 hi with rfl | hi
    · omega
    · have := hs i hi
      unfold ltI at this
      omega
theorem ovl_cons (p q : Int) (x : It) (r : List It) : ovl p q (x :: r) = (if x.fr < q ∧ p < x.to then [x.id] else []) ++ ovl p q r := by
  unfold ovl
  by_cases h : x.fr < q ∧ p < x.to
  · rw [if_pos h, List.filter_cons_of_pos (by simpa using h)]; rfl
  · rw [if_neg h, List.filter_cons_of_neg (by simpa using h)]; rfl

/-- heights -/
theorem Ok.pow : ∀ {t : Tr}, t.Ok → t.items.length + 1 ≤ 2 ^ t.ht.toNat ∧ 2 ^ t.ht.toNat ≤ (t.items.length + 1) * (t.items.length + 1)
  | nil, _ => by simp [items, ht]
  | node b x l r h e, ⟨h1, h2, h3, h4, hl, hr⟩ => by
    obtain ⟨a1, a2⟩ := Ok.pow hl
    obtain ⟨c1, c2⟩ := Ok.pow hr
    have nl := hl.nonneg
    have nr := hr.nonneg
    rw [items_node, ht_node, List.length_append, List.length_cons]
    generalize hm : l.items.length + 1 = m at *
    generalize hn : r.items.length + 1 = n at *
    rw [show l.items.length + n + 1 = m + n by omega]
    have hmul : (m + n) * (m + n) = m * m + 2 * (m * n) + n * n := by
      rw [Nat.add_mul, Nat.mul_add, Nat.mul_add, Nat.mul_comm n m]; omega
    rw [hmul]
    clear hmul hm hn
    generalize hA : l.ht.toNat = A at *
    generalize hC : r.ht.toNat = C at *
    have key : ∀ P Q : Nat, P ≤ m * m → P ≤ n * n → P ≤ m * n := by
      intro P Q h1 h2
      rcases Nat.le_total m n with h | h
      · exact Nat.le_trans h1 (Nat.mul_le_mul_left m h)
      · exact Nat.le_trans h2 (Nat.mul_le_mul_right n h)
    have hcase : (h.toNat = A + 1 ∧ A = C) ∨ (h.toNat = A + 1 ∧ A = C + 1) ∨ (h.toNat = C + 1 ∧ C = A + 1) := by omega
    rcases hcase with ⟨q1, q2⟩ | ⟨q1, q2⟩ | ⟨q1, q2⟩
    · rw [q1, Nat.pow_succ]
      rw [q2] at a1 a2 ⊢
      omega
    · rw [q1, Nat.pow_succ]
      rw [q2, Nat.pow_succ] at a1 a2 ⊢
      have := key (2 ^ C) 0 (by omega) c2
      omega
    · rw [q1, Nat.pow_succ]
      rw [q2, Nat.pow_succ] at c1 c2 ⊢
      have := key (2 ^ A) 0 a2 (by omega)
      omega
end Tr
end Go.Proofs.Ytkocehfapcmiiaa
