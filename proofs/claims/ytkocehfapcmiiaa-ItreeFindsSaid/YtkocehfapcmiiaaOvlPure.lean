/-
  Ascending lists of numbers; rows that were sorted and compacted. Plain laws.
-/
import Derived.Test.YtkocehfapcmiiaaTreeJ
import Derived.Lib.SlicesCompact
import Derived.Sort.Grow
namespace Go.Proofs.Ytkocehfapcmiiaa
open Go.RowKit Go.Lib Go.Sort

/-- the number is put into an ascending list -/
def putF (n : Int) (l : List Int) : List Int := l.filter (fun x => decide (x < n)) ++ n :: l.filter (fun x => decide (n < x))
def putAll (l : List Int) : List Int := l.foldl (fun out n => putF n out) []
theorem putAll_snoc (l : List Int) (n : Int) : putAll (l ++ [n]) = putF n (putAll l) := by simp [putAll]
theorem asc_put {n : Int} {l : List Int} (h : l.Pairwise (· < ·)) : (putF n l).Pairwise (· < ·) := by
  unfold putF
  rw [List.pairwise_append, List.pairwise_cons]
  refine ⟨h.sublist List.filter_sublist, ⟨fun z hz => by simpa using (List.mem_filter.1 hz).2, h.sublist List.filter_sublist⟩, fun a ha b hb => ?_⟩
  have h1 : a < n := by simpa using (List.mem_filter.1 ha).2
  rcases List.mem_cons.1 hb with rfl | hb
  · exact h1
  · have h2 : n < b := by simpa using (List.mem_filter.1 hb).2
    omega
theorem mem_put {n x : Int} {l : List Int} : x ∈ putF n l ↔ x = n ∨ x ∈ l := by
  unfold putF
  simp only [List.mem_append, List.mem_filter, List.mem_cons, decide_eq_true_eq]
  constructor
  · rintro (h | h | h)
    · exact .inr h.1
    · exact .inl h
    · exact .inr h.1
  · rintro (h | h)
    · exact .inr (.inl h)
    · by_cases h1 : x < n
      · exact .inl ⟨h, h1⟩
      · by_cases h2 : n < x
        · exact .inr (.inr ⟨h, h2⟩)
        · exact .inr (.inl (by omega))
theorem len_put (n : Int) (l : List Int) : (putF n l).length ≤ l.length + 1 := by
  unfold putF
  rw [List.length_append, List.length_cons]
  have : (l.filter (fun x => decide (x < n))).length + (l.filter (fun x => decide (n < x))).length ≤ l.length := by
    induction l with
    | nil => simp
    | cons a r ih =>
      by_cases h1 : a < n
      · rw [List.filter_cons_of_pos (by simpa using h1), List.filter_cons_of_neg (by simp; omega)]; simp only [List.length_cons]; omega
      · rw [List.filter_cons_of_neg (by simpa using h1)]
        by_cases h2 : n < a
        · rw [List.filter_cons_of_pos (by simpa using h2)]; simp only [List.length_cons]; omega
        · rw [List.filter_cons_of_neg (by simpa using h2)]; simp only [List.length_cons]; omega
  omega
theorem putAll_spec (l : List Int) : (putAll l).Pairwise (· < ·) ∧ (∀ x, x ∈ putAll l ↔ x ∈ l) ∧ (putAll l).length ≤ l.length := by
  have key : ∀ (l acc : List Int), acc.Pairwise (· < ·) → (l.foldl (fun out n => putF n out) acc).Pairwise (· < ·) ∧ (∀ x, x ∈ l.foldl (fun out n => putF n out) acc ↔ x ∈ acc ∨ x ∈ l) ∧ (l.foldl (fun out n => putF n out) acc).length ≤ acc.length + l.length := by
    intro l
    induction l with
    | nil => intro acc h; exact ⟨h, by simp, by simp⟩
    | cons n r ih =>
      intro acc h
      obtain ⟨h1, h2, h3⟩ := ih (putF n acc) (asc_put h)
      refine ⟨h1, fun x => ?_, ?_⟩
      · rw [List.foldl_cons, h2, mem_put, List.mem_cons]
        constructor
        · rintro ((h | h) | h)
          · exact .inr (.inl h)
          · exact .inl h
          · exact .inr (.inr h)
        · rintro (h | h | h)
          · exact .inl (.inr h)
          · exact .inl (.inl h)
          · exact .inr h
      · have := len_put n acc
        rw [List.foldl_cons, List.length_cons]
        omega
  obtain ⟨h1, h2, h3⟩ := key l [] List.Pairwise.nil
  exact ⟨h1, fun x => by rw [show putAll l = l.foldl (fun out n => putF n out) [] from rfl, h2]; simp, Nat.le_trans h3 (by simp)⟩
theorem asc_unique : ∀ {a b : List Int}, a.Pairwise (· < ·) → b.Pairwise (· < ·) → (∀ x, x ∈ a ↔ x ∈ b) → a = b
  | [], [], _, _, _ => rfl
  | [], y :: b, _, _, h => by have := (h y).2 (List.mem_cons_self ..); cases this
  | x :: a, [], _, _, h => by have := (h x).1 (List.mem_cons_self ..); cases this
  | x :: a, y :: b, ha, hb, h => by
    obtain ⟨a1, a2⟩ := List.pairwise_cons.1 ha
    obtain ⟨b1, b2⟩ := List.pairwise_cons.1 hb
    have hxy : x = y := by
      rcases List.mem_cons.1 ((h x).1 (List.mem_cons_self ..)) with e | e
      · exact e
      · rcases List.mem_cons.1 ((h y).2 (List.mem_cons_self ..)) with e' | e'
        · exact e'.symm
        · have := b1 x e; have := a1 y e'; omega
    subst hxy
    rw [asc_unique a2 b2 fun z => ?_]
    constructor
    · intro hz
      rcases List.mem_cons.1 ((h z).1 (List.mem_cons_of_mem _ hz)) with e | e
      · have := a1 z hz; omega
      · exact e
    · intro hz
      rcases List.mem_cons.1 ((h z).2 (List.mem_cons_of_mem _ hz)) with e | e
      · have := b1 z hz; omega
      · exact e
theorem compact_asc (zs : List Int) (hs : zs.Pairwise (· ≤ ·)) : (compact zs).Pairwise (· < ·) ∧ ∀ x, x ∈ compact zs ↔ x ∈ zs := by
  have hget : ∀ j, (h : j < zs.length) → zs.toArray[j]! = zs[j] := fun j h => by rw [getElem!_pos zs.toArray j (by simpa using h)]; simp
  have hle : ∀ i j, (hi : i ≤ j) → (hj : j < zs.length) → zs[i]'(by omega) ≤ zs[j] := by
    intro i j hi hj
    rcases Nat.eq_or_lt_of_le hi with e | e
    · subst e; exact Int.le_refl _
    · exact List.pairwise_iff_getElem.1 hs i j (by omega) hj e
  have key : ∀ m, m ≤ zs.length → (compactUpTo zs.toArray m).Pairwise (· < ·) ∧ (∀ x, x ∈ compactUpTo zs.toArray m ↔ ∃ j, ∃ h : j < m, ∃ h' : j < zs.length, x = zs[j]) := by
    intro m
    induction m with
    | zero => intro _; exact ⟨by simp [compactUpTo], fun x => by simp [compactUpTo]⟩
    | succ m ih =>
      intro hm
      obtain ⟨i1, i2⟩ := ih (by omega)
      rw [compactUpTo_succ]
      by_cases hk : keeps zs.toArray m = true
      · rw [hk, if_pos rfl, hget m (by omega)]
        refine ⟨List.pairwise_append.2 ⟨i1, List.pairwise_singleton _ _, fun a ha b hb => ?_⟩, fun x => ?_⟩
        · rw [List.mem_singleton] at hb
          subst hb
          obtain ⟨j, hj, hj', rfl⟩ := (i2 a).1 ha
          unfold keeps at hk
          rcases of_decide_eq_true hk with e | e
          · omega
          · rw [hget m (by omega), hget (m - 1) (by omega)] at e
            have h1 := hle j (m - 1) (by omega) (by omega)
            have h2 := hle (m - 1) m (by omega) (by omega)
            omega
        · rw [List.mem_append, i2, List.mem_singleton]
          constructor
          · rintro (⟨j, hj, hj', e⟩ | e)
            · exact ⟨j, by omega, hj', e⟩
            · exact ⟨m, by omega, by omega, e⟩
          · rintro ⟨j, hj, hj', e⟩
            by_cases hjm : j = m
            · subst hjm; exact .inr e
            · exact .inl ⟨j, by omega, hj', e⟩
      · have hk' : keeps zs.toArray m = false := by simpa using hk
        rw [hk', if_neg (by simp), List.append_nil]
        refine ⟨i1, fun x => ?_⟩
        rw [i2]
        unfold keeps at hk'
        have hn := of_decide_eq_false hk'
        have hm0 : 0 < m := by
          rcases Nat.eq_zero_or_pos m with e | e
          · exact absurd (.inl e) hn
          · exact e
        have e : zs[m]'(by omega) = zs[m - 1]'(by omega) := by
          have : ¬ zs.toArray[m]! ≠ zs.toArray[m - 1]! := fun h => hn (.inr h)
          rw [hget m (by omega), hget (m - 1) (by omega)] at this
          exact Classical.not_not.1 this
        constructor
        · rintro ⟨j, hj, hj', q⟩
          exact ⟨j, by omega, hj', q⟩
        · rintro ⟨j, hj, hj', q⟩
          by_cases hjm : j = m
          · subst hjm; exact ⟨j - 1, by omega, by omega, by rw [q, e]⟩
          · exact ⟨j, by omega, hj', q⟩
  obtain ⟨h1, h2⟩ := key zs.length (Nat.le_refl _)
  refine ⟨h1, fun x => ?_⟩
  rw [show compact zs = compactUpTo zs.toArray zs.length from rfl, h2]
  constructor
  · rintro ⟨j, _, hj, rfl⟩; exact List.getElem_mem hj
  · intro hx
    obtain ⟨j, hj, e⟩ := List.getElem_of_mem hx
    exact ⟨j, hj, hj, e.symm⟩
theorem compact_sort (l : List Int) : compact (l.mergeSort fun x y => decide (x ≤ y)) = putAll l := by
  have hs : (l.mergeSort fun x y => decide (x ≤ y)).Pairwise (· ≤ ·) := by
    have := List.pairwise_mergeSort (le := fun x y : Int => decide (x ≤ y)) (fun a b c h1 h2 => by simp at *; omega) (fun a b => by simp; omega) l
    exact this.imp (fun h => by simpa using h)
  obtain ⟨h1, h2⟩ := compact_asc _ hs
  obtain ⟨g1, g2, _⟩ := putAll_spec l
  refine asc_unique h1 g1 fun x => ?_
  rw [h2, g2, List.mem_mergeSort]

/-! rows -/
theorem putCells_get (d : Array Int) (c : Array Value) (k : Nat) (hk : k < d.size) (hc : k < c.size) : (putCells (Value.int .i64) 0 d c)[k]? = some (.int .i64 d[k]!) := by
  simp only [putCells, Array.getElem?_mapIdx, Array.getElem?_eq_getElem hc, Option.map_some]
  rw [if_pos ⟨by omega, by omega⟩]
  simp
theorem heap_putRow (w : World) (blk off : Nat) (d : Array Int) {c : Array Value} {e : TypeId} {fr : Nat × Nat} (h : w.heap[blk]? = some (.cells c e fr)) : (putRow (Value.int .i64) w blk off d).heap[blk]? = some (.cells (putCells (Value.int .i64) off d c) e fr) := by
  simp [putRow, mapBlock, Array.getElem?_modify, h, onCells]
theorem putRow_chg (w : World) (blk off : Nat) (d : Array Int) : Chg (· = blk) w (putRow (Value.int .i64) w blk off d) := by
  refine ⟨rfl, rfl, rfl, by simp, fun k hk hn => ?_⟩
  simp only [putRow, mapBlock, Array.getElem?_modify]
  rw [if_neg (fun e => hn e.symm)]
theorem own_block {w : World} {base : Nat} {v : Value} {l : List Int} (h : OwnI w base v l) (hl : 0 < l.length) : ∃ g cap cur, v = .slice (some ⟨g, 0, none⟩) l.length cap ∧ base ≤ g ∧ w.heap[g]? = some (.cells cur 3 (0, 0)) ∧ l.length ≤ cap ∧ cap ≤ maxLen ∧ cur.size = cap * 1 ∧ cur.toList.take (l.length * 1) = iv l := by
  rcases h.2 with ⟨rfl, h0⟩ | ⟨g, cap, cur, rfl, hb, hg, hnc, hcm, hcs, htake⟩
  · omega
  · refine ⟨g, cap, cur, rfl, hb, hg, hnc, hcm, hcs, ?_⟩
    exact htake
theorem own_holds {w : World} {g : Nat} {cur : Array Value} {l : List Int} (hg : w.heap[g]? = some (.cells cur 3 (0, 0))) (ht : cur.toList.take (l.length * 1) = iv l) : Holds (Value.int .i64) w g 0 l.toArray := by
  intro j hj
  have hj' : j < l.length := by simpa using hj
  have e : cur[j]? = some (.int .i64 l[j]) := by
    have : (cur.toList.take (l.length * 1))[j]? = (iv l)[j]? := by rw [ht]
    rw [List.getElem?_take, if_pos (by omega), iv, List.getElem?_map, List.getElem?_eq_getElem hj', Array.getElem?_toList] at this
    simpa using this
  refine ⟨?_, frozen_of_row _ _ _ _ _ hg⟩
  rw [Nat.zero_add, cell_of_row _ _ _ _ _ _ hg, e, getElem!_pos l.toArray j hj]
  simp
theorem own_put {w : World} {base g cap m : Nat} {cur : Array Value} {d : List Int} (hb : base ≤ g) (hg : w.heap[g]? = some (.cells cur 3 (0, 0))) (hcm : cap ≤ maxLen) (hs : cur.size = cap * 1) (hd : d.length ≤ cap) (hm : m ≤ d.length) :
    OwnI (putRow (Value.int .i64) w g 0 d.toArray) base (.slice (some ⟨g, 0, none⟩) (d.take m).length cap) (d.take m) := by
  have hl : (d.take m).length = m := by rw [List.length_take]; omega
  refine ⟨by rw [iv_len, hl]; omega, .inr ⟨g, cap, _, rfl, hb, heap_putRow w g 0 d.toArray hg, by omega, hcm, ?_, ?_⟩⟩
  · simp [putCells, hs]
  · rw [hl]
    apply List.ext_getElem?
    intro k
    rw [List.getElem?_take, Nat.mul_one]
    by_cases hk : k < m
    · rw [if_pos hk, Array.getElem?_toList, putCells_get d.toArray cur k (by simp; omega) (by omega), iv, List.getElem?_map, List.getElem?_take, if_pos hk, List.getElem?_eq_getElem (by omega)]
      rw [getElem!_pos d.toArray k (by simp; omega)]
      simp
    · rw [if_neg hk, iv, List.getElem?_map, List.getElem?_take, if_neg hk]; rfl
end Go.Proofs.Ytkocehfapcmiiaa
