/-
  The parsing of periods: the program's way and the reference's come to one result. Plain Lean, no program.
-/
import Derived.Test.YtipngnejiddkdaaDoorPerPure
namespace Go.Proofs.YtipngnejiddkdaaDoor
open Go.Lib

def forever : List UInt8 := [102, 111, 114, 101, 118, 101, 114]
def pieces (l : List UInt8) : List UInt8 × List UInt8 × Bool := cut (trimSuffix (trimPrefix l [91]) [41]) [44, 32]
def okCut (l : List UInt8) : Bool := hasPrefix l [91] && hasSuffix (trimPrefix l [91]) [41] && (pieces l).2.2
def endB (t : List UInt8) : Int × Bool := if t = forever then (1099511627776, true) else if (numB t).1 = 1099511627776 then (1099511627777, (numB t).2) else numB t
def progR (a b : Int × Bool) : Int × Int × Int := if a.2 = false ∨ b.2 = false then (0, 0, 1) else if b.1 ≤ a.1 ∨ 1099511627776 < b.1 then (0, 0, 6) else (a.1, b.1, 0)
def progP (l : List UInt8) : Int × Int × Int := if okCut l = false then (0, 0, 1) else progR (numB (pieces l).1) (endB (pieces l).2.1)

/-- the digits from an offset on: the number, and the offset after them (-1: none) -/
def dgs (l : List UInt8) (k : Nat) : Int × Int :=
  if goodN ((l.drop k).takeWhile dig) = true then ((capF 1099511627776 ((l.drop k).takeWhile dig) : Nat), (k + ((l.drop k).takeWhile dig).length : Nat)) else (0, -1)
def refEnd (l : List UInt8) (a : Int) (k : Nat) : Int × Int × Int :=
  if l.drop k = forever ++ [41] then (if 1099511627776 ≤ a then (0, 0, 6) else (a, 1099511627776, 0))
  else if (dgs l k).2 < 0 then (0, 0, 1) else if ¬ l.drop (dgs l k).2.toNat = [41] then (0, 0, 1)
  else if (dgs l k).1 ≤ a ∨ 1099511627776 ≤ (dgs l k).1 then (0, 0, 6) else (a, (dgs l k).1, 0)
def refP (l : List UInt8) : Int × Int × Int :=
  if l.head? ≠ some 91 then (0, 0, 1) else if (dgs l 1).2 < 0 then (0, 0, 1)
  else if ¬ (l.drop (dgs l 1).2.toNat).take 2 = [44, 32] then (0, 0, 1) else refEnd l (dgs l 1).1 ((dgs l 1).2.toNat + 2)

/-- the text of a period -/
def Form (l ds t : List UInt8) : Prop := l = 91 :: (ds ++ 44 :: 32 :: (t ++ [41])) ∧ goodN ds = true ∧ (goodN t = true ∨ t = forever)
def resP (ds t : List UInt8) : Int × Int × Int :=
  if t = forever then (if 1099511627776 ≤ val ds then (0, 0, 6) else ((val ds : Nat), 1099511627776, 0))
  else if val t ≤ val ds ∨ 1099511627776 ≤ val t then (0, 0, 6) else ((val ds : Nat), (val t : Nat), 0)

theorem good_dig {l : List UInt8} (h : goodN l = true) : ∀ c ∈ l, dig c = true := ((goodN_iff l).1 h).2.1
theorem good_not_forever {t : List UInt8} (h : goodN t = true) : t ≠ forever := fun e => by
  have := good_dig h 102 (by rw [e]; decide)
  revert this; decide
theorem numB_good {l : List UInt8} (h : goodN l = true) : numB l = (((min (val l) 1099511627777 : Nat) : Int), true) := by rw [numB, if_pos h, cap_val]
theorem numB_bad {l : List UInt8} (h : ¬ goodN l = true) : numB l = (0, false) := by rw [numB, if_neg h]
theorem hasPrefix_one {l : List UInt8} {c : UInt8} (h : hasPrefix l [c] = true) : ∃ r, l = c :: r := by
  unfold hasPrefix at h
  rw [List.isPrefixOf_iff_prefix] at h
  obtain ⟨r, rfl⟩ := h
  exact ⟨r, rfl⟩
theorem hasSuffix_one {l : List UInt8} {c : UInt8} (h : hasSuffix l [c] = true) : ∃ r, l = r ++ [c] := by
  unfold hasSuffix at h
  rw [List.isSuffixOf_iff_suffix] at h
  obtain ⟨r, rfl⟩ := h
  exact ⟨r, rfl⟩
theorem trimP (c : UInt8) (r : List UInt8) : hasPrefix (c :: r) [c] = true ∧ trimPrefix (c :: r) [c] = r := by
  have h : hasPrefix (c :: r) [c] = true := by unfold hasPrefix; rw [List.isPrefixOf_iff_prefix]; exact ⟨r, rfl⟩
  refine ⟨h, ?_⟩
  unfold trimPrefix; rw [if_pos h]; rfl
theorem trimS (c : UInt8) (r : List UInt8) : hasSuffix (r ++ [c]) [c] = true ∧ trimSuffix (r ++ [c]) [c] = r := by
  have h : hasSuffix (r ++ [c]) [c] = true := by unfold hasSuffix; rw [List.isSuffixOf_iff_suffix]; exact ⟨r, rfl⟩
  refine ⟨h, ?_⟩
  unfold trimSuffix; rw [if_pos h]; simp
theorem cut_some {s fr to : List UInt8} (h : cut s [44, 32] = (fr, to, true)) : s = fr ++ 44 :: 32 :: to := by
  unfold cut at h
  split at h
  · rename_i h0
    rcases index_spec s [44, 32] with ⟨h1, _⟩ | ⟨i, h1, h2, h3, _⟩
    · omega
    · rw [h1] at h
      simp only [Int.toNat_natCast, Prod.mk.injEq, and_true] at h
      obtain ⟨rfl, rfl⟩ := h
      unfold occAt at h3
      rw [List.isPrefixOf_iff_prefix] at h3
      obtain ⟨r, hr⟩ := h3
      have h4 : s.drop (i + ([44, 32] : List UInt8).length) = r := by
        rw [← List.drop_drop, ← hr]; rfl
      rw [h4]
      conv => lhs; rw [← List.take_append_drop i s, ← hr]
      rfl
  · simp at h
theorem cut_at {fr to : List UInt8} (h : ∀ c ∈ fr, dig c = true) : cut (fr ++ 44 :: 32 :: to) [44, 32] = (fr, to, true) := by
  have hi : index (fr ++ 44 :: 32 :: to) [44, 32] = (fr.length : Nat) := by
    refine index_first (by simp) ?_ ?_
    · unfold occAt
      rw [List.isPrefixOf_iff_prefix, List.drop_left]
      exact ⟨to, rfl⟩
    · intro j hj
      rw [← Bool.not_eq_true]
      intro ho
      have := occAt_head (c := 44) (t := [32]) rfl ho
      rw [List.getElem?_append_left hj, List.getElem?_eq_getElem hj, Option.some.injEq] at this
      have hd := h _ (List.getElem_mem hj)
      rw [this] at hd
      revert hd; decide
  unfold cut
  rw [hi, if_pos (by omega)]
  simp only [Int.toNat_natCast, Prod.mk.injEq, and_true]
  refine ⟨List.take_left, ?_⟩
  have : fr ++ 44 :: 32 :: to = (fr ++ [44, 32]) ++ to := by simp
  rw [this, show fr.length + ([44, 32] : List UInt8).length = (fr ++ [44, 32]).length by simp, List.drop_left]

theorem prog_form {l ds t : List UInt8} (h : Form l ds t) : progP l = resP ds t := by
  obtain ⟨rfl, hd, ht⟩ := h
  have e1 := trimP 91 (ds ++ 44 :: 32 :: (t ++ [41]))
  have e2 := trimS 41 (ds ++ 44 :: 32 :: t)
  have e3 : ds ++ 44 :: 32 :: (t ++ [41]) = (ds ++ 44 :: 32 :: t) ++ [41] := by simp
  have hp : pieces (91 :: (ds ++ 44 :: 32 :: (t ++ [41]))) = (ds, t, true) := by
    unfold pieces
    rw [e1.2, e3, e2.2, cut_at (good_dig hd)]
  have ho : okCut (91 :: (ds ++ 44 :: 32 :: (t ++ [41]))) = true := by
    unfold okCut
    rw [hp, e1.1, e1.2, e3, e2.1]; rfl
  unfold progP
  rw [if_neg (by rw [ho]; simp), hp]
  simp only
  rw [numB_good hd]
  unfold resP endB progR
  by_cases hf : t = forever
  · rw [if_pos hf, if_pos hf]
    simp only [Bool.true_eq_false, or_self, if_false]
    by_cases hv : 1099511627776 ≤ val ds
    · rw [if_pos (by omega), if_pos hv]
    · rw [if_neg (by omega), if_neg hv]
      have : min (val ds) 1099511627777 = val ds := by omega
      rw [this]
  · rw [if_neg hf, if_neg hf]
    have hg : goodN t = true := by rcases ht with h | h; (exact h); exact absurd h hf
    rw [numB_good hg]
    simp only
    by_cases hc : val t ≤ val ds ∨ 1099511627776 ≤ val t
    · rw [if_pos hc]
      by_cases he : ((min (val t) 1099511627777 : Nat) : Int) = 1099511627776
      · rw [if_pos he]
        simp only [Bool.true_eq_false, or_self, if_false]
        rw [if_pos (by omega)]
      · rw [if_neg he]
        simp only [Bool.true_eq_false, or_self, if_false]
        rw [if_pos (by omega)]
    · have he : ¬ ((min (val t) 1099511627777 : Nat) : Int) = 1099511627776 := by omega
      rw [if_neg hc, if_neg he]
      simp only [Bool.true_eq_false, or_self, if_false]
      rw [if_neg (by omega)]
      have m1 : min (val ds) 1099511627777 = val ds := by omega
      have m2 : min (val t) 1099511627777 = val t := by omega
      rw [m1, m2]
theorem prog_none {l : List UInt8} (h : ∀ ds t, ¬ Form l ds t) : progP l = (0, 0, 1) := by
  unfold progP
  cases ho : okCut l
  · rw [if_pos rfl]
  · rw [if_neg (by simp)]
    unfold progR
    refine if_pos ?_
    apply Classical.byContradiction
    intro hc
    rw [not_or, Bool.not_eq_false, Bool.not_eq_false] at hc
    unfold okCut at ho
    rw [Bool.and_eq_true, Bool.and_eq_true] at ho
    obtain ⟨⟨o1, o2⟩, o3⟩ := ho
    obtain ⟨r, rfl⟩ := hasPrefix_one o1
    rw [(trimP 91 r).2] at o2
    obtain ⟨q, rfl⟩ := hasSuffix_one o2
    have hp : pieces (91 :: (q ++ [41])) = cut q [44, 32] := by unfold pieces; rw [(trimP 91 _).2, (trimS 41 q).2]
    rw [hp] at hc o3
    rcases hq : cut q [44, 32] with ⟨fr, to, b⟩
    rw [hq] at hc o3
    simp only at hc o3
    subst o3
    have := cut_some hq
    subst this
    refine h fr to ⟨by simp, ?_, ?_⟩
    · apply Classical.byContradiction
      intro hn
      rw [numB_bad hn] at hc
      exact absurd hc.1 (by simp)
    · apply Classical.byContradiction
      intro hn
      rw [not_or] at hn
      unfold endB at hc
      rw [if_neg hn.2, numB_bad hn.1] at hc
      simp at hc

theorem tw_app {ds r : List UInt8} (h : ∀ c ∈ ds, dig c = true) (hr : ∀ c, r.head? = some c → dig c = false) : (ds ++ r).takeWhile dig = ds := by
  induction ds with
  | nil =>
    cases r with
    | nil => rfl
    | cons c r =>
      have := hr c rfl
      simp [this]
  | cons d ds ih =>
    rw [List.cons_append, List.takeWhile_cons, if_pos (h d (List.mem_cons_self ..)), ih fun c hc => h c (List.mem_cons_of_mem _ hc)]
theorem dgs_app {p ds r : List UInt8} (hd : goodN ds = true) (hr : ∀ c, r.head? = some c → dig c = false) : dgs (p ++ (ds ++ r)) p.length = (((min (val ds) 1099511627776 : Nat) : Int), (((p ++ ds).length : Nat) : Int)) := by
  unfold dgs
  rw [List.drop_left, tw_app (good_dig hd) hr, if_pos hd, cap_val, List.length_append]
theorem ref_form {l ds t : List UInt8} (h : Form l ds t) : refP l = resP ds t := by
  obtain ⟨rfl, hd, ht⟩ := h
  have g1 := dgs_app (p := [91]) (r := 44 :: 32 :: (t ++ [41])) hd (by intro c hc; simp at hc; subst hc; decide)
  have e1 : [91] ++ (ds ++ 44 :: 32 :: (t ++ [41])) = 91 :: (ds ++ 44 :: 32 :: (t ++ [41])) := rfl
  rw [e1] at g1
  have hlen : ([91] : List UInt8).length = 1 := rfl
  rw [hlen] at g1
  have e2 : 91 :: (ds ++ 44 :: 32 :: (t ++ [41])) = ([91] ++ ds) ++ 44 :: 32 :: (t ++ [41]) := by simp
  have e3 : 91 :: (ds ++ 44 :: 32 :: (t ++ [41])) = ([91] ++ ds ++ [44, 32]) ++ (t ++ [41]) := by simp
  have d1 : (91 :: (ds ++ 44 :: 32 :: (t ++ [41]))).drop ([91] ++ ds).length = 44 :: 32 :: (t ++ [41]) := by rw [e2, List.drop_left]
  have d2 : (91 :: (ds ++ 44 :: 32 :: (t ++ [41]))).drop (([91] ++ ds).length + 2) = t ++ [41] := by
    rw [e3, show (([91] : List UInt8) ++ ds).length + 2 = (([91] : List UInt8) ++ ds ++ [44, 32]).length by simp, List.drop_left]
  unfold refP
  rw [if_neg (by simp), g1]
  simp only
  rw [if_neg (by omega), Int.toNat_natCast, d1, if_neg (by simp)]
  unfold refEnd resP
  rw [d2]
  by_cases hf : t = forever
  · rw [if_pos hf, if_pos (by rw [hf])]
    by_cases hv : 1099511627776 ≤ val ds
    · rw [if_pos (by omega), if_pos hv]
    · rw [if_neg (by omega), if_neg hv]
      have : min (val ds) 1099511627776 = val ds := by omega
      rw [this]
  · have hg : goodN t = true := by rcases ht with h | h; (exact h); exact absurd h hf
    rw [if_neg hf, if_neg (fun he => hf (List.append_cancel_right he))]
    have g2 := dgs_app (p := [91] ++ ds ++ [44, 32]) (r := [41]) hg (by intro c hc; simp at hc; subst hc; decide)
    have hl2 : ([91] ++ ds ++ [44, 32] : List UInt8).length = ([91] ++ ds : List UInt8).length + 2 := by simp
    rw [← e3, hl2] at g2
    rw [g2]
    simp only
    have d3 : (91 :: (ds ++ 44 :: 32 :: (t ++ [41]))).drop ([91] ++ ds ++ [44, 32] ++ t).length = [41] := by
      have : 91 :: (ds ++ 44 :: 32 :: (t ++ [41])) = ([91] ++ ds ++ [44, 32] ++ t) ++ [41] := by simp
      rw [this, List.drop_left]
    rw [if_neg (by omega), Int.toNat_natCast, d3, if_neg (by simp)]
    by_cases hc : val t ≤ val ds ∨ 1099511627776 ≤ val t
    · rw [if_pos hc, if_pos (by omega)]
    · rw [if_neg hc, if_neg (by omega)]
      have m1 : min (val ds) 1099511627776 = val ds := by omega
      have m2 : min (val t) 1099511627776 = val t := by omega
      rw [m1, m2]
theorem dgs_good {l : List UInt8} {k : Nat} (h : ¬ (dgs l k).2 < 0) : goodN ((l.drop k).takeWhile dig) = true ∧ (dgs l k).2 = ((k + ((l.drop k).takeWhile dig).length : Nat) : Int) := by
  unfold dgs at h ⊢
  by_cases hg : goodN ((l.drop k).takeWhile dig) = true
  · rw [if_pos hg]; exact ⟨hg, rfl⟩
  · rw [if_neg hg] at h; exact absurd (show (-1 : Int) < 0 by omega) h
theorem ref_none {l : List UInt8} (h : ∀ ds t, ¬ Form l ds t) : refP l = (0, 0, 1) := by
  unfold refP
  by_cases h1 : l.head? ≠ some 91
  · rw [if_pos h1]
  · rw [if_neg h1]
    have h1' : l.head? = some 91 := Classical.not_not.1 h1
    obtain ⟨r, rfl⟩ : ∃ r, l = 91 :: r := by
      cases l with
      | nil => cases h1'
      | cons c r => simp only [List.head?_cons, Option.some.injEq] at h1'; exact ⟨r, by rw [h1']⟩
    by_cases h2 : (dgs (91 :: r) 1).2 < 0
    · rw [if_pos h2]
    · rw [if_neg h2]
      obtain ⟨hg, he⟩ := dgs_good h2
      rw [he, Int.toNat_natCast]
      rw [show (91 :: r).drop 1 = r from rfl] at hg he ⊢
      have hsp := List.takeWhile_append_dropWhile (p := dig) (l := r)
      generalize r.takeWhile dig = ds at *
      generalize r.dropWhile dig = q at *
      subst hsp
      have d1 : (91 :: (ds ++ q)).drop (1 + ds.length) = q := by
        have : 91 :: (ds ++ q) = ([91] ++ ds) ++ q := by simp
        rw [this, show 1 + ds.length = ([91] ++ ds).length by simp; omega, List.drop_left]
      rw [d1]
      by_cases h3 : q.take 2 = [44, 32]
      · rw [if_neg (by simpa using h3)]
        obtain ⟨u, rfl⟩ : ∃ u, q = 44 :: 32 :: u := by
          have := List.take_append_drop 2 q
          rw [h3] at this
          exact ⟨q.drop 2, this.symm⟩
        have d2 : (91 :: (ds ++ 44 :: 32 :: u)).drop (1 + ds.length + 2) = u := by
          have : 91 :: (ds ++ 44 :: 32 :: u) = ([91] ++ ds ++ [44, 32]) ++ u := by simp
          rw [this, show 1 + ds.length + 2 = ([91] ++ ds ++ [44, 32]).length by simp; omega, List.drop_left]
        unfold refEnd
        rw [d2]
        by_cases h4 : u = forever ++ [41]
        · exact absurd ⟨by rw [h4], hg, .inr rfl⟩ (h ds forever)
        · rw [if_neg h4]
          by_cases h5 : (dgs (91 :: (ds ++ 44 :: 32 :: u)) (1 + ds.length + 2)).2 < 0
          · rw [if_pos h5]
          · rw [if_neg h5]
            obtain ⟨hg2, he2⟩ := dgs_good h5
            rw [d2] at hg2 he2
            rw [he2, Int.toNat_natCast]
            have hsp2 := List.takeWhile_append_dropWhile (p := dig) (l := u)
            generalize u.takeWhile dig = t at *
            generalize u.dropWhile dig = q2 at *
            subst hsp2
            have d3 : (91 :: (ds ++ 44 :: 32 :: (t ++ q2))).drop (1 + ds.length + 2 + t.length) = q2 := by
              have : 91 :: (ds ++ 44 :: 32 :: (t ++ q2)) = ([91] ++ ds ++ [44, 32] ++ t) ++ q2 := by simp
              rw [this, show 1 + ds.length + 2 + t.length = ([91] ++ ds ++ [44, 32] ++ t).length by simp; omega, List.drop_left]
            rw [d3]
            by_cases h6 : q2 = [41]
            · exact absurd ⟨by rw [h6], hg, .inl hg2⟩ (h ds t)
            · rw [if_pos h6]
      · rw [if_pos h3]
/-- the two ways of parsing come to one result -/
theorem parse_same (l : List UInt8) : progP l = refP l := by
  by_cases h : ∃ ds t, Form l ds t
  · obtain ⟨ds, t, h⟩ := h
    rw [prog_form h, ref_form h]
  · have h' : ∀ ds t, ¬ Form l ds t := fun ds t hf => h ⟨ds, t, hf⟩
    rw [prog_none h', ref_none h']
end Go.Proofs.YtipngnejiddkdaaDoor
