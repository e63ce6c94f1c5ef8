/-
  Manifests: what Decode's parts read, in plain words.
-/
import Derived.Test.YthjephhojngiaaaGreatDoorManK
namespace Go.Proofs.YthjephhojngiaaaGreatDoor
open Go.RowKit Go.Lib

/-- a text, or an error that stands -/
def stT (body : List UInt8) (k e : Int) : List UInt8 × Int × Int := if e = 0 then decT body k 200 else ([], k, e)
/-- an integer, or an error that stands -/
def stI (body : List UInt8) (k e : Int) : Int × Int × Int := if e = 0 then decI body k else (0, k, e)
theorem stT_err {body : List UInt8} {k e : Int} (h : e ≠ 0) : stT body k e = ([], k, e) := if_neg h
theorem stI_err {body : List UInt8} {k e : Int} (h : e ≠ 0) : stI body k e = (0, k, e) := if_neg h
/-- what the loop over the segments has read -/
def SegsAre (body : List UInt8) (n k2 e2 : Int) (sg : List (List UInt8)) (k3 e3 : Int) : Prop :=
  if e2 = 0 then (if e3 = 0 then decSegs body n.toNat k2 [] = (sg, k3, 0) else (decSegs body n.toNat k2 []).2.2 = e3) else e3 = e2
theorem decB_err {body : List UInt8} {e1 e2 : Int} {n k1 k2 k3 k4 k5 k6 e3 e4 e5 e6 tx nx : Int} {s1 lg : List UInt8} {sg : List (List UInt8)} (h1 : decT body 0 200 = (s1, k1, e1)) (h2 : stI body k1 e1 = (n, k2, e2)) (hn : ¬ (e2 = 0 ∧ n < 0))
    (h3 : SegsAre body n k2 e2 sg k3 e3) (h4 : stT body k3 e3 = (lg, k4, e4)) (h5 : stI body k4 e4 = (tx, k5, e5)) (h6 : stI body k5 e5 = (nx, k6, e6)) :
    decB body = if e6 ≠ 0 then (.zero, e6) else if k6 < body.length then (.zero, 3) else if chkF ⟨s1, sg, lg, tx, nx⟩ = 0 then (⟨s1, sg, lg, tx, nx⟩, 0) else (.zero, chkF ⟨s1, sg, lg, tx, nx⟩) := by
  by_cases e : e3 = 0
  case neg =>
    rw [stT_err e] at h4
    simp only [Prod.mk.injEq] at h4
    obtain ⟨rfl, rfl, rfl⟩ := h4
    rw [stI_err e] at h5
    simp only [Prod.mk.injEq] at h5
    obtain ⟨rfl, rfl, rfl⟩ := h5
    rw [stI_err e] at h6
    simp only [Prod.mk.injEq] at h6
    obtain ⟨rfl, rfl, rfl⟩ := h6
    rw [if_pos e]
    unfold SegsAre at h3
    by_cases e' : e2 = 0
    · rw [if_pos e', if_neg e] at h3
      by_cases e0 : e1 = 0
      · rw [stI, if_pos e0] at h2
        unfold decB
        simp only [h1, h2]
        rw [if_neg (by simpa using e0), if_neg (by simpa using e'), if_neg (by intro h; exact hn ⟨e', h⟩), if_pos (by rw [h3]; exact e), h3]
      · rw [stI_err e0] at h2
        simp only [Prod.mk.injEq] at h2
        exact absurd (h2.2.2.trans e') e0
    · rw [if_neg e'] at h3
      subst h3
      by_cases e0 : e1 = 0
      · rw [stI, if_pos e0] at h2
        unfold decB
        simp only [h1, h2]
        rw [if_neg (by simpa using e0), if_pos e']
      · rw [stI_err e0] at h2
        simp only [Prod.mk.injEq] at h2
        obtain ⟨_, _, rfl⟩ := h2
        unfold decB
        simp only [h1]
        rw [if_pos e']
  case pos =>
  subst e
  unfold SegsAre at h3
  by_cases e' : e2 = 0
  case neg => rw [if_neg e'] at h3; exact absurd h3.symm e'
  subst e'
  rw [if_pos rfl, if_pos rfl] at h3
  by_cases e0 : e1 = 0
  case neg => rw [stI_err e0] at h2; simp only [Prod.mk.injEq] at h2; exact absurd h2.2.2 e0
  subst e0
  rw [stI, if_pos rfl] at h2
  rw [stT, if_pos rfl] at h4
  unfold decB
  simp only [h1, h2, h3, h4]
  rw [if_neg (by simp), if_neg (by simp), if_neg (by intro h; exact hn ⟨rfl, h⟩), if_neg (by simp)]
  by_cases e : e4 = 0
  case neg =>
    rw [stI_err e] at h5
    simp only [Prod.mk.injEq] at h5
    obtain ⟨rfl, rfl, rfl⟩ := h5
    rw [stI_err e] at h6
    simp only [Prod.mk.injEq] at h6
    obtain ⟨rfl, rfl, rfl⟩ := h6
    rw [if_pos e, if_pos e]
  subst e
  rw [stI, if_pos rfl] at h5
  simp only [h5]
  rw [if_neg (by simp)]
  by_cases e : e5 = 0
  case neg =>
    rw [stI_err e] at h6
    simp only [Prod.mk.injEq] at h6
    obtain ⟨rfl, rfl, rfl⟩ := h6
    rw [if_pos e, if_pos e]
  subst e
  rw [stI, if_pos rfl] at h6
  simp only [h6]
  rw [if_neg (by simp)]
theorem decB_neg {body : List UInt8} {e1 n k1 k2 : Int} {s1 : List UInt8} (h1 : decT body 0 200 = (s1, k1, e1)) (h2 : stI body k1 e1 = (n, k2, 0)) (hn : n < 0) : decB body = (.zero, 1) := by
  by_cases e0 : e1 = 0
  case neg => rw [stI_err e0] at h2; simp only [Prod.mk.injEq] at h2; exact absurd h2.2.2 e0
  subst e0
  rw [stI, if_pos rfl] at h2
  unfold decB
  simp only [h1, h2]
  rw [if_neg (by simp), if_neg (by simp), if_pos hn]
/-- what was read without an error is the encoding -/
theorem body_got {body : List UInt8} {n k1 k2 k3 k4 k5 k6 tx nx : Int} {s1 lg : List UInt8} {sg : List (List UInt8)} (h1 : decT body 0 200 = (s1, k1, 0)) (h2 : decI body k1 = (n, k2, 0)) (hn : ¬ n < 0)
    (h3 : decSegs body n.toNat k2 [] = (sg, k3, 0)) (h4 : decT body k3 200 = (lg, k4, 0)) (h5 : decI body k4 = (tx, k5, 0)) (h6 : decI body k5 = (nx, k6, 0)) (hk : ¬ k6 < (body.length : Int)) :
    bodyM ⟨s1, sg, lg, tx, nx⟩ = body := by
  have h := h1
  obtain ⟨a1, r1, g1, g2, g3, _⟩ := decT_got h1
  obtain rfl : a1 = [] := List.eq_nil_of_length_eq_zero (by omega)
  obtain ⟨a2, r2, f1, f2, f3⟩ := decI_got h2
  obtain ⟨ss, r3, u1, u2, u3, u4⟩ := decSegs_got _ _ _ _ _ h3 (a2 ++ encI n) r2 (by rw [f1]; simp) f3
  obtain ⟨a4, r4, v1, v2, v3, _⟩ := decT_got h4
  obtain ⟨a5, r5, x1, x2, x3⟩ := decI_got h5
  obtain ⟨a6, r6, y1, y2, y3⟩ := decI_got h6
  rw [List.nil_append] at g1 u1
  rw [List.nil_append] at g3
  subst u1
  obtain ⟨rfl, q2⟩ := app_split (g1.symm.trans f1) (g3.symm.trans f2)
  have z3 : body = ((encI s1.length ++ s1) ++ encI n ++ sg.flatMap txE) ++ r3 := by rw [u3]; simp
  obtain ⟨rfl, q4⟩ := app_split (z3.symm.trans v1) (by rw [← v2, u4])
  obtain ⟨rfl, q5⟩ := app_split (a := (encI s1.length ++ s1) ++ encI n ++ sg.flatMap txE ++ (encI lg.length ++ lg)) (r := r4) ((show _ = body by rw [v1]; simp).trans x1) (by rw [← x2, v3])
  obtain ⟨rfl, q6⟩ := app_split (a := (encI s1.length ++ s1) ++ encI n ++ sg.flatMap txE ++ (encI lg.length ++ lg) ++ encI tx) (r := r5) ((show _ = body by rw [x1]; simp).trans y1) (by rw [← y2, x3])
  have hr6 : r6 = [] := by
    have hl := congrArg List.length y1
    rw [y3] at hk
    simp only [List.length_append] at hl hk
    exact List.eq_nil_of_length_eq_zero (by omega)
  subst hr6
  have hn2 : n = (sg.length : Int) := by omega
  rw [y1, hn2]
  simp [bodyM, txE]
/-- the loop's invariant -/
def SegRel (body : List UInt8) (n : Nat) (k2 : Int) (j : Nat) (acc : List (List UInt8)) (k e : Int) : Prop :=
  if e = 0 then decSegs body n k2 [] = decSegs body (n - j) k acc ∧ (acc.length : Int) ≤ max k 0 else (decSegs body n k2 []).2.2 = e
theorem decT_step {body s : List UInt8} {k m : Int} (h : decT body k 200 = (s, m, 0)) : k + 1 ≤ m ∧ 0 ≤ k ∧ m ≤ body.length := by
  obtain ⟨a, r, g1, g2, g3, _⟩ := decT_got h
  have := congrArg List.length g1
  have h1 : 1 ≤ (encI s.length).length := by unfold encI; rw [vl]; split <;> simp
  simp only [List.length_append] at this g3
  omega
theorem segRel_start (body : List UInt8) (n : Nat) (k2 : Int) : SegRel body n k2 0 [] k2 0 := by
  unfold SegRel; rw [if_pos rfl]; exact ⟨by simp, by simp; omega⟩
theorem segRel_step {body : List UInt8} {n j : Nat} {k2 k k' e' : Int} {acc : List (List UInt8)} {s : List UInt8} (h : SegRel body n k2 j acc k 0) (hj : j < n) (hs : stT body k 0 = (s, k', e')) : SegRel body n k2 (j + 1) (acc ++ [s]) k' e' := by
  unfold SegRel at h ⊢
  rw [if_pos rfl] at h
  rw [stT, if_pos rfl] at hs
  obtain ⟨h1, h2⟩ := h
  rw [h1, show n - j = (n - (j + 1)) + 1 by omega, decSegs, hs]
  by_cases e : e' = 0
  · subst e
    have := decT_step hs
    rw [if_pos rfl, if_pos rfl]
    exact ⟨rfl, by simp; omega⟩
  · rw [if_neg e, if_neg e]
theorem segRel_end {body : List UInt8} {n j : Nat} {k2 k e : Int} {acc : List (List UInt8)} (h : SegRel body n k2 j acc k e) (hj : e = 0 → n ≤ j) {N : Int} (hN : N.toNat = n) : SegsAre body N k2 0 acc k e := by
  unfold SegsAre
  unfold SegRel at h
  rw [if_pos rfl, hN]
  by_cases e0 : e = 0
  · rw [if_pos e0] at h ⊢
    rw [h.1, show n - j = 0 by have := hj e0; omega, decSegs]
  · rw [if_neg e0] at h ⊢
    exact h
theorem segs_err {body : List UInt8} {n k2 e2 k3 : Int} {sg : List (List UInt8)} (h : e2 ≠ 0) : SegsAre body n k2 e2 sg k3 e2 := by unfold SegsAre; rw [if_neg h]
end Go.Proofs.YthjephhojngiaaaGreatDoor
