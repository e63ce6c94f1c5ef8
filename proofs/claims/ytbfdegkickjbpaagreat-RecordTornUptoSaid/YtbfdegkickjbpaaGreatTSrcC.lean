/-
 SrcC
-/
import Derived.Test.YtbfdegkickjbpaaGreatTSrcB
namespace Go.Proofs.YtbfdegkickjbpaaGreat
open Go.RowKit Go.Lib Go.IntWalk Go.Sort Go.Shelf
def getS {α : Type} (one : Int × Int → α × Int × Int) : Nat → Int × Int → List α × Int × Int
 | 0, s => ([], s)
 | n + 1, s => if s.2 ≠ 0 then ([], s) else ((one s).1 :: (getS one n (one s).2).1, (getS one n (one s).2).2)
theorem getS_stop {α : Type} {one : Int × Int → α × Int × Int} {n : Nat} {s : Int × Int} (h : n = 0 ∨ s.2 ≠ 0) : getS one n s = ([], s) := by
 cases n with
 | zero => rfl
 | succ n =>
  rcases h with h | h
  ·omega
  ·exact if_pos h
theorem getS_step {α : Type} {one : Int × Int → α × Int × Int} {n : Nat} {s s' : Int × Int} {a : α} (h : s.2 = 0) (h1 : one s = (a, s')) : getS one (n + 1) s = (a :: (getS one n s').1, (getS one n s').2) := by
 rw [getS, if_neg (by simpa using h), h1]
theorem rdI_err {l : List UInt8} {s : Int × Int} (h : (rdI l s).2.2 ≠ 0) : (rdI l s).1 = 0 := by
 unfold rdI rdS at h ⊢
 split
 ·rfl
 ·rename_i h0
  rw [if_neg h0] at h
  split
  ·rename_i h1; rw [if_pos h1] at h; exact absurd rfl h
  ·rename_i h1; exact decI_err h1
end Go.Proofs.YtbfdegkickjbpaaGreat
