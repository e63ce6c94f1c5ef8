/-
 Bulk
-/
import Derived.Test.YthfbfmkdplifeaaDLaw
import Derived.Test.YthfbfmkdplifeaaDWal
import Derived.Deep.Matrix
namespace Go.Proofs.Ythfbfmkdplifeaa
open Go.ChangeShapes Go.WideShapes Go.ChangeAt Go.RowKit Go.Lib Go.Deep
theorem bulk_append {H : Type} (a b : List (DataW H)) : Rows.uptoBulkAll (a ++ b) = Rows.uptoBulkAll a + Rows.uptoBulkAll b := by
 induction a with
 | nil => simp [Rows.uptoBulkAll]
 | cons x r ih => simp only [List.cons_append, Rows.uptoBulkAll, ih]; omega
theorem bulk_bound {H : Type} {l gs : List (DataW H)} (h : Rows.uptoSmall H (l ++ gs) = true) : Rows.uptoBulkAll l ≤ 1048576 := by
 have h : Rows.uptoBulkAll (l ++ gs) ≤ 1048576 := of_decide_eq_true h
 rw [bulk_append] at h
 omega
section
variable {H : Type} {enc : TypeId × Value → H} {w : World} {b0 : Nat} {r : Reach}
end
end Go.Proofs.Ythfbfmkdplifeaa
