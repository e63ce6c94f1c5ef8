/-
  Arguments: bytes. Plain lemmas.
-/
import Derived.Test.YtacjiocffbgkkaaGreatArgVr
namespace Go.Proofs.YtacjiocffbgkkaaGreat
open Go.ChangeShapes Go.WideShapes Go.ChangeAt Go.RowKit Go.Lib Go.Deep

section
variable {H : Type} {enc : TypeId × Value → H} {w : World} {b0 : Nat} {r : Reach}
set_option maxRecDepth 100000 in
theorem open_bytes {v : Value} {d : DataW H} {ps : List MemPlace} (hval : Value.okWide Tryz.prog w r b0 29 v) (h : DataW.Trod enc Tryz.prog w 0 (fun _ => true) true 29 v d ps) :
    ∃ l : List UInt8, RdB w (· < w.heap.size) v l := by
  obtain ⟨A, n, c, rfl⟩ := okWide_slice Tryz.underlying29 hval
  obtain ⟨l, ⟨v, e, hl⟩, _⟩ := (opn_bytes (enc := enc) (w := w) Tryz.underlying29).arg h
  simp only [Value.cells, List.cons.injEq, and_true] at e
  subst e
  exact ⟨l, hl⟩
end
end Go.Proofs.YtacjiocffbgkkaaGreat
