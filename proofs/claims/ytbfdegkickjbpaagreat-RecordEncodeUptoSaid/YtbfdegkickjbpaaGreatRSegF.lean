/-
 SegF
-/
import Derived.Test.YtbfdegkickjbpaaGreatRSegA
namespace Go.Proofs.YtbfdegkickjbpaaGreat
open Go.RowKit Go.Lib Go.IntWalk Go.Sort Go.Shelf
theorem OwnB.cast {w : World} {base : Nat} {v : Value} {a b : List UInt8} (h : OwnB w base v a) (e : a = b) : OwnB w base v b := e ▸ h
end Go.Proofs.YtbfdegkickjbpaaGreat
