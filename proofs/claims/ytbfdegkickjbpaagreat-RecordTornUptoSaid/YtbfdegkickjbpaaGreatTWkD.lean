/-
 WkD
-/
import Derived.Test.YtbfdegkickjbpaaGreatTWkB
namespace Go.Proofs.YtbfdegkickjbpaaGreat
open Go.RowKit Go.Lib Go.IntWalk Go.Sort Go.Shelf
def xs7 : List Val := [⟨1, 7, ⟨#[]⟩⟩]
end Go.Proofs.YtbfdegkickjbpaaGreat
