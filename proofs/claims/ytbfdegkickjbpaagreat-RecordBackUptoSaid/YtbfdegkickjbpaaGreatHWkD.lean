/-
 WkD
-/
import Derived.Test.YtbfdegkickjbpaaGreatHWk1
namespace Go.Proofs.YtbfdegkickjbpaaGreat
open Go.RowKit Go.Lib Go.IntWalk Go.Sort Go.Shelf
def xs7:List Val:=[⟨1,7,⟨#[]⟩⟩]
end Go.Proofs.YtbfdegkickjbpaaGreat
