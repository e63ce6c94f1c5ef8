/-
 RwC
-/
import Derived.Test.YtbfdegkickjbpaaGreatGRcG
import Derived.Test.YtbfdegkickjbpaaGreatGWk1
namespace Go.Proofs.YtbfdegkickjbpaaGreat
open Go.RowKit Go.Lib Go.IntWalk Go.Sort Go.Shelf
theorem exIs_keep {w w':World} {F:Nat→Prop} (hk:Keeps F w w'):∀(d:Nat) (e:RE),exIs d w F e→exIs d w' F e:=by
 intro d
 induction d with
 |zero=>intro e _;trivial
 |succ d ih=>
  intro e h
  obtain ⟨op,it,val,nm,A,c,args⟩:=e
  obtain ⟨h1,h2,h3,h4⟩:=h
  exact ⟨h1.keep hk,h2,h3,fun a ha=>ih a (h4 a ha)⟩
end Go.Proofs.YtbfdegkickjbpaaGreat
