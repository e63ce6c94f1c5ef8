/-
 Src1
-/
import Derived.Test.YtgfhknnklapldaaGreatDoorPVer
namespace Go.Proofs.YtgfhknnklapldaaGreatDoor
set_option maxRecDepth 99999
set_option maxHeartbeats 0
open Go.RowKit Go.Lib Go.IntWalk Go.Sort Go.Shelf
def rdS {α:Type} (dec:Int→α×Int×Int) (z:α) (s:Int×Int):α×Int×Int:=
 if s.2≠0 then (z,s) else if (dec s.1).2.2=0 then ((dec s.1).1,(dec s.1).2.1,0) else ((dec s.1).1,s.1,(dec s.1).2.2)
abbrev rdI (l:List UInt8):Int×Int→Int×Int×Int:=rdS (decI l) 0
end Go.Proofs.YtgfhknnklapldaaGreatDoor
