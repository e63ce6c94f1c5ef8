/-
 St1
-/
import Derived.Test.YtgfhknnklapldaaGreatDoorBDc1
import Derived.Test.YtgfhknnklapldaaGreatDoorBRw1
import Derived.Test.YtgfhknnklapldaaGreatDoorBRc3
import Derived.Test.YtgfhknnklapldaaGreatDoorBDc4
import Derived.Test.YtgfhknnklapldaaGreatDoorBSm2
namespace Go.Proofs.YtgfhknnklapldaaGreatDoor
set_option maxRecDepth 99999
set_option maxHeartbeats 0
open Go.RowKit Go.Lib Go.IntWalk Go.Sort Go.Shelf
def rvP (x:Ver):VP:=(⟨x.id,x.sch,none,0,0,x.vf,x.vt,x.sf,x.st,x.by_,x.un⟩,x)
def verEr (p:VP):VP:=rvP p.2
def RTv.er (p:RTv):RTv:=⟨p.table,none,0,p.vers.map verEr⟩
def RSt.er (c:RSt):RSt:=⟨c.tx,c.time,c.wall,c.next,none,0,c.ents.map REn.er,none,0,c.stms,none,0,c.tabs.map RTv.er,none,0,c.pla,none,0,c.pol,none,0,c.hor⟩
end Go.Proofs.YtgfhknnklapldaaGreatDoor
