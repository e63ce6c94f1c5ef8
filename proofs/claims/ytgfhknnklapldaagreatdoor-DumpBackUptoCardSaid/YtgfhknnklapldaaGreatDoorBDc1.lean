/-
 Dc1
-/
import Derived.Test.YtgfhknnklapldaaGreatDoorBSmA
import Derived.Test.YtgfhknnklapldaaGreatDoorBVer
namespace Go.Proofs.YtgfhknnklapldaaGreatDoor
set_option maxRecDepth 99999
set_option maxHeartbeats 0
open Go.RowKit Go.Lib Go.IntWalk Go.Sort Go.Shelf
def RFor.er (x:RFor):RFor:=⟨none,0,x.cols,x.table⟩
mutual
def RE.er:RE→RE
 | .mk op it v nm _ _ args=>.mk op it v nm none 0 (ersX args)
def ersX:List RE→List RE
 |[]=>[]
 |x::r=>x.er::ersX r
end
theorem ersX_eq:∀l:List RE,ersX l=l.map RE.er
 |[]=>by simp only [ersX,List.map_nil]
 |x::r=>by simp only [ersX,List.map_cons,ersX_eq r]
theorem RE.er_mk (op it:Int) (v:Val) (nm:ByteArray) (A:Option Addr) (c:Nat) (args:List RE):(RE.mk op it v nm A c args).er=.mk op it v nm none 0 (args.map RE.er):=by
 simp only [RE.er,ersX_eq]
def RTab.er (t:RTab):RTab:=⟨t.name,none,0,t.cols,none,0,t.key,none,0,t.fors.map RFor.er,none,0,t.chks.map RE.er⟩
def REn.er (x:REn):REn:=⟨x.time,x.table,x.create.er,x.change⟩
end Go.Proofs.YtgfhknnklapldaaGreatDoor
