/-
 DuS
-/
import Derived.Test.YtgfhknnklapldaaGreatDoorRows
import Derived.Test.YtgfhknnklapldaaGreatDoorShelf
import Derived.Test.YtgfhknnklapldaaGreatDoorQDuD
import Derived.Test.YtgfhknnklapldaaGreatDoorQSm2
import Derived.LaidMore
import Derived.Lay
import Derived.Stop.Joined
import Derived.Deep.DeepHandedRow
import Derived.Deep.Fields
import Derived.Lib.SmallJoins
namespace Go.Proofs.YtgfhknnklapldaaGreatDoor
open Go.Proofs.Tryz
open Go.ChangeShapes Go.WideShapes Go.ChangeAt Go.WideMaps Go.WideElems Go.RowKit Go.Lib Go.Deep Go.Joins
def laid7:List (String×DataW Unit):=Rows.dumpTableRow.laid
theorem gPow7:prog.globalNamed "internal/strconv.uint64pow10" =some 1 :=by kernel_rfl
theorem tPow7:∃t,(prog.globals[1]?).map (·.type)=some t∧prog.underlying t=some (.array 20 178)∧prog.cellsOf t=20:=⟨264,by kernel_rfl,by kernel_rfl,by kernel_rfl⟩
theorem cU647:prog.cellsOf 178 =1:=by kernel_rfl
theorem dPow7:(Rows.laid_internal_strconv_uint64pow10:DataW Unit)=Lib.tabData .u64 Lib.pow10Tab:=rfl
theorem gSyn:prog.globalNamed "strconv.ErrSyntax" =some 4 :=by kernel_rfl
theorem gRng:prog.globalNamed "strconv.ErrRange" =some 5 :=by kernel_rfl
theorem tSyn:∃t ms,(prog.globals[4]?).map (·.type)=some t∧prog.underlying t=some (.interface ms):=⟨147,_,by kernel_rfl,underlying147⟩
theorem tRng:∃t ms,(prog.globals[5]?).map (·.type)=some t∧prog.underlying t=some (.interface ms):=⟨147,_,by kernel_rfl,underlying147⟩
theorem iface_var {W:World} {s name:String} {g g0:Nat} {t0:TypeId} {cs:Array Value} {f:Nat} {d:DataW Unit} {p:List MemPlace} (hg:prog.globalNamed s=some g) (ht:(prog.globals[g]?).map (·.type)=some t0)
  (hg0:prog.globalNamed s=some g0) (h0:∃t ms,(prog.globals[g0]?).map (·.type)=some t∧prog.underlying t=some (.interface ms))
  (hv:W.var? prog s=some cs) (hd:DataW.trod (fun _=>()) prog W 0 (fun _=>true) false f t0 cs.toList=some (.iface name d,p)):∃tp q,W.var? prog s=some #[.iface tp q]:=by
 obtain rfl:=Option.some.inj (hg0.symm.trans hg)
 obtain ⟨t,ms,e1,e2⟩:=h0
 obtain rfl:=Option.some.inj (e1.symm.trans ht)
 obtain ⟨u,v,hcs⟩:∃u v,cs.toList=[.iface u v]:=by
  have h:=iface_of_trod e2 hd
  obtain ⟨_,u,v,h1,_⟩:=h
  exact ⟨u,v,h1⟩
 have e:cs=#[.iface u v]:=Array.toList_inj.1 hcs
 exact ⟨u,v,by rw [hv,e]⟩
theorem env_of {W:World} (h:laidMetH prog laid7 W) (hsh:W.ShapedOpen prog):EnvD W:=by
 rw [MakeChecks.laidMetH_plain _ _ _ (by kernel_rfl)] at h
 obtain ⟨ps,⟨g0,t0,cs0,f0,p0,q0,hg0,ht0,hv0,hd0,⟨g1,t1,cs1,f1,p1,q1,hg1,ht1,hv1,hd1,⟨g2,t2,cs2,f2,p2,q2,hg2,ht2,hv2,hd2,⟨g3,t3,cs3,f3,p3,q3,hg3,ht3,hv3,hd3,⟨g4,t4,cs4,f4,p4,q4,hg4,ht4,hv4,hd4,⟨g5,t5,cs5,f5,p5,q5,hg5,ht5,hv5,hd5,_,_⟩,_⟩,_⟩,_⟩,_⟩,_⟩,_,_⟩:=h
 refine ⟨?_,⟨_,laysM145.s1_3 W hsh |>.choose_spec⟩,?_,?_⟩
 ·obtain ⟨t,e1,e2,e3⟩:=tPow7
  obtain rfl:=Option.some.inj (gPow7.symm.trans hg2)
  obtain rfl:=Option.some.inj (e1.symm.trans ht2)
  unfold Lib.TabIs
  rw [dPow7] at hd2
  rw [hv2,←Lib.cells_of_tab e2 underlying178 cU647 e3 hd2]
 ·exact iface_var hg5 ht5 gSyn tSyn hv5 hd5
 ·exact iface_var hg4 ht4 gRng tRng hv4 hd4
theorem door_met (os:Os) (args:Array Value):laidMetH prog laid7 ((World.laidAll prog os laid7).forCall (fun _ _=>0) ⟨#[],args,[]⟩).memory:=by
 rw [MakeChecks.laidMetH_plain _ _ _ (by kernel_rfl)]
 exact laidMet_laidAll _ (by kernel_rfl) (by kernel_rfl)
end Go.Proofs.YtgfhknnklapldaaGreatDoor
