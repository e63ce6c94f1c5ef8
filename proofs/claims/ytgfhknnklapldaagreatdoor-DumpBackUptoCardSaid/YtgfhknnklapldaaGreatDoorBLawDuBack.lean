/-
 LawDuBack
-/
import Derived.Test.YtgfhknnklapldaaGreatDoorRows
import Derived.Test.YtgfhknnklapldaaGreatDoorShelf
import Derived.Test.YtgfhknnklapldaaGreatDoorBDuD
import Derived.Test.YtgfhknnklapldaaGreatDoorBSm2
import Derived.LaidMore
import Derived.Lay
import Derived.Stop.Joined
import Derived.Deep.DeepHandedRow
import Derived.Deep.Fields
import Derived.Lib.SmallJoins
import Derived.Test.YtgfhknnklapldaaGreatDoorBPdY
import Derived.Test.YtgfhknnklapldaaGreatDoorBSm3
import Derived.Test.YtgfhknnklapldaaGreatDoorBArg1
import Derived.Test.YtgfhknnklapldaaGreatDoorCards
import Derived.Test.YtgfhknnklapldaaGreatDoorTie
import Derived.SevenTiedAt
namespace Go.Proofs.YtgfhknnklapldaaGreatDoor
open Go.Proofs.Tryz
open Go.ChangeShapes Go.WideShapes Go.ChangeAt Go.WideMaps Go.WideElems Go.RowKit Go.Lib Go.Deep Go.Joins
def laid7:List (String×DataW Unit):=Rows.dumpTableRow.laid
theorem gPow7:prog.globalNamed "internal/strconv.uint64pow10" =some 1 :=by kernel_rfl
theorem tPow7:∃t,(prog.globals[1]?).map (·.type)=some t∧prog.underlying t=some (.array 20 178)∧prog.cellsOf t=20:=⟨264,by kernel_rfl,by kernel_rfl,by kernel_rfl⟩
theorem cU647:prog.cellsOf 178 =1:=by kernel_rfl
theorem dPow7:(Rows.laid_internal_strconv_uint64pow10:DataW Unit)=Lib.tabData .u64 Lib.pow10Tab:=rfl
theorem gSyn:prog.globalNamed "strconv.ErrSyntax" =some 4 :=by kernel_rfl
theorem gRng:prog.globalNamed "strconv.ErrRange" =some 5 :=by kernel_rfl
theorem tSyn:∃t ms,(prog.globals[4]?).map (·.type)=some t∧prog.underlying t=some (.interface ms):=⟨147,_,by kernel_rfl,underlying147⟩
theorem tRng:∃t ms,(prog.globals[5]?).map (·.type)=some t∧prog.underlying t=some (.interface ms):=⟨147,_,by kernel_rfl,underlying147⟩
theorem iface_var {W:World} {s name:String} {g g0:Nat} {t0:TypeId} {cs:Array Value} {f:Nat} {d:DataW Unit} {p:List MemPlace} (hg:prog.globalNamed s=some g) (ht:(prog.globals[g]?).map (·.type)=some t0)
  (hg0:prog.globalNamed s=some g0) (h0:∃t ms,(prog.globals[g0]?).map (·.type)=some t∧prog.underlying t=some (.interface ms))
  (hv:W.var? prog s=some cs) (hd:DataW.trod (fun _=>()) prog W 0 (fun _=>true) false f t0 cs.toList=some (.iface name d,p)):∃tp q,W.var? prog s=some #[.iface tp q]:=by
 obtain rfl:=Option.some.inj (hg0.symm.trans hg)
 obtain ⟨t,ms,e1,e2⟩:=h0
 obtain rfl:=Option.some.inj (e1.symm.trans ht)
 obtain ⟨u,v,hcs⟩:∃u v,cs.toList=[.iface u v]:=by
  have h:=iface_of_trod e2 hd
  obtain ⟨_,u,v,h1,_⟩:=h
  exact ⟨u,v,h1⟩
 have e:cs=#[.iface u v]:=Array.toList_inj.1 hcs
 exact ⟨u,v,by rw [hv,e]⟩
theorem env_of {W:World} (h:laidMetH prog laid7 W) (hsh:W.ShapedOpen prog):EnvD W:=by
 rw [MakeChecks.laidMetH_plain _ _ _ (by kernel_rfl)] at h
 obtain ⟨ps,⟨g0,t0,cs0,f0,p0,q0,hg0,ht0,hv0,hd0,⟨g1,t1,cs1,f1,p1,q1,hg1,ht1,hv1,hd1,⟨g2,t2,cs2,f2,p2,q2,hg2,ht2,hv2,hd2,⟨g3,t3,cs3,f3,p3,q3,hg3,ht3,hv3,hd3,⟨g4,t4,cs4,f4,p4,q4,hg4,ht4,hv4,hd4,⟨g5,t5,cs5,f5,p5,q5,hg5,ht5,hv5,hd5,_,_⟩,_⟩,_⟩,_⟩,_⟩,_⟩,_,_⟩:=h
 refine ⟨?_,⟨_,laysM145.s1_3 W hsh |>.choose_spec⟩,?_,?_⟩
 ·obtain ⟨t,e1,e2,e3⟩:=tPow7
  obtain rfl:=Option.some.inj (gPow7.symm.trans hg2)
  obtain rfl:=Option.some.inj (e1.symm.trans ht2)
  unfold Lib.TabIs
  rw [dPow7] at hd2
  rw [hv2,←Lib.cells_of_tab e2 underlying178 cU647 e3 hd2]
 ·exact iface_var hg5 ht5 gSyn tSyn hv5 hd5
 ·exact iface_var hg4 ht4 gRng tRng hv4 hd4
theorem door_met (os:Os) (args:Array Value):laidMetH prog laid7 ((World.laidAll prog os laid7).forCall (fun _ _=>0) ⟨#[],args,[]⟩).memory:=by
 rw [MakeChecks.laidMetH_plain _ _ _ (by kernel_rfl)]
 exact laidMet_laidAll _ (by kernel_rfl) (by kernel_rfl)
end Go.Proofs.YtgfhknnklapldaaGreatDoor
namespace Go.Proofs.YtgfhknnklapldaaGreatDoor
open Go.Proofs.Tryz
open Go.RowKit Go.Lib Go.IntWalk Go.Sort Go.Shelf
theorem lawBack_any (c:RSt) (l:List UInt8) (w:World) (he:EnvD w) (hc:c.is w (ltw w)) (hl:c.lim w) (hll:l.length≤maxLen):
  Calls prog 6 #[.agg c.enc.toArray,.string (strB l)] w fun e w'=>e=.returned (.bool true)∧Bl w w':=
 lawBack_of (fun x y W hxy hx hy kx ky=>likeState_any x y hxy W hx hy kx ky) c l w he hc hl hll
end Go.Proofs.YtgfhknnklapldaaGreatDoor
namespace Go.Proofs.YtgfhknnklapldaaGreatDoor
open Go.Proofs.Tryz
set_option maxRecDepth 99999
set_option maxHeartbeats 0
open Go.ChangeShapes Go.WideShapes Go.ChangeAt Go.WideMaps Go.WideElems Go.RowKit Go.Lib Go.Deep Go.Joins
theorem dBack_witness (os:Os) {H:Type} (enc:TypeId×Value→H):
  (Rows.OpenSpec.upto Rows.dumpBackSpec).preRow enc prog f6 Rows.dumpBackUptoRow.domain false Rows.dumpBackUptoRow.laid ((World.laidAll prog os laid7).forCall (fun _ _=>0) ⟨#[],#[.agg cZ0,.string ⟨#[]⟩],[]⟩).memory #[.agg cZ0,.string ⟨#[]⟩]:=by
 have hw:(DataW.whole enc prog ((World.laidAll prog os laid7).forCall (fun _ _=>0) ⟨#[],#[.agg cZ0,.string ⟨#[]⟩],[]⟩).memory f6.params.toList (Rows.OpenSpec.upto Rows.dumpBackSpec).vars false (#[.agg cZ0,.string ⟨#[]⟩]:Array Value).toList 8).map (fun x=>(x.1,x.2.1))=
   some ([.agg [.lit (.int .i64 0),.lit (.int .i64 0),.lit (.int .i64 0),.lit (.int .i64 0),.nil,.nil,.nil,.nil,.nil,.nil],.lit (.string [])],[]):=by kernel_rfl
 obtain ⟨⟨x1,x2,x3⟩,hx,hx1⟩:=Option.map_eq_some_iff.1 hw
 simp only [Prod.mk.injEq] at hx1
 obtain ⟨rfl,rfl⟩:=hx1
 exact OpenSpec.preRow_of_cond 8 hx (by kernel_rfl) (fun k hk=>by cases hk;kernel_rfl) (by kernel_rfl) (door_met os _)
theorem dBack_lifted (os:Os) (started:os.Started) (H:Type) (enc:TypeId×Value→H) (F:Stop.Interp):
  ReturnsInHanded {} checked os 6 .any ((Rows.OpenSpec.upto Rows.dumpBackSpec).preRow enc prog f6 Rows.dumpBackUptoRow.domain false Rows.dumpBackUptoRow.laid) (((Rows.OpenSpec.upto Rows.dumpBackSpec).at F).post enc prog f6 false true false false):=by
 refine returnsInHanded_of_row (C:=checked) (s:=(Rows.OpenSpec.upto Rows.dumpBackSpec)) own_knob started (by kernel_rfl) func6
  (witness_row_at (enc:=enc) (C:=checked) false (World.laidAll prog os laid7) #[.agg cZ0,.string ⟨#[]⟩] (World.laidAll_os _ _ _) (by kernel_rfl) (by kernel_rfl) (by kernel_rfl) (dBack_witness os enc)) ?_
 intro W base args ds gs before hval hW _ hk _ hL hsh _
 have he:EnvD W:=env_of hL hsh
 have hW':=hW
 obtain ⟨p,q,hA0,hV,rfl,hfz,hnd⟩:=hW
 have hA:DataW.TrodAll enc prog W 0 (fun _=>true) true f6.params.toList args.toList ds p:=hA0
 have hval':∀(j:Nat) t v,f6.params[j]? =some t→args[j]? =some v→Value.okWide prog W .any base t v:=hval
 rw [params6] at hA hval'
 obtain ⟨v0,vs0,d0,ds0,pp0,qq0,hargs,rfl,rfl,h0,r0⟩:=trodAll_cons hA
 obtain ⟨v1,vs1,d1,ds1,pp1,qq1,rfl,rfl,rfl,h1,r1⟩:=trodAll_cons r0
 obtain ⟨rfl,rfl,rfl⟩:=trodAll_nil r1
 obtain rfl:args=#[v0,v1]:=by cases args;simp_all
 obtain ⟨l0,rfl,hi0,hm0⟩:=open_state (hval' 0 29 v0 rfl rfl) h0 (bulk_arg (hk _ rfl) (by simp))
 obtain ⟨l1,rfl,hl1⟩:=open_str (hval' 1 9 v1 rfl rfl) h1
 refine (lawBack_any l0 l1 W he hi0 hm0 hl1).mono fun e W' ⟨he,hb⟩=>?_
 subst he
 exact ⟨_,rfl,law_post (s:=Rows.dumpBackSpec) laid_out (tb:=4) (by kernel_rfl) rfl (by kernel_rfl) underlying4 hW' rfl hb⟩
theorem dBack_row:Rows.DumpBackUptoSaid:=
 OpenClaim.holds_of_cond 6 f6 rfl rfl rfl rfl rfl rfl rfl ⟨rfl,rfl,rfl,rfl,rfl⟩ rfl rfl rfl rfl rfl (by kernel_rfl) func6 (by kernel_rfl)
  (of_decide_eq_true (by kernel_rfl)) (by unfold Func.isWrapper;first|(rw [if_pos (by decide +kernel)];kernel_rfl)|(rw [if_neg (by decide +kernel)];exact ⟨rfl,rfl⟩))
  (fun os started H enc _ F0=>by rw [OpenClaim.pre_eq_preRow];exact dBack_lifted os started H enc F0)
theorem dBack_card:Rows.DumpBackUptoCardSaid:=
 Claim7.holds_tied_plain_at .later [] _ _ _ _
  dBack_row (fun _ h=>by cases h) (by kernel_rfl) (fun _ h=>by cases h) dumpBackUpto_row_tie rfl ⟨rfl,rfl⟩ (by kernel_rfl) rfl
  (fun f fn hf hfn=>by
   obtain rfl:f=6 :=Option.some.inj ((show prog.funcNamed Rows.dumpBackUptoRow.func=some 6 by kernel_rfl).symm.trans hf) |>.symm
   obtain rfl:fn=f6 :=(Option.some.inj (func6.symm.trans hfn)).symm
   exact ⟨by kernel_rfl,fun j t ht=>by
    rw [params6] at ht
    have hm:t∈f6.params.toList:=by rw [params6];simpa using Array.mem_of_getElem? ht
    have hall:(f6.params.toList.all fun u=> !prog.wantsStandIn u)=true:=by kernel_rfl
    exact (show prog.wantsStandIn t=false by simpa using List.all_eq_true.1 hall t hm)⟩)
  (by kernel_rfl)
#print axioms dBack_card
end Go.Proofs.YtgfhknnklapldaaGreatDoor
