/-
 DumpTorn returns true for every state that holds at most 1048576 values and letters, and every place of a cut, and changes nothing that was there. The package-level variables that the library's own code reads start as the program's text lays them (the tied card).
-/
import Derived.Test.YtgfhknnklapldaaGreatDoorQDuS
import Derived.Test.YtgfhknnklapldaaGreatDoorQPcZ
import Derived.Test.YtgfhknnklapldaaGreatDoorQArg1
import Derived.Test.YtgfhknnklapldaaGreatDoorCards
import Derived.Test.YtgfhknnklapldaaGreatDoorTie
import Derived.SevenTiedAt
namespace Go.Proofs.YtgfhknnklapldaaGreatDoor
open Go.Proofs.Tryz
set_option maxRecDepth 99999
set_option maxHeartbeats 0
open Go.ChangeShapes Go.WideShapes Go.ChangeAt Go.WideMaps Go.WideElems Go.RowKit Go.Lib Go.Deep Go.Joins
theorem u16_bd5 {n:Int} (h:(Lit.int .u16 n).wf=true):0≤n∧n≤65535:=by
 simpa [Lit.wf,IntKind.min,IntKind.max,IntKind.signed,IntKind.bits] using h
theorem dTorn_witness (os:Os) {H:Type} (enc:TypeId×Value→H):
  (Rows.OpenSpec.upto Rows.dumpTornSpec).preRow enc prog f7 Rows.dumpTornUptoRow.domain false Rows.dumpTornUptoRow.laid ((World.laidAll prog os laid7).forCall (fun _ _=>0) ⟨#[],#[.agg cZ0,.int .u16 0],[]⟩).memory #[.agg cZ0,.int .u16 0]:=by
 have hw:(DataW.whole enc prog ((World.laidAll prog os laid7).forCall (fun _ _=>0) ⟨#[],#[.agg cZ0,.int .u16 0],[]⟩).memory f7.params.toList (Rows.OpenSpec.upto Rows.dumpTornSpec).vars false (#[.agg cZ0,.int .u16 0]:Array Value).toList 8).map (fun x=>(x.1,x.2.1))=
   some ([.agg [.lit (.int .i64 0),.lit (.int .i64 0),.lit (.int .i64 0),.lit (.int .i64 0),.nil,.nil,.nil,.nil,.nil,.nil],.lit (.int .u16 0)],[]):=by kernel_rfl
 obtain ⟨⟨x1,x2,x3⟩,hx,hx1⟩:=Option.map_eq_some_iff.1 hw
 simp only [Prod.mk.injEq] at hx1
 obtain ⟨rfl,rfl⟩:=hx1
 exact OpenSpec.preRow_of_cond 8 hx (by kernel_rfl) (fun k hk=>by cases hk;kernel_rfl) (by kernel_rfl) (door_met os _)
theorem dTorn_lifted (os:Os) (started:os.Started) (H:Type) (enc:TypeId×Value→H) (F:Stop.Interp):
  ReturnsInHanded {} checked os 7 .any ((Rows.OpenSpec.upto Rows.dumpTornSpec).preRow enc prog f7 Rows.dumpTornUptoRow.domain false Rows.dumpTornUptoRow.laid) (((Rows.OpenSpec.upto Rows.dumpTornSpec).at F).post enc prog f7 false true false false):=by
 refine returnsInHanded_of_row (C:=checked) (s:=(Rows.OpenSpec.upto Rows.dumpTornSpec)) own_knob started (by kernel_rfl) func7
  (witness_row_at (enc:=enc) (C:=checked) false (World.laidAll prog os laid7) #[.agg cZ0,.int .u16 0] (World.laidAll_os _ _ _) (by kernel_rfl) (by kernel_rfl) (by kernel_rfl) (dTorn_witness os enc)) ?_
 intro W base args ds gs before hval hW _ hk _ hL hsh _
 have he:EnvD W:=env_of hL hsh
 have hW':=hW
 obtain ⟨p,q,hA0,hV,rfl,hfz,hnd⟩:=hW
 have hA:DataW.TrodAll enc prog W 0 (fun _=>true) true f7.params.toList args.toList ds p:=hA0
 have hval':∀(j:Nat) t v,f7.params[j]? =some t→args[j]? =some v→Value.okWide prog W .any base t v:=hval
 rw [params7] at hA hval'
 obtain ⟨v0,vs0,d0,ds0,pp0,qq0,hargs,rfl,rfl,h0,r0⟩:=trodAll_cons hA
 obtain ⟨v1,vs1,d1,ds1,pp1,qq1,rfl,rfl,rfl,h1,r1⟩:=trodAll_cons r0
 obtain ⟨rfl,rfl,rfl⟩:=trodAll_nil r1
 obtain rfl:args=#[v0,v1]:=by cases args;simp_all
 obtain ⟨l0,rfl,hi0,hm0⟩:=open_state (hval' 0 29 v0 rfl rfl) h0 (bulk_arg (hk _ rfl) (by simp))
 obtain ⟨l1,rfl,rfl,rfl,hl1⟩:=open_int underlying46 (hval' 1 46 v1 rfl rfl) h1
 refine (lawTorn_any l0 l1 W he hi0 hm0 (u16_bd5 hl1)).mono fun e W' ⟨he,hb⟩=>?_
 subst he
 exact ⟨_,rfl,law_post (s:=Rows.dumpTornSpec) laid_out (tb:=4) (by kernel_rfl) rfl (by kernel_rfl) underlying4 hW' rfl hb⟩
theorem dTorn_row:Rows.DumpTornUptoSaid:=
 OpenClaim.holds_of_cond 7 f7 rfl rfl rfl rfl rfl rfl rfl ⟨rfl,rfl,rfl,rfl,rfl⟩ rfl rfl rfl rfl rfl (by kernel_rfl) func7 (by kernel_rfl)
  (of_decide_eq_true (by kernel_rfl)) (by unfold Func.isWrapper;first|(rw [if_pos (by decide +kernel)];kernel_rfl)|(rw [if_neg (by decide +kernel)];exact ⟨rfl,rfl⟩))
  (fun os started H enc _ F0=>by rw [OpenClaim.pre_eq_preRow];exact dTorn_lifted os started H enc F0)
theorem dTorn_card:Rows.DumpTornUptoCardSaid:=
 Claim7.holds_tied_plain_at .later [] _ _ _ _
  dTorn_row (fun _ h=>by cases h) (by kernel_rfl) (fun _ h=>by cases h) dumpTornUpto_row_tie rfl ⟨rfl,rfl⟩ (by kernel_rfl) rfl
  (fun f fn hf hfn=>by
   obtain rfl:f=7 :=Option.some.inj ((show prog.funcNamed Rows.dumpTornUptoRow.func=some 7 by kernel_rfl).symm.trans hf) |>.symm
   obtain rfl:fn=f7 :=(Option.some.inj (func7.symm.trans hfn)).symm
   exact ⟨by kernel_rfl,fun j t ht=>by
    rw [params7] at ht
    have hm:t∈f7.params.toList:=by rw [params7];simpa using Array.mem_of_getElem? ht
    have hall:(f7.params.toList.all fun u=> !prog.wantsStandIn u)=true:=by kernel_rfl
    exact (show prog.wantsStandIn t=false by simpa using List.all_eq_true.1 hall t hm)⟩)
  (by kernel_rfl)
#print axioms dTorn_card
end Go.Proofs.YtgfhknnklapldaaGreatDoor
