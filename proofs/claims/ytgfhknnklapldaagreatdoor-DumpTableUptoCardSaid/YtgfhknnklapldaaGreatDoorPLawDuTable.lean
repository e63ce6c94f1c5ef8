/-
 LawDuTable
-/
import Derived.Test.YtgfhknnklapldaaGreatDoorPDuS
import Derived.Test.YtgfhknnklapldaaGreatDoorPDuR
import Derived.Test.YtgfhknnklapldaaGreatDoorPArg1
import Derived.Test.YtgfhknnklapldaaGreatDoorCards
import Derived.Test.YtgfhknnklapldaaGreatDoorTie
import Derived.SevenTiedAt
namespace Go.Proofs.YtgfhknnklapldaaGreatDoor
open Go.Proofs.Tryz
set_option maxRecDepth 99999
set_option maxHeartbeats 0
open Go.ChangeShapes Go.WideShapes Go.ChangeAt Go.WideMaps Go.WideElems Go.RowKit Go.Lib Go.Deep Go.Joins
theorem open_tv {H:Type} {enc:TypeId×Value→H} {w:World} {b0:Nat} {r:Reach} {v:Value} {d:DataW H} {ps:List MemPlace} (hval:Value.okWide prog w r b0 37 v) (h:DataW.Trod enc prog w 0 (fun _=>true) true 37 v d ps) (hd:Rows.uptoBulk d≤1048576):
  ∃x:RTv,v=.agg x.enc.toArray∧x.is w (ltw w)∧x.table.size≤maxLen:=by
 obtain ⟨a,rfl,_⟩:=okWide_struct underlying37 hval
 obtain ⟨fuel,hf⟩:=h
 obtain ⟨c,⟨e,h1,h2⟩,_⟩:=opn_tv fuel _ _ hf hd
 refine ⟨c,?_,h1,h2⟩
 simp only [Value.cells] at e
 rw [←e,Array.toArray_toList]
theorem dTable_witness (os:Os) {H:Type} (enc:TypeId×Value→H):
  (Rows.OpenSpec.upto Rows.dumpTableSpec).preRow enc prog f4 Rows.dumpTableUptoRow.domain false Rows.dumpTableUptoRow.laid ((World.laidAll prog os laid7).forCall (fun _ _=>0) ⟨#[],#[.agg #[.string ⟨#[]⟩,.slice none 0 0]],[]⟩).memory #[.agg #[.string ⟨#[]⟩,.slice none 0 0]]:=by
 have hw:(DataW.whole enc prog ((World.laidAll prog os laid7).forCall (fun _ _=>0) ⟨#[],#[.agg #[.string ⟨#[]⟩,.slice none 0 0]],[]⟩).memory f4.params.toList (Rows.OpenSpec.upto Rows.dumpTableSpec).vars false (#[.agg #[.string ⟨#[]⟩,.slice none 0 0]]:Array Value).toList 8).map (fun x=>(x.1,x.2.1))=
   some ([.agg [.lit (.string []),.nil]],[]):=by kernel_rfl
 obtain ⟨⟨x1,x2,x3⟩,hx,hx1⟩:=Option.map_eq_some_iff.1 hw
 simp only [Prod.mk.injEq] at hx1
 obtain ⟨rfl,rfl⟩:=hx1
 exact OpenSpec.preRow_of_cond 8 hx (by kernel_rfl) (fun k hk=>by cases hk;kernel_rfl) (by kernel_rfl) (door_met os _)
theorem dTable_lifted (os:Os) (started:os.Started) (H:Type) (enc:TypeId×Value→H) (F:Stop.Interp):
  ReturnsInHanded {} checked os 4 .any ((Rows.OpenSpec.upto Rows.dumpTableSpec).preRow enc prog f4 Rows.dumpTableUptoRow.domain false Rows.dumpTableUptoRow.laid) (((Rows.OpenSpec.upto Rows.dumpTableSpec).at F).post enc prog f4 false true false false):=by
 refine returnsInHanded_of_row (C:=checked) (s:=(Rows.OpenSpec.upto Rows.dumpTableSpec)) own_knob started (by kernel_rfl) func4
  (witness_row_at (enc:=enc) (C:=checked) false (World.laidAll prog os laid7) #[.agg #[.string ⟨#[]⟩,.slice none 0 0]] (World.laidAll_os _ _ _) (by kernel_rfl) (by kernel_rfl) (by kernel_rfl) (dTable_witness os enc)) ?_
 intro W base args ds gs before hval hW _ hk _ hL hsh _
 have he:EnvD W:=env_of hL hsh
 have hW':=hW
 obtain ⟨p,q,hA0,hV,rfl,hfz,hnd⟩:=hW
 have hA:DataW.TrodAll enc prog W 0 (fun _=>true) true f4.params.toList args.toList ds p:=hA0
 have hval':∀(j:Nat) t v,f4.params[j]? =some t→args[j]? =some v→Value.okWide prog W .any base t v:=hval
 rw [params4] at hA hval'
 obtain ⟨v0,vs0,d0,ds0,p0,q0,hargs,rfl,rfl,h0,r0⟩:=trodAll_cons hA
 obtain ⟨rfl,rfl,rfl⟩:=trodAll_nil r0
 obtain rfl:args=#[v0]:=by cases args;simp_all
 obtain ⟨x,rfl,hx1,hx2⟩:=open_tv (hval' 0 37 v0 rfl rfl) h0 (bulk_arg (hk _ rfl) (by simp))
 refine (lawTable_any x W he hx1 hx2).mono fun e W' ⟨he,hb⟩=>?_
 subst he
 exact ⟨_,rfl,law_post (s:=Rows.dumpTableSpec) laid_out (tb:=4) (by kernel_rfl) rfl (by kernel_rfl) underlying4 hW' rfl hb⟩
theorem dTable_row:Rows.DumpTableUptoSaid:=
 OpenClaim.holds_of_cond 4 f4 rfl rfl rfl rfl rfl rfl rfl ⟨rfl,rfl,rfl,rfl,rfl⟩ rfl rfl rfl rfl rfl (by kernel_rfl) func4 (by kernel_rfl)
  (of_decide_eq_true (by kernel_rfl)) (by unfold Func.isWrapper;first|(rw [if_pos (by decide +kernel)];kernel_rfl)|(rw [if_neg (by decide +kernel)];exact ⟨rfl,rfl⟩))
  (fun os started H enc _ F0=>by rw [OpenClaim.pre_eq_preRow];exact dTable_lifted os started H enc F0)
theorem dTable_card:Rows.DumpTableUptoCardSaid:=
 Claim7.holds_tied_plain_at .later [] _ _ _ _
  dTable_row (fun _ h=>by cases h) (by kernel_rfl) (fun _ h=>by cases h) dumpTableUpto_row_tie rfl ⟨rfl,rfl⟩ (by kernel_rfl) rfl
  (fun f fn hf hfn=>by
   obtain rfl:f=4 :=Option.some.inj ((show prog.funcNamed Rows.dumpTableUptoRow.func=some 4 by kernel_rfl).symm.trans hf) |>.symm
   obtain rfl:fn=f4 :=(Option.some.inj (func4.symm.trans hfn)).symm
   exact ⟨by kernel_rfl,fun j t ht=>by
    rw [params4] at ht
    have hm:t∈f4.params.toList:=by rw [params4];simpa using Array.mem_of_getElem? ht
    have hall:(f4.params.toList.all fun u=> !prog.wantsStandIn u)=true:=by kernel_rfl
    exact (show prog.wantsStandIn t=false by simpa using List.all_eq_true.1 hall t hm)⟩)
  (by kernel_rfl)
#print axioms dTable_card
end Go.Proofs.YtgfhknnklapldaaGreatDoor
