import Derived.Test.YtbfdegkickjbpaaGreatVSsD
import Derived.Test.YtbfdegkickjbpaaGreatVArg1
namespace Go.Proofs.YtbfdegkickjbpaaGreat
open Go.Proofs.Tryz
set_option maxRecDepth 99999
set_option maxHeartbeats 0
open Go.ChangeShapes Go.WideShapes Go.ChangeAt Go.RowKit Go.Lib Go.Deep
theorem recStates_lifted (os:Os) (started:os.Started) (H:Type) (enc:TypeId×Value→H) (F:Stop.Interp):
  ReturnsInHanded {} checked os 8 .any ((Rows.OpenSpec.upto Rows.recordStatesSpec).pre6 enc prog f8 Rows.recordStatesUptoRow.domain false) (((Rows.OpenSpec.upto Rows.recordStatesSpec).at F).post enc prog f8 false true false false):=by
 refine returnsInHanded_of_cond (C:=checked) (s:=Rows.OpenSpec.upto Rows.recordStatesSpec) (k:=Rows.uptoSmall) rfl own_knob started (by kernel_rfl) func8
  (OpenSpec.witness (enc:=enc) (C:=checked) (s:=Rows.OpenSpec.upto Rows.recordStatesSpec) (k:=Rows.uptoSmall) rfl false ⟨#[],#[.agg cZ0,.slice none 0 0],[]⟩ 8 (by kernel_rfl) (by kernel_rfl) (by kernel_rfl)
   (x:=([.agg [.lit (.int .i64 0),.lit (.int .i64 0),.lit (.int .i64 0),.lit (.int .i64 0),.nil,.nil,.nil,.nil,.nil,.nil],.nil],[],[])) (by kernel_rfl) rfl (by kernel_rfl)) ?_
 intro W base args ds gs before hval hW _ hk _
 have hW':=hW
 obtain ⟨p,q,hA0,hV,rfl,hfz,hnd⟩:=hW
 have hA:DataW.TrodAll enc prog W 0 (fun _=>true) true f8.params.toList args.toList ds p:=hA0
 have hval':∀(j:Nat) t v,f8.params[j]? =some t→args[j]? =some v→Value.okWide prog W .any base t v:=hval
 rw [params8] at hA hval'
 obtain ⟨v0,vs0,d0,ds0,pp0,qq0,hargs,rfl,rfl,h0,r0⟩:=trodAll_cons hA
 obtain ⟨v1,vs1,d1,ds1,pp1,qq1,rfl,rfl,rfl,h1,r1⟩:=trodAll_cons r0
 obtain ⟨rfl,rfl,rfl⟩:=trodAll_nil r1
 obtain rfl:args=#[v0,v1]:=by cases args;simp_all
 obtain ⟨l0,rfl,hi0,hm0⟩:=open_state (hval' 0 47 v0 rfl rfl) h0 (bulk_arg hk (by simp))
 obtain ⟨l1,hl1⟩:=open_bytes (hval' 1 34 v1 rfl rfl) h1
 refine (lawRStates_any l0 v1 l1 W hi0 hm0 hl1).mono fun e W' ⟨he,hb⟩=>?_
 subst he
 exact ⟨_,rfl,law_post laid_out (tb:=4) (by kernel_rfl) rfl (by kernel_rfl) underlying4 hW' rfl hb⟩
theorem recStates_closed:joinedFacts Tryz.pinned.checked.prog 8 f8 (Rows.OpenSpec.upto Rows.recordStatesSpec).bare Rows.recordStatesUptoRow=true:=by
 unfold joinedFacts
 repeat' (with_reducible refine Bool.and_eq_true_iff.2 ⟨?_,?_⟩)
 all_goals as_aux_lemma=>kernel_rfl
theorem recStates_holds:Rows.RecordStatesUptoSaid:=
 OpenClaim.holds_of_cond 8 f8 rfl rfl rfl rfl rfl rfl rfl ⟨rfl,rfl,rfl,rfl,rfl⟩ rfl rfl rfl rfl rfl (by kernel_rfl) func8 recStates_closed
  (of_decide_eq_true (by kernel_rfl)) (by unfold Func.isWrapper;first|(rw [if_pos (by decide +kernel)];kernel_rfl)|(rw [if_neg (by decide +kernel)];exact ⟨rfl,rfl⟩))
  (fun os started H enc _ F=>recStates_lifted os started H enc F)
#print axioms recStates_holds
end Go.Proofs.YtbfdegkickjbpaaGreat
