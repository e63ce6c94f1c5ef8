/-
 Dc4
-/
import Derived.Test.YtbfdegkickjbpaaGreatVBase
import Derived.Laws.CopyRow
import Derived.Laws.Cells
import Derived.Test.YtbfdegkickjbpaaGreatVDc3
namespace Go.Proofs.YtbfdegkickjbpaaGreat
open Go.Proofs.Tryz
set_option maxRecDepth 99999
set_option maxHeartbeats 0
theorem zq53 {P:Prop} (i:Nat) (h:Tg i→P:=by
 intro zT53
 first
  |guard_hyp zT53:Tg 1;refine runF 9 (some 3) (v:=.pointer (some ⟨v1.heap.size,0,none⟩)) (w':=v1.alloc (.cells #[.int .i64 0,.string ⟨#[]⟩,.string ⟨#[]⟩,.slice none 0 0,.slice none 0 0,.slice none 0 0,.slice none 0 0,.int .i64 0,.string ⟨#[]⟩,.string ⟨#[]⟩,.string ⟨#[]⟩,.int .i64 0,.bool false,.int .i64 0,.int .i64 0,.string ⟨#[]⟩] 83)) rfl rfl (by rfl) ?_ ?_
  |refine runF 9 (some 3) (v:=.pointer (some ⟨W.drew.heap.size,0,none⟩)) (w':=W.drew.alloc (.cells #[.int .i64 0,.string ⟨#[]⟩,.string ⟨#[]⟩,.slice none 0 0,.slice none 0 0,.slice none 0 0,.slice none 0 0,.int .i64 0,.string ⟨#[]⟩,.string ⟨#[]⟩,.string ⟨#[]⟩,.int .i64 0,.bool false,.int .i64 0,.int .i64 0,.string ⟨#[]⟩] 83)) rfl rfl (by rfl) ?_ ?_
 ·go_simp<;>with_reducible rfl
 first
  |guard_hyp zT53:Tg 1;obtain ⟨T,hTe⟩:=eN0 v1.heap.size
  |obtain ⟨T,hTe⟩:=eN0 W.drew.heap.size
 rw [←hTe]
 first
  |guard_hyp zT53:Tg 1;obtain ⟨X,hX⟩:=eN0 (v1.alloc (.cells #[.int .i64 0,.string ⟨#[]⟩,.string ⟨#[]⟩,.slice none 0 0,.slice none 0 0,.slice none 0 0,.slice none 0 0,.int .i64 0,.string ⟨#[]⟩,.string ⟨#[]⟩,.string ⟨#[]⟩,.int .i64 0,.bool false,.int .i64 0,.int .i64 0,.string ⟨#[]⟩] 83))
  |obtain ⟨X,hX⟩:=eN0 (W.drew.alloc (.cells #[.int .i64 0,.string ⟨#[]⟩,.string ⟨#[]⟩,.slice none 0 0,.slice none 0 0,.slice none 0 0,.slice none 0 0,.int .i64 0,.string ⟨#[]⟩,.string ⟨#[]⟩,.string ⟨#[]⟩,.int .i64 0,.bool false,.int .i64 0,.int .i64 0,.string ⟨#[]⟩] 83))
 rw [←hX]
 have hbX:=bN0 hX
 first
  |guard_hyp zT53:Tg 1;have hSX:SrcAt X R v s1:=hS1.below hbX
   have hCX:Chg (·=R) W X:=hC1.trans (Chg.of_below hbX _) (fun _ _ h=>h)
  |have hSX:SrcAt X R v s:=hS0.below hbX
   have hCX:Chg (·=R) W X:=hC0.trans (Chg.of_below hbX _) (fun _ _ h=>h)
 have hTX:X.heap[T]? =some (.cells #[.int .i64 0,.string ⟨#[]⟩,.string ⟨#[]⟩,.slice none 0 0,.slice none 0 0,.slice none 0 0,.slice none 0 0,.int .i64 0,.string ⟨#[]⟩,.string ⟨#[]⟩,.string ⟨#[]⟩,.int .i64 0,.bool false,.int .i64 0,.int .i64 0,.string ⟨#[]⟩] 83 (0,0)):=by rw [hX,hTe];exact heap_alloc_new _ _
 have hTlX:T<X.heap.size:=by rw [hX,hTe];simp
 first
  |guard_hyp zT53:Tg 1;have hTW:W.heap.size≤T:=by rw [hTe];exact hC1.size
  |have hTW:W.heap.size≤T:=by rw [hTe];exact hC0.size
 clear hX hTe hbX
 refine rA0 trivial ?_
 clear zh
 intro zh
 simp only [aP]
 first
  |done
  |guard_hyp zT53:Tg 1
  |refine fork1 3 (by kernel_rfl) ?_
   refine fC 3 7 ?_
   (with_reducible refine (K1 _ hSX hCX).mono ?_)
   rintro _ v1 ⟨rfl,hS1,hD1⟩
   have hC1:Chg (·=R) W v1:=hCX.trans hD1 (fun _ _ h=>h)
   have hT1:=(hD1.block T hTlX (by show T≠R;omega)).trans hTX
   have hTl1:T<v1.heap.size:=by have:=hD1.size;omega
   refine ⟨_,rfl,rA0 trivial ?_⟩
   clear zh
   intro zh
   simp only [aP]
 refine fork1 7 (by kernel_rfl) ?_
 refine fC 7 11 ?_
 first
  |guard_hyp zT53:Tg 1;(with_reducible refine (K2 _ hSX hCX).mono ?_)
  |(with_reducible refine (K2 _ hS1 hC1).mono ?_)
 rintro _ v2 ⟨rfl,hS2,hD2⟩
 first
  |guard_hyp zT53:Tg 1;have hC2:Chg (·=R) W v2:=hCX.trans hD2 (fun _ _ h=>h)
   have hT2:=(hD2.block T hTlX (by show T≠R;omega)).trans hTX
  |have hC2:Chg (·=R) W v2:=hC1.trans hD2 (fun _ _ h=>h)
   have hT2:=(hD2.block T hTl1 (by show T≠R;omega)).trans hT1
 have hTl2:T<v2.heap.size:=by have:=hD2.size;omega
 refine ⟨_,rfl,rA0 trivial ?_⟩
 clear zh
 intro zh
 simp only [aP]
 refine tT 8 12 ?_
 exact tl T v2 hTW hTl2 hT2 hS2 hC2) : P := h ⟨⟩
theorem zi15 {P:Prop} (h:P:=by simp [results,results62,go_sem,p0,p1,p2,p3,p4,p5,p6,p7,p8,p9,p10,p11,p12,p13,p14,p15]):P:=h
section
open Go.RowKit Go.Lib
section
variable {P:Program} {t e:TypeId} {T H:Nat} {cs cur vs:Array Value} {fr:Nat×Nat} {w:World}
theorem run_loadRow (hz:∀w,(Go.sizeOf t).run P w=.ok cs.size w) (ha:∀w,(isAgg t).run P w=.ok true w) (h:w.heap[T]? =some (.cells cs e fr)):(Instr.loadAt t (.pointer (some ⟨T,0,none⟩))).run P w=.ok (.agg cs) w:=by
 have hc:(loadCells ⟨T,0,none⟩ cs.toList.length).run P w=.ok cs.toList.toArray w:=run_loadCells_list (P:=P) w ⟨T,0,none⟩ cs.toList (fun j v hj=>by
  have hadd:(⟨T,0,none⟩:Addr).add j=⟨T,j,none⟩:=by unfold Addr.add;split<;>simp_all
  rw [hadd,cW0 w T j cs e fr h];simpa using hj)
 rw [Array.length_toList,Array.toArray_toList] at hc
 simp [Instr.loadAt,loadVar,Instr.sureAddr,ha,hz,hc]
theorem run_storeRow (hz:∀w,(Go.sizeOf t).run P w=.ok vs.size w) (hs:cur.size=vs.size) (h1:vs.toList.all Value.oneCell'=true) (h:w.heap[H]? =some (.cells cur e (0,0))):(Instr.storeAt t (.pointer (some ⟨H,0,none⟩)) (.agg vs)).run P w=.ok () (w.setRow H vs):=by
 have hc:=run_storeCells_at (P:=P) H 0 e vs.toList 0 cur w h (by simp [hs]) (List.all_eq_true.1 h1)
 simp only [Nat.zero_add,List.take_zero,List.nil_append,Array.length_toList] at hc
 rw [List.drop_eq_nil_of_le (by simp [hs]),List.append_nil,Array.toArray_toList] at hc
 simp [Instr.storeAt,storeVar,Instr.sureAddr,hz,Value.cells,hc]
theorem chg_setRow (w:World) (H:Nat) (vs:Array Value):Chg (·=H) w (w.setRow H vs):=
 ⟨rfl,rfl,rfl,by simp [World.setRow],fun b _ hb=>by simp only [World.setRow,Array.getElem?_modify];rw [if_neg (fun e=>hb e.symm)]⟩
variable {ops:Array Oper} {rest:List Oper} {o:Oper} {a:Act} {Q:Exit→Act→World→Prop}
theorem wpList_loadRow (p:Operand) (hgd:o.guard=none) (hop:o.op=.load t p) (hp:a.eval p=.pointer (some ⟨T,0,none⟩)) (hz:∀w,(Go.sizeOf t).run P w=.ok cs.size w) (ha:∀w,(isAgg t).run P w=.ok true w) (h:w.heap[T]? =some (.cells cs e fr))
  (hK:wpList P ops Q rest (a.put o.dst (.agg cs)) w):wpList P ops Q (o::rest) a w:=
 wpList_plain hgd fun K' hK'=>by
  unfold Oper.wp execOp
  simp only [hop,hp,Sem.run_bind,run_loadRow hz ha h,Result.andThen_ok,Sem.run_pure]
  exact hK' _ _ hK
theorem wpList_storeRow (p x:Operand) (hgd:o.guard=none) (hop:o.op=.store t p x) (hp:a.eval p=.pointer (some ⟨H,0,none⟩)) (hx:a.eval x=.agg vs) (hz:∀w,(Go.sizeOf t).run P w=.ok vs.size w) (hs:cur.size=vs.size) (h1:vs.toList.all Value.oneCell'=true) (h:w.heap[H]? =some (.cells cur e (0,0)))
  (hK:∀w',w'.heap[H]? =some (.cells vs e (0,0))→Chg (·=H) w w'→wpList P ops Q rest (a.put o.dst undef) w'):wpList P ops Q (o::rest) a w:=
 wpList_plain hgd fun K' hK'=>by
  unfold Oper.wp execOp
  simp only [hop,hp,hx,Sem.run_bind,run_storeRow hz hs h1 h,Result.andThen_ok,Sem.run_pure]
  exact hK' _ _ (hK _ (setRow_heap w H cur vs e _ h) (chg_setRow w H vs))
theorem exec_loadRow {ρ:Operand→Value} (p:Operand) (hop:o.op=.load t p) (hp:ρ p=.pointer (some ⟨T,0,none⟩)) (hz:∀w,(Go.sizeOf t).run P w=.ok cs.size w) (ha:∀w,(isAgg t).run P w=.ok true w) (h:w.heap[T]? =some (.cells cs e fr)):
  (execOp ρ o).run P w=.ok (.value (.agg cs)) w:=by
 unfold execOp
 simp only [hop,hp,Sem.run_bind,run_loadRow hz ha h,Result.andThen_ok,Sem.run_pure]
theorem exec_storeRow {ρ:Operand→Value} (p x:Operand) (hop:o.op=.store t p x) (hp:ρ p=.pointer (some ⟨H,0,none⟩)) (hx:ρ x=.agg vs) (hz:∀w,(Go.sizeOf t).run P w=.ok vs.size w) (hs:cur.size=vs.size) (h1:vs.toList.all Value.oneCell'=true) (h:w.heap[H]? =some (.cells cur e (0,0))):
  (execOp ρ o).run P w=.ok .skip (w.setRow H vs):=by
 unfold execOp
 simp only [hop,hp,hx,Sem.run_bind,run_storeRow hz hs h1 h,Result.andThen_ok,Sem.run_pure]
end
end
section
open Go.RowKit Go.Lib Go.IntWalk Go.Sort Go.Shelf
theorem sz_ent (w:World):(Go.sizeOf 83).run prog w=.ok 16 w:=by simp [go_sem]
theorem ag_ent (w:World):(isAgg 83).run prog w=.ok true w:=by simp [isAgg,go_sem]
theorem rdI_stop {l:List UInt8} {s:Int×Int} (h:s.2≠0):rdI l s=(0,s):=by unfold rdI rdS;rw [if_pos h]
theorem rdT_stop {l:List UInt8} {s:Int×Int} (h:s.2≠0):rdT l s=(⟨#[]⟩,s):=by unfold rdT rdS;rw [if_pos h]
theorem rdL_stop {α:Type} {l:List UInt8} {one:Int×Int→α×Int×Int} {s:Int×Int} (h:s.2≠0):rdL l one s=([],s):=by
 unfold rdL
 rw [rdI_stop h]
 simp only [h,false_and,if_false]
 rfl
theorem rdTab_stop {l:List UInt8} {s:Int×Int} (h:s.2≠0):rdTab l s=(RTab.none_,s):=by
 unfold rdTab
 simp only [rdT_stop h,rdL_stop (one:=rdCol l) h,rdL_stop (one:=rdI l) h,rdL_stop (one:=rdFor l) h,rdL_stop (one:=rdX l 24) h]
 rfl
def enIs (w:World) (F:Nat→Prop) (x:REn):Prop:=tabIs w F x.create∧goV x.change.def_
theorem isK_En:IsK enIs:=⟨fun h hk=>⟨isK_Tab.keep h.1 hk,h.2⟩,fun h hw=>⟨isK_Tab.wide h.1 hw,h.2⟩⟩
theorem tabIs_none (w:World) (F:Nat→Prop):tabIs w F RTab.none_:=⟨Rd.nil _ _ _,Rd.nil _ _ _,Rd.nil _ _ _,fun x hx=>(by cases hx),Rd.nil _ _ _,fun x hx=>(by cases hx)⟩
theorem goV_zero:goV zeroV:=by simp [goV,zeroV,maxLen,ByteArray.size]
theorem rdrEnt_any (R:Nat) (v:Value) (l:List UInt8) (s:Int×Int) (w:World) (h:SrcAt w R v s) (hv:RdB w (·<R) v l) (hl:l.length≤10000000000):
  Calls prog 62 #[.pointer (some ⟨R,0,none⟩)] w (OneE (fun x:REn=>.agg x.enc.toArray) enIs REn.er R v (rdEnt l s) w):=by
 rcases h1:rdI l s with ⟨n1,s1⟩
 rcases h2:rdT l s1 with ⟨n2,s2⟩
 rcases h3:rdI l s2 with ⟨n3,s3⟩
 obtain ⟨res,hres⟩:=eN0 (rdEnt l s)
 have hd0:n3=0→res=(⟨n1,n2,(rdTab l s3).1,⟨0,⟨#[]⟩,⟨#[]⟩,⟨#[]⟩,0,false,zeroV⟩⟩,(rdTab l s3).2):=fun h0=>by
  rw [hres];unfold rdEnt;simp only [h1,h2,h3,h0,if_true]
 have hd1:n3≠0→res=(⟨n1,n2,RTab.none_,(rdChn l n3 s3).1⟩,(rdChn l n3 s3).2):=fun h0=>by
  rw [hres];unfold rdEnt;simp only [h1,h2,h3,if_neg h0]
 have he3:s3.2≠0→n3=0:=fun he=>by
  have:=rdI_err (l:=l) (s:=s2) (by rw [h3];exact he)
  rw [h3] at this
  exact this
 rw [←hres]
 obtain ⟨W,hW⟩:=eN0 (w.alloc (.cells #[.int .i64 0,.string ⟨#[]⟩,.string ⟨#[]⟩,.slice none 0 0,.slice none 0 0,.slice none 0 0,.slice none 0 0,.int .i64 0,.string ⟨#[]⟩,.string ⟨#[]⟩,.string ⟨#[]⟩,.int .i64 0,.bool false,.int .i64 0,.int .i64 0,.string ⟨#[]⟩] 83))
 have hR:=h.lt
 have hbW:=bN0 hW
 have hWs:=sN0 hW
 have hQ:=hN0 hW
 have hS0:SrcAt W.drew R v s:=(h.below hbW).below (Below.refl _ _).drew
 have hC0:Chg (·=R) W W.drew:=(Chg.refl _ _).drew
 have hvW:∀V,Chg (·=R) W V→RdB V (·<R) v l:=fun V hV=>Rd.keep hv (fun b (hb:b<R)=>(hV.block b (by omega) (by omega)).trans (hbW.block b (by omega)))
 have K1:∀V,SrcAt V R v s→Chg (·=R) W V→Calls prog 60 #[.pointer (some ⟨R,0,none⟩)] V fun x w'=>x=.returned (.int .i64 n1)∧SrcAt w' R v s1∧Chg (·=R) V w':=fun V hs hV=>by
  have k:=srcInt_any R v l s V hs (hvW V hV)
  rw [h1] at k
  exact k
 have K2:∀V,SrcAt V R v s1→Chg (·=R) W V→Calls prog 122 #[.pointer (some ⟨R,0,none⟩)] V fun x w'=>x=.returned (.string n2)∧SrcAt w' R v s2∧Chg (·=R) V w':=fun V hs hV=>by
  have k:=srcText_any R v l s1 V hs (hvW V hV)
  rw [h2] at k
  exact k
 have K3:∀V,SrcAt V R v s2→Chg (·=R) W V→Calls prog 60 #[.pointer (some ⟨R,0,none⟩)] V fun x w'=>x=.returned (.int .i64 n3)∧SrcAt w' R v s3∧Chg (·=R) V w':=fun V hs hV=>by
  have k:=srcInt_any R v l s2 V hs (hvW V hV)
  rw [h3] at k
  exact k
 have KTab:∀V,SrcAt V R v s3→Chg (·=R) W V→Calls prog 162 #[.pointer (some ⟨R,0,none⟩)] V (OneE (fun t:RTab=>.agg t.enc.toArray) tabIs RTab.er R v (rdTab l s3) V):=fun V hs hV=>rdrTab_any R v l s3 V hs (hvW V hV) hl
 have KT:∀s V,SrcAt V R v s→Chg (·=R) W V→Calls prog 122 #[.pointer (some ⟨R,0,none⟩)] V fun x w'=>x=.returned (.string (rdT l s).1)∧SrcAt w' R v (rdT l s).2∧Chg (·=R) V w':=fun s V hs hV=>srcText_any R v l s V hs (hvW V hV)
 have KC:∀s V,SrcAt V R v s→Chg (·=R) W V→Calls prog 163 #[.pointer (some ⟨R,0,none⟩)] V (OneE (fun x:RCol=>.agg x.enc.toArray) isT id R v (rdCol l s) V):=fun s V hs hV=>rdrCol_any R v l s V hs (hvW V hV)
 have KV:∀s V,SrcAt V R v s→Chg (·=R) W V→Calls prog 164 #[.pointer (some ⟨R,0,none⟩)] V fun x w'=>x=.returned (.agg #[.int .i64 (rdV l s).1.kind,.int .i64 (rdV l s).1.int,.string (rdV l s).1.text])∧SrcAt w' R v (rdV l s).2∧Chg (·=R) V w':=fun s V hs hV=>srcValue_any R v l s V hs (hvW V hV)
 have HQ:=hI0 hQ
 have HbW:=hI0 hbW
 have HD0:=hI0 hd0
 have HD1:=hI0 hd1
 have HE3:=hI0 he3
 clear h hv hvW hQ hbW h1 h2 h3 hres hd0 hd1 he3
 go_in
 go_upto_region 1 with (fail)
 rw [←hW]
 clear hW
 refine (fun (tl:∀(T:Nat) (V:World),W.heap.size≤T→T<V.heap.size→V.heap[T]? =some (.cells #[.int .i64 0,.string ⟨#[]⟩,.string ⟨#[]⟩,.slice none 0 0,.slice none 0 0,.slice none 0 0,.slice none 0 0,.int .i64 0,.string ⟨#[]⟩,.string ⟨#[]⟩,.string ⟨#[]⟩,.int .i64 0,.bool false,.int .i64 0,.int .i64 0,.string ⟨#[]⟩] 83 (0,0))→SrcAt V R v s2→Chg (·=R) W V→(?Rest:Nat→World→Prop) T V)=>?leaves) ?tail
 case leaves=>
  refine wp_region_noPanic ?_
  refine beginT (S:=(fun _:World=>True)) 10 (by kernel_rfl) ?_ (fun zh=>?_)
  ·trivial
  refine tT 0 4 ?_
  refine tT 1 5 ?_
  refine tT 2 6 ?_
  refine tT 4 8 ?_
  refine tT 5 9 ?_
  refine tT 6 10 ?_
  refine fork2 3 9 (by kernel_rfl) ?_ ?_
  ·refine fC 3 7 ?_
   (with_reducible refine (K1 _ hS0 hC0).mono ?_)
   rintro _ v1 ⟨rfl,hS1,hD1⟩
   have hC1:Chg (·=R) W v1:=hC0.trans hD1 (fun _ _ h=>h)
   refine ⟨_,rfl,rA0 trivial ?_⟩
   clear zh
   intro zh
   simp only [aP]
   refine fork2 7 9 (by kernel_rfl) ?_ ?_
   ·refine fC 7 11 ?_
    (with_reducible refine (K2 _ hS1 hC1).mono ?_)
    rintro _ v2 ⟨rfl,hS2,hD2⟩
    have hC2:Chg (·=R) W v2:=hC1.trans hD2 (fun _ _ h=>h)
    refine ⟨_,rfl,rA0 trivial ?_⟩
    clear zh
    intro zh
    simp only [aP]
    refine tT 8 12 ?_
    refine fork1 9 (by kernel_rfl) ?_
    refine runF 9 (some 3) (v:=.pointer (some ⟨v2.heap.size,0,none⟩)) (w':=v2.alloc (.cells #[.int .i64 0,.string ⟨#[]⟩,.string ⟨#[]⟩,.slice none 0 0,.slice none 0 0,.slice none 0 0,.slice none 0 0,.int .i64 0,.string ⟨#[]⟩,.string ⟨#[]⟩,.string ⟨#[]⟩,.int .i64 0,.bool false,.int .i64 0,.int .i64 0,.string ⟨#[]⟩] 83)) rfl rfl (by rfl) ?_ ?_
    ·go_simp<;>with_reducible rfl
    obtain ⟨T,hTe⟩:=eN0 v2.heap.size
    rw [←hTe]
    obtain ⟨X,hX⟩:=eN0 (v2.alloc (.cells #[.int .i64 0,.string ⟨#[]⟩,.string ⟨#[]⟩,.slice none 0 0,.slice none 0 0,.slice none 0 0,.slice none 0 0,.int .i64 0,.string ⟨#[]⟩,.string ⟨#[]⟩,.string ⟨#[]⟩,.int .i64 0,.bool false,.int .i64 0,.int .i64 0,.string ⟨#[]⟩] 83))
    rw [←hX]
    have hbX:=bN0 hX
    have hSX:SrcAt X R v s2:=hS2.below hbX
    have hCX:Chg (·=R) W X:=hC2.trans (Chg.of_below hbX _) (fun _ _ h=>h)
    have hTX:X.heap[T]? =some (.cells #[.int .i64 0,.string ⟨#[]⟩,.string ⟨#[]⟩,.slice none 0 0,.slice none 0 0,.slice none 0 0,.slice none 0 0,.int .i64 0,.string ⟨#[]⟩,.string ⟨#[]⟩,.string ⟨#[]⟩,.int .i64 0,.bool false,.int .i64 0,.int .i64 0,.string ⟨#[]⟩] 83 (0,0)):=by rw [hX,hTe];exact heap_alloc_new _ _
    have hTlX:T<X.heap.size:=by rw [hX,hTe];simp
    have hTW:W.heap.size≤T:=by rw [hTe];exact hC2.size
    clear hX hTe hbX
    refine rA0 trivial ?_
    clear zh
    intro zh
    simp only [aP]
    exact tl T X hTW hTlX hTX hSX hCX
   ·exact zq53 1
  ·exact zq53 0
 case tail=>
  intro T V hTW hTlV hTV hSV hCV
  refine fork1 10 (by kernel_rfl) ?_
  refine skipRunF 10 none (w':=(V.setRow T #[.int .i64 n1,.string n2,.string ⟨#[]⟩,.slice none 0 0,.slice none 0 0,.slice none 0 0,.slice none 0 0,.int .i64 0,.string ⟨#[]⟩,.string ⟨#[]⟩,.string ⟨#[]⟩,.int .i64 0,.bool false,.int .i64 0,.int .i64 0,.string ⟨#[]⟩])) rfl rfl (by rfl) ?_ ?_
  ·exact exec_storeRow (cur:=#[.int .i64 0,.string ⟨#[]⟩,.string ⟨#[]⟩,.slice none 0 0,.slice none 0 0,.slice none 0 0,.slice none 0 0,.int .i64 0,.string ⟨#[]⟩,.string ⟨#[]⟩,.string ⟨#[]⟩,.int .i64 0,.bool false,.int .i64 0,.int .i64 0,.string ⟨#[]⟩]) (vs:=#[.int .i64 n1,.string n2,.string ⟨#[]⟩,.slice none 0 0,.slice none 0 0,.slice none 0 0,.slice none 0 0,.int .i64 0,.string ⟨#[]⟩,.string ⟨#[]⟩,.string ⟨#[]⟩,.int .i64 0,.bool false,.int .i64 0,.int .i64 0,.string ⟨#[]⟩]) (.tmp 3) (.tmp 12) rfl rfl rfl sz_ent rfl rfl hTV
  have hTY:=setRow_heap V T _ #[.int .i64 n1,.string n2,.string ⟨#[]⟩,.slice none 0 0,.slice none 0 0,.slice none 0 0,.slice none 0 0,.int .i64 0,.string ⟨#[]⟩,.string ⟨#[]⟩,.string ⟨#[]⟩,.int .i64 0,.bool false,.int .i64 0,.int .i64 0,.string ⟨#[]⟩] _ _ hTV
  have hYc:=chg_setRow V T #[.int .i64 n1,.string n2,.string ⟨#[]⟩,.slice none 0 0,.slice none 0 0,.slice none 0 0,.slice none 0 0,.int .i64 0,.string ⟨#[]⟩,.string ⟨#[]⟩,.string ⟨#[]⟩,.int .i64 0,.bool false,.int .i64 0,.int .i64 0,.string ⟨#[]⟩]
  generalize V.setRow T #[.int .i64 n1,.string n2,.string ⟨#[]⟩,.slice none 0 0,.slice none 0 0,.slice none 0 0,.slice none 0 0,.int .i64 0,.string ⟨#[]⟩,.string ⟨#[]⟩,.string ⟨#[]⟩,.int .i64 0,.bool false,.int .i64 0,.int .i64 0,.string ⟨#[]⟩]=Y at *
  have hzY:=hYc.size
  have hC2:Chg (·=R) W Y:=hCV.trans hYc (fun i hi (h:i=T)=>by omega)
  have hS2:SrcAt Y R v s2:=(hYc.block R hSV.lt (by show R≠T;omega)).trans hSV
  have hTl:T<Y.heap.size:=by omega
  clear hYc hTV hSV hCV hTlV
  refine ⟨fun h=>absurd rfl h,?_⟩
  simp only [Act.put]
  refine doneT (by kernel_rfl) ?_ _
  refine NoPanic.normal ?_
  have hr2:RdS R T w.heap.size v s2 #[.int .i64 0,.string ⟨#[]⟩,.string ⟨#[]⟩,.slice none 0 0,.slice none 0 0,.slice none 0 0,.slice none 0 0,.int .i64 0,.string ⟨#[]⟩,.string ⟨#[]⟩,.string ⟨#[]⟩,.int .i64 0,.bool false,.int .i64 0,.int .i64 0,.string ⟨#[]⟩] #[.int .i64 n1,.string n2,.string ⟨#[]⟩,.slice none 0 0,.slice none 0 0,.slice none 0 0,.slice none 0 0,.int .i64 0,.string ⟨#[]⟩,.string ⟨#[]⟩,.string ⟨#[]⟩,.int .i64 0,.bool false,.int .i64 0,.int .i64 0,.string ⟨#[]⟩] 83 Y:=⟨hS2,hTY,(hC2.block _ (by omega) zi11).trans HQ.out,by omega,by omega,by omega⟩
  clear hTY hS2
  go_wp2_with fail
  (with_reducible refine (K3 Y hr2.src hC2).mono ?_)
  rintro _ v3 ⟨rfl,hS3,hD3⟩
  have hr3:=hr2.call hS3 hD3
  have hC3:Chg (·=R) W v3:=hC2.trans hD3 (fun _ _ h=>h)
  have p7:v3.cell? ⟨T,7,none⟩=some (.int .i64 0):=cW0 v3 _ 7 _ _ _ hr3.box
  have g7:v3.frozen? ⟨T,7,none⟩=false:=fW0 v3 _ 7 _ _ hr3.box
  go_upto_region 3 with (fail)
  clear p7 g7 K1 K2 K3 hS3 hr2 hC2 hD3 hS0 hC0
  have hr4:=hr3.put 7 (.int .i64 n3) (cs':=#[.int .i64 n1,.string n2,.string ⟨#[]⟩,.slice none 0 0,.slice none 0 0,.slice none 0 0,.slice none 0 0,.int .i64 n3,.string ⟨#[]⟩,.string ⟨#[]⟩,.string ⟨#[]⟩,.int .i64 0,.bool false,.int .i64 0,.int .i64 0,.string ⟨#[]⟩])
  have hC4:Chg (·=R) W (v3.setCell ⟨T,7,none⟩ (.int .i64 n3)):=hC3.setCell (p:=⟨T,7,none⟩) (.inr hTW) _
  generalize v3.setCell ⟨T,7,none⟩ (.int .i64 n3)=U at *
  clear hr3 hC3
  have c2:U.cell? ⟨R,2,none⟩=some (.int .i64 s3.2):=cW0 U R 2 _ _ _ hr4.src
  obtain ⟨k3,e3⟩:=s3
  simp only at c2 HD0 HE3
  by_cases he:e3=0
  case neg=>
   have he2:(e3 != 0)=true:=by simpa using he
   go_upto_region 4 with (fail)
   clear c2 he2
   obtain rfl:n3=0:=HE3.out he
   have HD:Hid (res=(⟨n1,n2,RTab.none_,⟨0,⟨#[]⟩,⟨#[]⟩,⟨#[]⟩,0,false,zeroV⟩⟩,(k3,e3))):=hI0 (by rw [HD0.out rfl,rdTab_stop he])
   have HR:=hI0 hr4
   have HC:=hI0 hC4
   clear hr4 hC4
   go_wp2_with (first|(refine wpList_loadRow (cs:=#[.int .i64 n1,.string n2,.string ⟨#[]⟩,.slice none 0 0,.slice none 0 0,.slice none 0 0,.slice none 0 0,.int .i64 0,.string ⟨#[]⟩,.string ⟨#[]⟩,.string ⟨#[]⟩,.int .i64 0,.bool false,.int .i64 0,.int .i64 0,.string ⟨#[]⟩]) (T:=T) (.tmp 3) rfl rfl rfl sz_ent ag_ent HR.out.box ?_)|(refine wpList_storeRow (cur:=#[.int .i64 0,.string ⟨#[]⟩,.string ⟨#[]⟩,.slice none 0 0,.slice none 0 0,.slice none 0 0,.slice none 0 0,.int .i64 0,.string ⟨#[]⟩,.string ⟨#[]⟩,.string ⟨#[]⟩,.int .i64 0,.bool false,.int .i64 0,.int .i64 0,.string ⟨#[]⟩]) (vs:=#[.int .i64 n1,.string n2,.string ⟨#[]⟩,.slice none 0 0,.slice none 0 0,.slice none 0 0,.slice none 0 0,.int .i64 0,.string ⟨#[]⟩,.string ⟨#[]⟩,.string ⟨#[]⟩,.int .i64 0,.bool false,.int .i64 0,.int .i64 0,.string ⟨#[]⟩]) (.tmp 2) (.tmp 25) rfl rfl rfl rfl sz_ent rfl rfl HR.out.res ?_;intro E hE hEc))
   have HE:=hI0 hE
   have HEc:=hI0 hEc
   clear hE hEc
   obtain ⟨p0,p1,p2,p3,p4,p5,p6,p7,p8,p9,p10,p11,p12,p13,p14,p15⟩:=cX16 HE.out
   have hSE:SrcAt E R v (k3,e3):=(HEc.out.block R HR.out.src.lt zi12).trans HR.out.src
   have hCE:Chg (·=R) w E:=((Chg.of_below HbW.out _).trans HC.out (fun _ _ h=>h)).trans HEc.out (fun i hi (h:i=w.heap.size)=>by omega)
   exact bodyPost_ret (v:=.agg #[.int .i64 n1,.string n2,.string ⟨#[]⟩,.slice none 0 0,.slice none 0 0,.slice none 0 0,.slice none 0 0,.int .i64 0,.string ⟨#[]⟩,.string ⟨#[]⟩,.string ⟨#[]⟩,.int .i64 0,.bool false,.int .i64 0,.int .i64 0,.string ⟨#[]⟩]) zi15 rfl (by rw [HD.out];exact ⟨⟨n1,n2,⟨⟨#[]⟩,none,0,[],none,0,[],none,0,[],none,0,[]⟩,⟨0,⟨#[]⟩,⟨#[]⟩,⟨#[]⟩,0,false,⟨0,0,⟨#[]⟩⟩⟩⟩,rfl,⟨tabIs_none _ _,goV_zero⟩,rfl,hSE,hCE⟩)
  subst he
  have p7:U.cell? ⟨T,7,none⟩=some (.int .i64 n3):=cW0 U _ 7 _ _ _ hr4.box
  by_cases hk:n3=0
  case pos=>
   subst hk
   have HDa:=hI0 (HD0.out rfl)
   have K5:=KTab U hr4.src hC4
   rcases ht:rdTab l (k3,0) with ⟨xt,s5⟩
   rw [ht] at K5 HDa
   clear HD0 HD1 HE3 KTab KT KC KV ht
   go_wp2_with fail
   clear c2 p7
   (with_reducible refine K5.mono ?_)
   rintro e v5 ⟨x,he,hI5,hE5,hS5,hD5⟩
   obtain ⟨tn,tA1,tc1,tl1,tA2,tc2,tl2,tA3,tc3,tl3,tA4,tc4,tl4⟩:=x
   have he:e=.returned (.agg #[.string tn,.slice tA1 tl1.length tc1,.slice tA2 tl2.length tc2,.slice tA3 tl3.length tc3,.slice tA4 tl4.length tc4]):=he
   subst he
   have hz5:=hD5.size
   have hr5:=hr4.call hS5 hD5
   have hC5:Chg (·=R) W v5:=hC4.trans hD5 (fun _ _ h=>h)
   have hzU:=hr4.lt.1
   have p2:v5.cell? ⟨T,2,none⟩=some (.string ⟨#[]⟩):=cW0 v5 _ 2 _ _ _ hr5.box
   have g2:v5.frozen? ⟨T,2,none⟩=false:=fW0 v5 _ 2 _ _ hr5.box
   have p3:v5.cell? ⟨T,3,none⟩=some (.slice none 0 0):=cW0 v5 _ 3 _ _ _ hr5.box
   have g3:v5.frozen? ⟨T,3,none⟩=false:=fW0 v5 _ 3 _ _ hr5.box
   have p4:v5.cell? ⟨T,4,none⟩=some (.slice none 0 0):=cW0 v5 _ 4 _ _ _ hr5.box
   have g4:v5.frozen? ⟨T,4,none⟩=false:=fW0 v5 _ 4 _ _ hr5.box
   have p5:v5.cell? ⟨T,5,none⟩=some (.slice none 0 0):=cW0 v5 _ 5 _ _ _ hr5.box
   have g5:v5.frozen? ⟨T,5,none⟩=false:=fW0 v5 _ 5 _ _ hr5.box
   have p6:v5.cell? ⟨T,6,none⟩=some (.slice none 0 0):=cW0 v5 _ 6 _ _ _ hr5.box
   have g6:v5.frozen? ⟨T,6,none⟩=false:=fW0 v5 _ 6 _ _ hr5.box
   have HI5:=hI0 hI5
   have HE5:=hI0 hE5
   clear hI5 hE5 hr4 hC4 K5 hS5 hD5
   go_upto_region 7 with (fail)
   clear p2 g2 p3 g3 p4 g4 p5 g5 p6 g6
   have hr6:=(((((hr5.put 2 (.string tn) (cs':=#[.int .i64 n1,.string n2,.string tn,.slice none 0 0,.slice none 0 0,.slice none 0 0,.slice none 0 0,.int .i64 0,.string ⟨#[]⟩,.string ⟨#[]⟩,.string ⟨#[]⟩,.int .i64 0,.bool false,.int .i64 0,.int .i64 0,.string ⟨#[]⟩])).put 3 (.slice tA1 tl1.length tc1) (cs':=#[.int .i64 n1,.string n2,.string tn,.slice tA1 tl1.length tc1,.slice none 0 0,.slice none 0 0,.slice none 0 0,.int .i64 0,.string ⟨#[]⟩,.string ⟨#[]⟩,.string ⟨#[]⟩,.int .i64 0,.bool false,.int .i64 0,.int .i64 0,.string ⟨#[]⟩])).put 4 (.slice tA2 tl2.length tc2) (cs':=#[.int .i64 n1,.string n2,.string tn,.slice tA1 tl1.length tc1,.slice tA2 tl2.length tc2,.slice none 0 0,.slice none 0 0,.int .i64 0,.string ⟨#[]⟩,.string ⟨#[]⟩,.string ⟨#[]⟩,.int .i64 0,.bool false,.int .i64 0,.int .i64 0,.string ⟨#[]⟩])).put 5 (.slice tA3 tl3.length tc3) (cs':=#[.int .i64 n1,.string n2,.string tn,.slice tA1 tl1.length tc1,.slice tA2 tl2.length tc2,.slice tA3 tl3.length tc3,.slice none 0 0,.int .i64 0,.string ⟨#[]⟩,.string ⟨#[]⟩,.string ⟨#[]⟩,.int .i64 0,.bool false,.int .i64 0,.int .i64 0,.string ⟨#[]⟩])).put 6 (.slice tA4 tl4.length tc4) (cs':=#[.int .i64 n1,.string n2,.string tn,.slice tA1 tl1.length tc1,.slice tA2 tl2.length tc2,.slice tA3 tl3.length tc3,.slice tA4 tl4.length tc4,.int .i64 0,.string ⟨#[]⟩,.string ⟨#[]⟩,.string ⟨#[]⟩,.int .i64 0,.bool false,.int .i64 0,.int .i64 0,.string ⟨#[]⟩]))
   have hC6:=(Chg.setCell (p:=⟨T,6,none⟩) (Chg.setCell (p:=⟨T,5,none⟩) (Chg.setCell (p:=⟨T,4,none⟩) (Chg.setCell (p:=⟨T,3,none⟩) (Chg.setCell (p:=⟨T,2,none⟩) hC5 (.inr hTW) (.string tn)) (.inr hTW) (.slice tA1 tl1.length tc1)) (.inr hTW) (.slice tA2 tl2.length tc2)) (.inr hTW) (.slice tA3 tl3.length tc3)) (.inr hTW) (.slice tA4 tl4.length tc4))
   have hy6:St3 R T w.heap.size v5 (((((v5.setCell ⟨T,2,none⟩ (.string tn)).setCell ⟨T,3,none⟩ (.slice tA1 tl1.length tc1)).setCell ⟨T,4,none⟩ (.slice tA2 tl2.length tc2)).setCell ⟨T,5,none⟩ (.slice tA3 tl3.length tc3)).setCell ⟨T,6,none⟩ (.slice tA4 tl4.length tc4)):=St3.trans (St3.trans (St3.trans (St3.trans (St3.put v5 2 (.string tn)) (St3.put _ 3 (.slice tA1 tl1.length tc1))) (St3.put _ 4 (.slice tA2 tl2.length tc2))) (St3.put _ 5 (.slice tA3 tl3.length tc3))) (St3.put _ 6 (.slice tA4 tl4.length tc4))
   clear hr5 hC5
   generalize (((((v5.setCell ⟨T,2,none⟩ (.string tn)).setCell ⟨T,3,none⟩ (.slice tA1 tl1.length tc1)).setCell ⟨T,4,none⟩ (.slice tA2 tl2.length tc2)).setCell ⟨T,5,none⟩ (.slice tA3 tl3.length tc3)).setCell ⟨T,6,none⟩ (.slice tA4 tl4.length tc4))=Y6 at *
   have hw6:=hy6.size
   have HY6:=hI0 hy6
   clear hy6
   have HR:=hI0 hr6
   have HC:=hI0 hC6
   clear hr6 hC6
   go_wp2_with (first|(refine wpList_loadRow (cs:=#[.int .i64 n1,.string n2,.string tn,.slice tA1 tl1.length tc1,.slice tA2 tl2.length tc2,.slice tA3 tl3.length tc3,.slice tA4 tl4.length tc4,.int .i64 0,.string ⟨#[]⟩,.string ⟨#[]⟩,.string ⟨#[]⟩,.int .i64 0,.bool false,.int .i64 0,.int .i64 0,.string ⟨#[]⟩]) (T:=T) (.tmp 3) rfl rfl rfl sz_ent ag_ent HR.out.box ?_)|(refine wpList_storeRow (cur:=#[.int .i64 0,.string ⟨#[]⟩,.string ⟨#[]⟩,.slice none 0 0,.slice none 0 0,.slice none 0 0,.slice none 0 0,.int .i64 0,.string ⟨#[]⟩,.string ⟨#[]⟩,.string ⟨#[]⟩,.int .i64 0,.bool false,.int .i64 0,.int .i64 0,.string ⟨#[]⟩]) (vs:=#[.int .i64 n1,.string n2,.string tn,.slice tA1 tl1.length tc1,.slice tA2 tl2.length tc2,.slice tA3 tl3.length tc3,.slice tA4 tl4.length tc4,.int .i64 0,.string ⟨#[]⟩,.string ⟨#[]⟩,.string ⟨#[]⟩,.int .i64 0,.bool false,.int .i64 0,.int .i64 0,.string ⟨#[]⟩]) (.tmp 2) (.tmp 33) rfl rfl rfl rfl sz_ent rfl rfl HR.out.res ?_;intro E hE hEc))
   have HE:=hI0 hE
   have HEc:=hI0 hEc
   clear hE hEc
   obtain ⟨p0,p1,p2,p3,p4,p5,p6,p7,p8,p9,p10,p11,p12,p13,p14,p15⟩:=cX16 HE.out
   have hSE:SrcAt E R v s5:=(HEc.out.block R HR.out.src.lt zi12).trans HR.out.src
   have hCE:Chg (·=R) w E:=((Chg.of_below HbW.out _).trans HC.out (fun _ _ h=>h)).trans HEc.out (fun i hi (h:i=w.heap.size)=>by omega)
   obtain ⟨kk,mm⟩:=keep3 (V:=U) (w':=w) (HY6.out.trans (St3.res HEc.out)) (by omega) (by omega) (by omega) (by omega)
   exact bodyPost_ret (v:=.agg #[.int .i64 n1,.string n2,.string tn,.slice tA1 tl1.length tc1,.slice tA2 tl2.length tc2,.slice tA3 tl3.length tc3,.slice tA4 tl4.length tc4,.int .i64 0,.string ⟨#[]⟩,.string ⟨#[]⟩,.string ⟨#[]⟩,.int .i64 0,.bool false,.int .i64 0,.int .i64 0,.string ⟨#[]⟩]) zi15 rfl (by rw [HDa.out];exact ⟨⟨n1,n2,⟨tn,tA1,tc1,tl1,tA2,tc2,tl2,tA3,tc3,tl3,tA4,tc4,tl4⟩,⟨0,⟨#[]⟩,⟨#[]⟩,⟨#[]⟩,0,false,⟨0,0,⟨#[]⟩⟩⟩⟩,rfl,⟨isK_Tab.wide (isK_Tab.keep HI5.out kk) mm,goV_zero⟩,by have h:=HE5.out;(try simp only at h);simp only [REn.er,h];rfl,hSE,hCE⟩)
  have HDb:=hI0 (HD1.out hk)
  have hk2:(n3==0)=false:=by simpa using hk
  rcases h5:rdT l (k3,0) with ⟨n5,s5⟩
  rcases h6:rdT l s5 with ⟨n6,s6⟩
  rcases h7:rdCol l s6 with ⟨⟨cn,ck,cb⟩,s7⟩
  rcases h8:rdV l s7 with ⟨⟨dk,di,dt⟩,s8⟩
  have hch:rdChn l n3 (k3,0)=(⟨n3,n5,n6,cn,ck,cb,⟨dk,di,dt⟩⟩,s8):=by unfold rdChn;simp only [h5,h6,h7,h8]
  have hg8:goV ⟨dk,di,dt⟩:=by
   have e:(⟨dk,di,dt⟩:Val)=(rdV l s7).1:=by rw [h8]
   rw [e];exact rdV_goV l s7
  have K5:∀V,SrcAt V R v (k3,0)→Chg (·=R) W V→Calls prog 122 #[.pointer (some ⟨R,0,none⟩)] V fun x w'=>x=.returned (.string n5)∧SrcAt w' R v s5∧Chg (·=R) V w':=fun V hs hV=>by
   have k:=KT (k3,0) V hs hV
   rw [h5] at k
   exact k
  have K6:∀V,SrcAt V R v s5→Chg (·=R) W V→Calls prog 122 #[.pointer (some ⟨R,0,none⟩)] V fun x w'=>x=.returned (.string n6)∧SrcAt w' R v s6∧Chg (·=R) V w':=fun V hs hV=>by
   have k:=KT s5 V hs hV
   rw [h6] at k
   exact k
  have K7:∀V,SrcAt V R v s6→Chg (·=R) W V→Calls prog 163 #[.pointer (some ⟨R,0,none⟩)] V (OneE (fun x:RCol=>.agg x.enc.toArray) isT id R v (⟨cn,ck,cb⟩,s7) V):=fun V hs hV=>by
   have k:=KC s6 V hs hV
   rw [h7] at k
   exact k
  have K8:∀V,SrcAt V R v s7→Chg (·=R) W V→Calls prog 164 #[.pointer (some ⟨R,0,none⟩)] V fun x w'=>x=.returned (.agg #[.int .i64 dk,.int .i64 di,.string dt])∧SrcAt w' R v s8∧Chg (·=R) V w':=fun V hs hV=>by
   have k:=KV s7 V hs hV
   rw [h8] at k
   exact k
  rw [hch] at HDb
  have HG8:=hI0 hg8
  clear HD0 HD1 HE3 KTab KT KC KV h5 h6 h7 h8 hch hg8
  go_wp2_with fail
  clear c2 p7 hk2
  (with_reducible refine (K5 U hr4.src hC4).mono ?_)
  rintro _ v5 ⟨rfl,hS5,hD5⟩
  have hr5:=hr4.call hS5 hD5
  have hC5:Chg (·=R) W v5:=hC4.trans hD5 (fun _ _ h=>h)
  have p8:v5.cell? ⟨T,8,none⟩=some (.string ⟨#[]⟩):=cW0 v5 _ 8 _ _ _ hr5.box
  have g8:v5.frozen? ⟨T,8,none⟩=false:=fW0 v5 _ 8 _ _ hr5.box
  clear hr4 hC4 hS5 hD5 K5
  go_upto_region 9 with (fail)
  clear p8 g8
  have hrY5:=(hr5.put 8 (.string n5) (cs':=#[.int .i64 n1,.string n2,.string ⟨#[]⟩,.slice none 0 0,.slice none 0 0,.slice none 0 0,.slice none 0 0,.int .i64 n3,.string n5,.string ⟨#[]⟩,.string ⟨#[]⟩,.int .i64 0,.bool false,.int .i64 0,.int .i64 0,.string ⟨#[]⟩]))
  have hCY5:=(Chg.setCell (p:=⟨T,8,none⟩) hC5 (.inr hTW) (.string n5))
  clear hr5 hC5
  generalize (v5.setCell ⟨T,8,none⟩ (.string n5))=Y5 at *
  go_wp2_with fail
  (with_reducible refine (K6 Y5 hrY5.src hCY5).mono ?_)
  rintro _ v6 ⟨rfl,hS6,hD6⟩
  have hr6:=hrY5.call hS6 hD6
  have hC6:Chg (·=R) W v6:=hCY5.trans hD6 (fun _ _ h=>h)
  have p9:v6.cell? ⟨T,9,none⟩=some (.string ⟨#[]⟩):=cW0 v6 _ 9 _ _ _ hr6.box
  have g9:v6.frozen? ⟨T,9,none⟩=false:=fW0 v6 _ 9 _ _ hr6.box
  clear hrY5 hCY5 hS6 hD6 K6
  go_upto_region 10 with (fail)
  clear p9 g9
  have hrY6:=(hr6.put 9 (.string n6) (cs':=#[.int .i64 n1,.string n2,.string ⟨#[]⟩,.slice none 0 0,.slice none 0 0,.slice none 0 0,.slice none 0 0,.int .i64 n3,.string n5,.string n6,.string ⟨#[]⟩,.int .i64 0,.bool false,.int .i64 0,.int .i64 0,.string ⟨#[]⟩]))
  have hCY6:=(Chg.setCell (p:=⟨T,9,none⟩) hC6 (.inr hTW) (.string n6))
  clear hr6 hC6
  generalize (v6.setCell ⟨T,9,none⟩ (.string n6))=Y6 at *
  go_wp2_with fail
  (with_reducible refine (K7 Y6 hrY6.src hCY6).mono ?_)
  rintro e v7 ⟨x,he,_,hE7,hS7,hD7⟩
  obtain rfl:x=⟨cn,ck,cb⟩:=hE7
  have he:e=.returned (.agg #[.string cn,.int .i64 ck,.bool cb]):=he
  subst he
  have hr7:=hrY6.call hS7 hD7
  have hC7:Chg (·=R) W v7:=hCY6.trans hD7 (fun _ _ h=>h)
  have p10:v7.cell? ⟨T,10,none⟩=some (.string ⟨#[]⟩):=cW0 v7 _ 10 _ _ _ hr7.box
  have g10:v7.frozen? ⟨T,10,none⟩=false:=fW0 v7 _ 10 _ _ hr7.box
  have p11:v7.cell? ⟨T,11,none⟩=some (.int .i64 0):=cW0 v7 _ 11 _ _ _ hr7.box
  have g11:v7.frozen? ⟨T,11,none⟩=false:=fW0 v7 _ 11 _ _ hr7.box
  have p12:v7.cell? ⟨T,12,none⟩=some (.bool false):=cW0 v7 _ 12 _ _ _ hr7.box
  have g12:v7.frozen? ⟨T,12,none⟩=false:=fW0 v7 _ 12 _ _ hr7.box
  clear hrY6 hCY6 hS7 hD7 K7
  go_upto_region 11 with (fail)
  clear p10 g10 p11 g11 p12 g12
  have hrY7:=(((hr7.put 10 (.string cn) (cs':=#[.int .i64 n1,.string n2,.string ⟨#[]⟩,.slice none 0 0,.slice none 0 0,.slice none 0 0,.slice none 0 0,.int .i64 n3,.string n5,.string n6,.string cn,.int .i64 0,.bool false,.int .i64 0,.int .i64 0,.string ⟨#[]⟩])).put 11 (.int .i64 ck) (cs':=#[.int .i64 n1,.string n2,.string ⟨#[]⟩,.slice none 0 0,.slice none 0 0,.slice none 0 0,.slice none 0 0,.int .i64 n3,.string n5,.string n6,.string cn,.int .i64 ck,.bool false,.int .i64 0,.int .i64 0,.string ⟨#[]⟩])).put 12 (.bool cb) (cs':=#[.int .i64 n1,.string n2,.string ⟨#[]⟩,.slice none 0 0,.slice none 0 0,.slice none 0 0,.slice none 0 0,.int .i64 n3,.string n5,.string n6,.string cn,.int .i64 ck,.bool cb,.int .i64 0,.int .i64 0,.string ⟨#[]⟩]))
  have hCY7:=(Chg.setCell (p:=⟨T,12,none⟩) (Chg.setCell (p:=⟨T,11,none⟩) (Chg.setCell (p:=⟨T,10,none⟩) hC7 (.inr hTW) (.string cn)) (.inr hTW) (.int .i64 ck)) (.inr hTW) (.bool cb))
  clear hr7 hC7
  generalize (((v7.setCell ⟨T,10,none⟩ (.string cn)).setCell ⟨T,11,none⟩ (.int .i64 ck)).setCell ⟨T,12,none⟩ (.bool cb))=Y7 at *
  go_wp2_with fail
  (with_reducible refine (K8 Y7 hrY7.src hCY7).mono ?_)
  rintro _ v8 ⟨rfl,hS8,hD8⟩
  have hr8:=hrY7.call hS8 hD8
  have hC8:Chg (·=R) W v8:=hCY7.trans hD8 (fun _ _ h=>h)
  have p13:v8.cell? ⟨T,13,none⟩=some (.int .i64 0):=cW0 v8 _ 13 _ _ _ hr8.box
  have g13:v8.frozen? ⟨T,13,none⟩=false:=fW0 v8 _ 13 _ _ hr8.box
  have p14:v8.cell? ⟨T,14,none⟩=some (.int .i64 0):=cW0 v8 _ 14 _ _ _ hr8.box
  have g14:v8.frozen? ⟨T,14,none⟩=false:=fW0 v8 _ 14 _ _ hr8.box
  have p15:v8.cell? ⟨T,15,none⟩=some (.string ⟨#[]⟩):=cW0 v8 _ 15 _ _ _ hr8.box
  have g15:v8.frozen? ⟨T,15,none⟩=false:=fW0 v8 _ 15 _ _ hr8.box
  clear hrY7 hCY7 hS8 hD8 K8
  go_upto_region 12 with (fail)
  clear p13 g13 p14 g14 p15 g15
  have hrY8:=(((hr8.put 13 (.int .i64 dk) (cs':=#[.int .i64 n1,.string n2,.string ⟨#[]⟩,.slice none 0 0,.slice none 0 0,.slice none 0 0,.slice none 0 0,.int .i64 n3,.string n5,.string n6,.string cn,.int .i64 ck,.bool cb,.int .i64 dk,.int .i64 0,.string ⟨#[]⟩])).put 14 (.int .i64 di) (cs':=#[.int .i64 n1,.string n2,.string ⟨#[]⟩,.slice none 0 0,.slice none 0 0,.slice none 0 0,.slice none 0 0,.int .i64 n3,.string n5,.string n6,.string cn,.int .i64 ck,.bool cb,.int .i64 dk,.int .i64 di,.string ⟨#[]⟩])).put 15 (.string dt) (cs':=#[.int .i64 n1,.string n2,.string ⟨#[]⟩,.slice none 0 0,.slice none 0 0,.slice none 0 0,.slice none 0 0,.int .i64 n3,.string n5,.string n6,.string cn,.int .i64 ck,.bool cb,.int .i64 dk,.int .i64 di,.string dt]))
  have hCY8:=(Chg.setCell (p:=⟨T,15,none⟩) (Chg.setCell (p:=⟨T,14,none⟩) (Chg.setCell (p:=⟨T,13,none⟩) hC8 (.inr hTW) (.int .i64 dk)) (.inr hTW) (.int .i64 di)) (.inr hTW) (.string dt))
  clear hr8 hC8
  generalize (((v8.setCell ⟨T,13,none⟩ (.int .i64 dk)).setCell ⟨T,14,none⟩ (.int .i64 di)).setCell ⟨T,15,none⟩ (.string dt))=Y8 at *
  have HR:=hI0 hrY8
  have HC:=hI0 hCY8
  clear hrY8 hCY8
  go_wp2_with (first|(refine wpList_loadRow (cs:=#[.int .i64 n1,.string n2,.string ⟨#[]⟩,.slice none 0 0,.slice none 0 0,.slice none 0 0,.slice none 0 0,.int .i64 n3,.string n5,.string n6,.string cn,.int .i64 ck,.bool cb,.int .i64 dk,.int .i64 di,.string dt]) (T:=T) (.tmp 3) rfl rfl rfl sz_ent ag_ent HR.out.box ?_)|(refine wpList_storeRow (cur:=#[.int .i64 0,.string ⟨#[]⟩,.string ⟨#[]⟩,.slice none 0 0,.slice none 0 0,.slice none 0 0,.slice none 0 0,.int .i64 0,.string ⟨#[]⟩,.string ⟨#[]⟩,.string ⟨#[]⟩,.int .i64 0,.bool false,.int .i64 0,.int .i64 0,.string ⟨#[]⟩]) (vs:=#[.int .i64 n1,.string n2,.string ⟨#[]⟩,.slice none 0 0,.slice none 0 0,.slice none 0 0,.slice none 0 0,.int .i64 n3,.string n5,.string n6,.string cn,.int .i64 ck,.bool cb,.int .i64 dk,.int .i64 di,.string dt]) (.tmp 2) (.tmp 56) rfl rfl rfl rfl sz_ent rfl rfl HR.out.res ?_;intro E hE hEc))
  have HE:=hI0 hE
  have HEc:=hI0 hEc
  clear hE hEc
  obtain ⟨p0,p1,p2,p3,p4,p5,p6,p7,p8,p9,p10,p11,p12,p13,p14,p15⟩:=cX16 HE.out
  have hSE:SrcAt E R v s8:=(HEc.out.block R HR.out.src.lt zi12).trans HR.out.src
  have hCE:Chg (·=R) w E:=((Chg.of_below HbW.out _).trans HC.out (fun _ _ h=>h)).trans HEc.out (fun i hi (h:i=w.heap.size)=>by omega)
  exact bodyPost_ret (v:=.agg #[.int .i64 n1,.string n2,.string ⟨#[]⟩,.slice none 0 0,.slice none 0 0,.slice none 0 0,.slice none 0 0,.int .i64 n3,.string n5,.string n6,.string cn,.int .i64 ck,.bool cb,.int .i64 dk,.int .i64 di,.string dt]) zi15 rfl (by rw [HDb.out];exact ⟨⟨n1,n2,⟨⟨#[]⟩,none,0,[],none,0,[],none,0,[],none,0,[]⟩,⟨n3,n5,n6,cn,ck,cb,⟨dk,di,dt⟩⟩⟩,rfl,⟨tabIs_none _ _,HG8.out⟩,rfl,hSE,hCE⟩)
end
section
open Go.RowKit Go.Lib Go.IntWalk Go.Sort Go.Shelf
theorem info_Ent:(prog.info? 83).map (fun i=>(i.zero,i.size,i.bytes))=some (some (.agg #[.int .i64 0,.string ⟨#[]⟩,.string ⟨#[]⟩,.slice none 0 0,.slice none 0 0,.slice none 0 0,.slice none 0 0,.int .i64 0,.string ⟨#[]⟩,.string ⟨#[]⟩,.string ⟨#[]⟩,.int .i64 0,.bool false,.int .i64 0,.int .i64 0,.string ⟨#[]⟩]),16,240):=by kernel_rfl
theorem getEnt_any (R:Nat) (v:Value) (l:List UInt8) (rd:Int×Int→REn×Int×Int) (f:FuncId) (hf:EntF f) (s:Int×Int) (w:World) (h:SrcAt w R v s) (hv:RdB w (·<R) v l) (hl:l.length≤10000000000) (hmon:Mon l rd)
  (hone:∀s V,SrcAt V R v s→Chg (·=R) w V→Calls prog f #[.pointer (some ⟨R,0,none⟩)] V (OneE (fun x:REn=>.agg x.enc.toArray) enIs REn.er R v (rd s) V)):
  Calls prog 61 #[.pointer (some ⟨R,0,none⟩),.func (.func f) #[] #[]] w (GetE 16 REn.enc enIs REn.er R v (rdL l rd s) w):=by
 exact zq5 0
theorem info_Del:(prog.info? 63).map (fun i=>(i.zero,i.size,i.bytes))=some (some (.agg #[.string ⟨#[]⟩,.slice none 0 0,.slice none 0 0]),3,64):=by kernel_rfl
theorem getDel_any (R:Nat) (v:Value) (l:List UInt8) (rd:Int×Int→RDl×Int×Int) (f:FuncId) (hf:EntF f) (s:Int×Int) (w:World) (h:SrcAt w R v s) (hv:RdB w (·<R) v l) (hl:l.length≤10000000000) (hmon:Mon l rd)
  (hone:∀s V,SrcAt V R v s→Chg (·=R) w V→Calls prog f #[.pointer (some ⟨R,0,none⟩)] V (OneE (fun x:RDl=>.agg x.enc.toArray) delIs RDl.er R v (rd s) V)):
  Calls prog 63 #[.pointer (some ⟨R,0,none⟩),.func (.func f) #[] #[]] w (GetE 3 RDl.enc delIs RDl.er R v (rdL l rd s) w):=by
 exact zq5 4
end
end Go.Proofs.YtbfdegkickjbpaaGreat
