/-
 StC
-/
import Derived.Test.YtbfdegkickjbpaaGreatHDcJ
import Derived.Test.YtbfdegkickjbpaaGreatHDvA
import Derived.Test.YtbfdegkickjbpaaGreatHStA
namespace Go.Proofs.YtbfdegkickjbpaaGreat
set_option maxRecDepth 1000000
set_option maxHeartbeats 32000000
open Go.RowKit Go.Lib Go.IntWalk Go.Sort Go.Shelf
def RTv.er (p:RTv):RTv:=⟨p.table,none,0,p.vers.map verEr⟩
def RSt.er (c:RSt):RSt:=⟨c.tx,c.time,c.wall,c.next,none,0,c.ents.map REn.er,none,0,c.stms,none,0,c.tabs.map RTv.er,none,0,c.pla,none,0,c.pol,none,0,c.hor⟩
def rdStm (l:List UInt8) (s:Int×Int):Stm×Int×Int:=
 let a:=rdI l s
 let b:=rdI l a.2
 (⟨a.1,b.1⟩,b.2)
def rdTv (l:List UInt8) (s:Int×Int):RTv×Int×Int:=
 let a:=rdT l s
 let b:=rdL l (rdVerP l) a.2
 (⟨a.1,none,0,b.1⟩,b.2)
theorem mon_Stm {l:List UInt8}:Mon l (rdStm l):=by
 intro s h
 have h1:=mon_I (rdI l s).2 h
 have h0:=mon_I s h1.1
 refine ⟨h0.1,?_,h1.2.2⟩
 show s.1+1≤(rdI l (rdI l s).2).2.1
 have g0:=h0.2.1
 have g1:=h1.2.1
 omega
theorem mon_Tv {l:List UInt8}:Mon l (rdTv l):=by
 intro s h
 have h1:=mon_L mon_VerP (rdT l s).2 h
 have h0:=mon_T s h1.1
 refine ⟨h0.1,?_,h1.2.2⟩
 show s.1+1≤(rdL l (rdVerP l) (rdT l s).2).2.1
 have g0:=h0.2.1
 have g1:=h1.2.1
 omega
def tvIs (w:World) (F:Nat→Prop) (p:RTv):Prop:=RdE 9 encVP w F (.slice p.A p.vers.length p.C) p.vers∧∀q∈p.vers,verIs w F q
theorem isK_Tv:IsK tvIs:=⟨fun h hk=>⟨Rd.keep h.1 hk,fun q hq=>isK_V.keep (h.2 q hq) hk⟩,fun h hw=>⟨Rd.wide h.1 hw,fun q hq=>isK_V.wide (h.2 q hq) hw⟩⟩
def rdSt (l:List UInt8) (s:Int×Int):RSt×Int×Int:=
 let a:=rdI l s
 let b:=rdI l a.2
 let c:=rdI l b.2
 let d:=rdI l c.2
 let e:=rdL l (rdEnt l) d.2
 let f:=rdL l (rdStm l) e.2
 let g:=rdL l (rdTv l) f.2
 let h:=rdL l (rdHld l) g.2
 let i:=rdL l (rdPol l) h.2
 let j:=rdL l (rdHor l) i.2
 (⟨a.1,b.1,c.1,d.1,none,0,e.1,none,0,f.1,none,0,g.1,none,0,h.1,none,0,i.1,none,0,j.1⟩,j.2)
def RSt.none_:RSt:=⟨0,0,0,0,none,0,[],none,0,[],none,0,[],none,0,[],none,0,[],none,0,[]⟩
def decSt (l:List UInt8):RSt×Int:=
 if endE (rdSt l (0,0)).2 l.length≠0 then (RSt.none_,endE (rdSt l (0,0)).2 l.length)
 else if stateF (rdSt l (0,0)).1≠0 then (RSt.none_,stateF (rdSt l (0,0)).1)
 else ((rdSt l (0,0)).1,0)
theorem ordF_map {α:Type} {ok:α→Int} {le:α→α→Bool} {la:α→Int} {er:α→α} (h1:∀x,ok (er x)=ok x) (h2:∀x y,le (er x) (er y)=le x y) (h3:∀x,la (er x)=la x):∀(l:List α) (p:Option α),ordF ok le la (p.map er) (l.map er)=ordF ok le la p l
 |[],p=>by cases p<;>rfl
 |x::r,p=>by
  have e:=ordF_map h1 h2 h3 r (some x)
  rw [Option.map_some] at e
  rw [List.map_cons,ordF_cons,ordF_cons,h1,h3,e]
  congr 2
  cases p
  ·rfl
  ·simp only [Option.map_some,plA,h2]
theorem stateF_er (c:RSt):stateF c.er=stateF c:=by
 have e1:entsF (c.ents.map REn.er)=entsF c.ents:=ordF_map (ok:=enE) (le:=fun x y=>decide (x.time<y.time)) (la:=fun _=>0) (er:=REn.er) (fun x=>by unfold enE;rw [REn.er_ok]) (fun _ _=>rfl) (fun _=>rfl) c.ents none
 have e3:tabsF (c.tabs.map RTv.er)=tabsF c.tabs:=ordF_map (ok:=tvE) (le:=fun x y=>bleS x.table y.table) (la:=fun x:RTv=>chkFrom none (x.vers.map (fun p:VP=>p.2))) (er:=RTv.er) (fun _=>rfl) (fun _ _=>rfl) (fun x=>by simp only [RTv.er,List.map_map];rfl) c.tabs none
 unfold stateF
 simp only [RSt.er,e1,e3]
 rfl
def DecSO (l:List UInt8) (w0:World) (e:Ending) (w:World):Prop:=
 ∃c:RSt,e=.returned (.tuple #[.agg c.enc.toArray,.int .i64 (decSt l).2])∧c.er=(decSt l).1∧c.is w (fun b=>w0.heap.size≤b∧b<w.heap.size)∧(∀x∈c.ents,∀e∈x.create.chks,exAll w (fun b=>w0.heap.size≤b∧b<w.heap.size) e)∧Below w0.heap.size w0 w
theorem noneS_is (w:World) (F:Nat→Prop):RSt.none_.is w F:=⟨Rd.nil _ _ _,(fun _ hx=>nomatch hx),Rd.nil _ _ _,Rd.nil _ _ _,(fun _ hx=>nomatch hx),Rd.nil _ _ _,Rd.nil _ _ _,Rd.nil _ _ _⟩
theorem decSt_end {l:List UInt8} {c:RSt} {s:Int×Int} (hc:rdSt l (0,0)=(c,s)) (he:endE s l.length≠0):decSt l=(RSt.none_,endE s l.length):=by unfold decSt;rw [hc,if_pos he]
theorem decSt_chk {l:List UInt8} {c:RSt} {s:Int×Int} (hc:rdSt l (0,0)=(c,s)) (he:endE s l.length=0) (hk:stateF c≠0):decSt l=(RSt.none_,stateF c):=by unfold decSt;rw [hc,if_neg (by simpa using he),if_pos hk]
theorem decSt_ok {l:List UInt8} {c:RSt} {s:Int×Int} (hc:rdSt l (0,0)=(c,s)) (he:endE s l.length=0) (hk:stateF c=0):decSt l=(c,0):=by unfold decSt;rw [hc,if_neg (by simpa using he),if_neg (by simpa using hk)]
theorem RSt.is_kw {w w':World} {F G:Nat→Prop} {c:RSt} (h:c.is w F) (hk:Keeps F w w') (hw:∀b,F b→G b):c.is w' G:=
 ⟨Rd.wide (Rd.keep h.ents hk) hw,fun x hx=>⟨RTab.is_kw (h.entI x hx).create hk hw,(h.entI x hx).few,(h.entI x hx).text⟩,Rd.wide (Rd.keep h.stms hk) hw,Rd.wide (Rd.keep h.tabs hk) hw,fun x hx=>(RdVs.keep (h.tabI x hx) hk).wide hw,
  Rd.wide (Rd.keep h.pla hk) hw,Rd.wide (Rd.keep h.pol hk) hw,Rd.wide (Rd.keep h.hor hk) hw⟩
theorem sz_sta (w:World):(Go.sizeOf 47).run Tryz.prog w=.ok 10 w:=by simp [go_sem]
theorem ag_sta (w:World):(isAgg 47).run Tryz.prog w=.ok true w:=by simp [isAgg,go_sem]
theorem rdrStm_any (R:Nat) (v:Value) (l:List UInt8) (s:Int×Int) (w:World) (h:SrcAt w R v s) (hv:RdB w (·<R) v l):
  Calls Tryz.prog 119 #[.pointer (some ⟨R,0,none⟩)] w (OneE (fun x:Stm=>.agg x.enc.toArray) isT id R v (rdStm l s) w):=by
 rcases h1:rdI l s with ⟨n1,s1⟩
 rcases h2:rdI l s1 with ⟨n2,s2⟩
 have hd:rdStm l s=((⟨n1,n2⟩:Stm),s2):=by unfold rdStm;simp only [h1,h2]
 rw [hd]
 obtain ⟨W,hW⟩:∃W,W=w.alloc (.cells #[.int .i64 0,.int .i64 0] 180):=⟨_,rfl⟩
 have hR:=h.lt
 have hbW:Below w.heap.size w W:=by rw [hW];exact Below.of_alloc _
 have hWs:W.heap.size=w.heap.size+1:=by rw [hW];simp
 have hQ:W.heap[w.heap.size]? =some (.cells #[.int .i64 0,.int .i64 0] 180 (0,0)):=by rw [hW];exact heap_alloc_new _ _
 have hS0:SrcAt W.drew R v s:=(h.below hbW).below (Below.refl _ _).drew
 have hC0:Chg (·=R) W W.drew:=(Chg.refl _ _).drew
 have hvW:∀V,Chg (·=R) W V→RdB V (·<R) v l:=fun V hV=>Rd.keep hv (fun b (hb:b<R)=>(hV.block b (by omega) (by omega)).trans (hbW.block b (by omega)))
 have K1:∀V,SrcAt V R v s→Chg (·=R) W V→Calls Tryz.prog 60 #[.pointer (some ⟨R,0,none⟩)] V fun x w'=>x=.returned (.int .i64 n1)∧SrcAt w' R v s1∧Chg (·=R) V w':=fun V hs hV=>by
  have k:=srcInt_any R v l s V hs (hvW V hV)
  rw [h1] at k
  exact k
 have K2:∀V,SrcAt V R v s1→Chg (·=R) W V→Calls Tryz.prog 60 #[.pointer (some ⟨R,0,none⟩)] V fun x w'=>x=.returned (.int .i64 n2)∧SrcAt w' R v s2∧Chg (·=R) V w':=fun V hs hV=>by
  have k:=srcInt_any R v l s1 V hs (hvW V hV)
  rw [h2] at k
  exact k
 have HQ:=hI0 hQ
 have HbW:=hI0 hbW
 clear h hv hd hvW hQ hbW h1 h2
 go_enter Tryz.func119,Tryz.ntmps119
 go_wp2_with fail
 rw [←hW]
 clear hW
 refine wp_region_noPanic ?_
 refine wp_region_held_drew (S:=(fun _:World=>True)) (by kernel_rfl) ?_ (fun hHeld=>?_)
 ·trivial
 refine hT 0 3 hHeld ?_
 simp only [aP]
 refine hT 1 4 hHeld ?_
 simp only [aP]
 refine hT 2 5 hHeld ?_
 simp only [aP]
 refine hT 4 7 hHeld ?_
 simp only [aP]
 refine hT 5 8 hHeld ?_
 simp only [aP]
 refine hT 6 9 hHeld ?_
 simp only [aP]
 refine hC 3 6 ?_
 (with_reducible refine (K1 _ hS0 hC0).mono ?_)
 rintro _ v1 ⟨rfl,hS1,hD1⟩
 have hC1:Chg (·=R) W v1:=hC0.trans hD1 (fun _ _ h=>h)
 refine ⟨_,rfl,keepAnd ?_ (fun hNew=>?_)⟩
 ·trivial
 clear hHeld
 have hHeld:=hNew
 clear hNew
 simp only [aP]
 refine hC 7 10 ?_
 (with_reducible refine (K2 _ hS1 hC1).mono ?_)
 rintro _ v2 ⟨rfl,hS2,hD2⟩
 have hC2:Chg (·=R) W v2:=hC1.trans hD2 (fun _ _ h=>h)
 refine ⟨_,rfl,keepAnd ?_ (fun hNew=>?_)⟩
 ·trivial
 clear hHeld
 have hHeld:=hNew
 clear hNew
 simp only [aP]
 refine hT 8 11 hHeld ?_
 simp only [aP]
 have hNew:(fun _:World=>True) (((v2.setCell ⟨w.heap.size,0,none⟩ (.int .i64 n1)).setCell ⟨w.heap.size,1,none⟩ (.int .i64 n2))):=by trivial
 refine heldSkipRun 9 none (w':=((v2.setCell ⟨w.heap.size,0,none⟩ (.int .i64 n1)).setCell ⟨w.heap.size,1,none⟩ (.int .i64 n2))) rfl rfl (by kernel_rfl) (by rfl) ?_ hNew ?_
 ·have hQn:v2.heap[w.heap.size]? =some (.cells #[.int .i64 0,.int .i64 0] 180 (0,0)):=(hC2.block w.heap.size (by omega) (by omega)).trans HQ.out;have p0:v2.cell? ⟨w.heap.size,0,none⟩=some (.int .i64 0):=cW0 v2 _ 0 _ _ _ hQn;have p1:v2.cell? ⟨w.heap.size,1,none⟩=some (.int .i64 0):=cW0 v2 _ 1 _ _ _ hQn;have g0:v2.frozen? ⟨w.heap.size,0,none⟩=false:=fW0 v2 _ 0 _ _ hQn;have g1:v2.frozen? ⟨w.heap.size,1,none⟩=false:=fW0 v2 _ 1 _ _ hQn;go_simp<;>with_reducible rfl
 clear hHeld
 have hHeld:=hNew
 clear hNew
 simp only [Act.put]
 refine wpAnyH_done (by kernel_rfl) ?_ _
 refine NoPanic.normal ?_
 clear hHeld
 have hQn:v2.heap[w.heap.size]? =some (.cells #[.int .i64 0,.int .i64 0] 180 (0,0)):=(hC2.block w.heap.size (by omega) (by omega)).trans HQ.out
 have hY9:=set2_at hQn (.int .i64 n1) (.int .i64 n2)
 have hYc:=set2_chg v2 w.heap.size (.int .i64 n1) (.int .i64 n2)
 generalize ((v2.setCell ⟨w.heap.size,0,none⟩ (.int .i64 n1)).setCell ⟨w.heap.size,1,none⟩ (.int .i64 n2))=Y at *
 have p0:Y.cell? ⟨w.heap.size,0,none⟩=some (.int .i64 n1):=cW0 Y _ 0 _ _ _ hY9
 have p1:Y.cell? ⟨w.heap.size,1,none⟩=some (.int .i64 n2):=cW0 Y _ 1 _ _ _ hY9
 have hzY:=hYc.size
 have hz1:=hD1.size
 have hz2:=hD2.size
 have hzc0:=hC0.size
 have hSY:SrcAt Y R v s2:=(hYc.block R (by have:=hS2.lt;exact this) (by show R≠w.heap.size;omega)).trans hS2
 have hCY:Chg (·=R) w Y:=((Chg.of_below HbW.out _).trans hC2 (fun _ _ h=>h)).trans hYc (fun i hi (h:i=w.heap.size)=>by omega)
 have HSY:=hI0 hSY
 have HCY:=hI0 hCY
 clear hSY hCY hQn hY9 hYc hS0 hC0 hS1 hC1 hD1 hz1 hS2 hC2 hD2 hz2
 go_wp2_with fail
 exact bodyPost_ret (v:=.agg #[.int .i64 n1,.int .i64 n2]) (by simp [results,Tryz.results119,go_sem,p0,p1]) rfl ⟨⟨n1,n2⟩,rfl,trivial,by first|rfl|(simp [id];done),HSY.out,HCY.out⟩
theorem rdrTv_any (R:Nat) (v:Value) (l:List UInt8) (s:Int×Int) (w:World) (h:SrcAt w R v s) (hv:RdB w (·<R) v l) (hl:l.length≤10000000000):
  Calls Tryz.prog 121 #[.pointer (some ⟨R,0,none⟩)] w (OneE (fun x:RTv=>.agg x.enc.toArray) tvIs RTv.er R v (rdTv l s) w):=by
 rcases h1:rdT l s with ⟨n1,s1⟩
 rcases h2:rdL l (rdVerP l) s1 with ⟨xs2,s2⟩
 have hd:rdTv l s=((⟨n1,none,0,xs2⟩:RTv),s2):=by unfold rdTv;simp only [h1,h2]
 rw [hd]
 obtain ⟨W,hW⟩:∃W,W=w.alloc (.cells #[.string ⟨#[]⟩,.slice none 0 0] 165):=⟨_,rfl⟩
 have hR:=h.lt
 have hbW:Below w.heap.size w W:=by rw [hW];exact Below.of_alloc _
 have hWs:W.heap.size=w.heap.size+1:=by rw [hW];simp
 have hQ:W.heap[w.heap.size]? =some (.cells #[.string ⟨#[]⟩,.slice none 0 0] 165 (0,0)):=by rw [hW];exact heap_alloc_new _ _
 have hS0:SrcAt W R v s:=h.below hbW
 have hC0:Chg (·=R) W W:=Chg.refl _ _
 have hvW:∀V,Chg (·=R) W V→RdB V (·<R) v l:=fun V hV=>Rd.keep hv (fun b (hb:b<R)=>(hV.block b (by omega) (by omega)).trans (hbW.block b (by omega)))
 have K1:∀V,SrcAt V R v s→Chg (·=R) W V→Calls Tryz.prog 122 #[.pointer (some ⟨R,0,none⟩)] V fun x w'=>x=.returned (.string n1)∧SrcAt w' R v s1∧Chg (·=R) V w':=fun V hs hV=>by
  have k:=srcText_any R v l s V hs (hvW V hV)
  rw [h1] at k
  exact k
 have K2:∀V,SrcAt V R v s1→Chg (·=R) W V→Calls Tryz.prog 123 #[.pointer (some ⟨R,0,none⟩),.func (.func 124) #[] #[]] V (GetE 9 encVP verIs verEr R v (xs2,s2) V):=fun V hs hV=>by
  have k:=getVer_any R v l (rdVerP l) 124 (entF Tryz.func124) s1 V hs (hvW V hV) hl mon_VerP (fun s U hsU hU=>rdrVer_any R v l s U hsU (hvW U (hV.trans hU (fun _ _ h=>h))))
  rw [h2] at k
  exact k
 have HQ:=hI0 hQ
 have HbW:=hI0 hbW
 clear h hv hd hvW hQ hbW h1 h2
 go_enter Tryz.func121,Tryz.ntmps121
 go_wp2_with fail
 try rw [←hW]
 clear hW
 (with_reducible refine (K1 _ hS0 hC0).mono ?_)
 rintro _ v1 ⟨rfl,hS1,hD1⟩
 have hC1:Chg (·=R) W v1:=hC0.trans hD1 (fun _ _ h=>h)
 go_wp2_with fail
 (with_reducible refine (K2 _ hS1 hC1).mono ?_)
 rintro _ v2 ⟨u2,Q2,rfl,hU2,hI2,hE2,hS2,hD2⟩
 obtain ⟨A2,c2,rfl⟩:=rdE_slice hU2
 have HU2:=hI0 hU2
 have HI2:=hI0 hI2
 have HE2:=hI0 hE2
 clear hU2 hI2 hE2
 have hC2:Chg (·=R) W v2:=hC1.trans hD2 (fun _ _ h=>h)
 have hQn:v2.heap[w.heap.size]? =some (.cells #[.string ⟨#[]⟩,.slice none 0 0] 165 (0,0)):=(hC2.block w.heap.size (by omega) (by omega)).trans HQ.out
 have p0:v2.cell? ⟨w.heap.size,0,none⟩=some (.string ⟨#[]⟩):=cW0 v2 _ 0 _ _ _ hQn
 have p1:v2.cell? ⟨w.heap.size,1,none⟩=some (.slice none 0 0):=cW0 v2 _ 1 _ _ _ hQn
 have g0:v2.frozen? ⟨w.heap.size,0,none⟩=false:=fW0 v2 _ 0 _ _ hQn
 have g1:v2.frozen? ⟨w.heap.size,1,none⟩=false:=fW0 v2 _ 1 _ _ hQn
 go_wp2_with fail
 have hY9:=set2_at hQn (.string n1) (.slice A2 Q2.length c2)
 have hYc:=set2_chg v2 w.heap.size (.string n1) (.slice A2 Q2.length c2)
 clear p0 g0 p1 g1
 generalize ((v2.setCell ⟨w.heap.size,0,none⟩ (.string n1)).setCell ⟨w.heap.size,1,none⟩ (.slice A2 Q2.length c2))=Y at *
 have p0:Y.cell? ⟨w.heap.size,0,none⟩=some (.string n1):=cW0 Y _ 0 _ _ _ hY9
 have p1:Y.cell? ⟨w.heap.size,1,none⟩=some (.slice A2 Q2.length c2):=cW0 Y _ 1 _ _ _ hY9
 have hzY:=hYc.size
 have hz1:=hD1.size
 have hz2:=hD2.size
 have hzc0:=hC0.size
 have hk2:=fr_keep (v:=v1) (Chg.refl (·=R) v2) hYc (by have:=hC1.size;omega) (by have:=hC1.size;omega)
 have hw2:=fr_wide (w:=w) (v:=v1) (v':=v2) (Y:=Y) (by have:=hC1.size;omega) (by omega)
 have hRw2:RdE 9 encVP Y (fun b=>w.heap.size≤b∧b<Y.heap.size) (.slice A2 Q2.length c2) Q2:=Rd.wide (Rd.keep HU2.out hk2) hw2
 have hRi2:∀p∈Q2,verIs Y (fun b=>w.heap.size≤b∧b<Y.heap.size) p:=fun p hp=>isK_V.wide (isK_V.keep (HI2.out p hp) hk2) hw2
 have hSY:SrcAt Y R v s2:=(hYc.block R (by have:=hS2.lt;exact this) (by show R≠w.heap.size;omega)).trans hS2
 have hCY:Chg (·=R) w Y:=((Chg.of_below HbW.out _).trans hC2 (fun _ _ h=>h)).trans hYc (fun i hi (h:i=w.heap.size)=>by omega)
 have HSY:=hI0 hSY
 have HCY:=hI0 hCY
 have HRw2:=hI0 hRw2
 have HRi2:=hI0 hRi2
 clear hSY hCY hQn hY9 hYc hS0 hC0 hS1 hC1 hD1 hz1 hS2 hC2 hD2 hz2 hk2 hw2 hRw2 hRi2
 exact bodyPost_ret (v:=.agg #[.string n1,.slice A2 Q2.length c2]) (by simp [results,Tryz.results121,go_sem,p0,p1]) rfl ⟨⟨n1,A2,c2,Q2⟩,rfl,⟨HRw2.out,HRi2.out⟩,by first|rfl|(simp [RTv.er,HE2.out];done),HSY.out,HCY.out⟩
theorem info_Stm:(Tryz.prog.info? 180).map (fun i=>(i.zero,i.size,i.bytes))=some (some (.agg #[.int .i64 0,.int .i64 0]),2,16):=by kernel_rfl
theorem getStm_any (R:Nat) (v:Value) (l:List UInt8) (rd:Int×Int→Stm×Int×Int) (f:FuncId) (hf:EntF f) (s:Int×Int) (w:World) (h:SrcAt w R v s) (hv:RdB w (·<R) v l) (hl:l.length≤10000000000) (hmon:Mon l rd)
  (hone:∀s V,SrcAt V R v s→Chg (·=R) w V→Calls Tryz.prog f #[.pointer (some ⟨R,0,none⟩)] V (OneE (fun x:Stm=>.agg x.enc.toArray) isT id R v (rd s) V)):
  Calls Tryz.prog 118 #[.pointer (some ⟨R,0,none⟩),.func (.func f) #[] #[]] w (GetE 2 Stm.enc isT id R v (rdL l rd s) w):=by
 rcases h1:rdI l s with ⟨n,k1,e1⟩
 have hR:=h.lt
 have KI:Calls Tryz.prog 60 #[.pointer (some ⟨R,0,none⟩)] w fun x w'=>x=.returned (.int .i64 n)∧SrcAt w' R v (k1,e1)∧Chg (·=R) w w':=by
  have k:=srcInt_any R v l s w h hv
  rw [h1] at k
  exact k
 have KV:∀s x s' V,rd s=(x,s')→SrcAt V R v s→Chg (·=R) w V→Calls Tryz.prog f #[.pointer (some ⟨R,0,none⟩)] V fun e w'=>∃x1 x2,e=.returned (.agg #[.int .i64 x1,.int .i64 x2])∧isT w' (fun b=>V.heap.size≤b∧b<w'.heap.size) (⟨x1,x2⟩:Stm)∧id (⟨x1,x2⟩:Stm)=x∧SrcAt w' R v s'∧Chg (·=R) V w':=fun s x s' V he hs hV=>by
  have k:=hone s V hs hV
  rw [he] at k
  exact k.mono fun e w' ⟨r,a1,a2,a3,a4,a5⟩=>by
   obtain ⟨x1,x2⟩:=r
   exact ⟨_,_,a1,a2,a3,a4,a5⟩
 clear h hv hone
 by_cases hneg:e1=0∧n<0
 case pos=>
  obtain ⟨rfl,hn⟩:=hneg
  rw [show rdL l rd s=([],k1,1) from by unfold rdL;rw [h1];exact if_pos ⟨rfl,hn⟩]
  clear KV h1 hf
  go_enter Tryz.func118,Tryz.ntmps118
  go_wp2_with fail
  (with_reducible refine KI.mono ?_)
  rintro _ w1 ⟨rfl,hs1,hc1⟩
  have c2:w1.cell? ⟨R,2,none⟩=some (.int .i64 0):=cW0 w1 R 2 _ _ _ hs1
  have f2:w1.frozen? ⟨R,2,none⟩=false:=fW0 w1 R 2 _ _ hs1
  have HS1:=hI0 hs1
  have HC1:=hI0 hc1
  clear hs1 hc1 KI
  go_wp2_with fail
  go_loopw [6,7] (fun o i wr=>o=.slice none 0 0∧i=.int .i64 0∧wr=w1.setCell ⟨R,2,none⟩ (.int .i64 1)) (fun _ _ _=>0)
  case atStart=>exact ⟨rfl,rfl,rfl⟩
  obtain ⟨rfl,rfl,hw⟩:=hrel
  rw [hw]
  clear hw
  have hnn:¬(0:Int)<n:=by omega
  go_wp2_with fail
  go_ret
  exact ⟨_,[],rfl,Rd.nil _ _ _,(fun p hp=>by cases hp),rfl,HS1.out.set2 1,Chg.setCell (S:=(·=R)) (p:=⟨R,2,none⟩) HC1.out (.inl rfl) _⟩
 have hn0:0≤n:=by
  by_cases he:e1=0
  ·have:¬n<0:=fun h=>hneg ⟨he,h⟩
   omega
  ·have:=rdI_err (l:=l) (s:=s) (by rw [h1];exact he)
   rw [h1] at this
   simp only at this
   omega
 obtain ⟨N,rfl⟩:=Int.eq_ofNat_of_zero_le hn0
 have hbd:=decI_bd l s.1
 have hN:(N:Int)≤9223372036854775807:=by
  have e:(N:Int)=(rdI l s).1:=by rw [h1]
  rw [e]
  unfold rdI rdS
  split
  ·omega
  ·split<;>exact hbd.2.1
 have hk1:e1=0→0≤k1∧k1≤l.length:=fun he=>by
  subst he
  have g:=rdI_mono h1
  obtain ⟨a,r,hl2,_,hm⟩:=decI_got g.2.2
  have:l.length=(a++encI N).length+r.length:=by rw [hl2];simp [Nat.add_assoc]
  omega
 rw [show rdL l rd s=getS rd N (k1,e1) from by unfold rdL;rw [h1];exact if_neg hneg]
 obtain ⟨res,hres⟩:∃r,r=getS rd N (k1,e1):=⟨_,rfl⟩
 rw [←hres]
 have HRES:=hI0 hres
 have HNEG:=hI0 hneg
 have HK1:=hI0 hk1
 obtain ⟨i0,hi,hz0,hz1,hz2⟩:=info_parts info_Stm
 have HI:=hI0 hi
 have HZ0:=hI0 hz0
 have HZ1:=hI0 hz1
 have HZ2:=hI0 hz2
 have KK:=hI0 KV
 have HMON:=hI0 hmon
 have HF_:=hI0 hf
 clear hf hi hz0 hz1 hz2 hres hneg hk1 hbd h1 KV hn0 hmon
 go_enter Tryz.func118,Tryz.ntmps118
 go_wp2_with fail
 (with_reducible refine KI.mono ?_)
 rintro _ w1 ⟨rfl,hs1,hc1⟩
 have c2:w1.cell? ⟨R,2,none⟩=some (.int .i64 e1):=cW0 w1 R 2 _ _ _ hs1
 have HS1:=hI0 hs1
 have HC1:=hI0 hc1
 clear hs1 hc1 KI
 have hcond:e1=0→¬(N:Int)<0:=fun _=>by omega
 have hN0:¬(N:Int)<0:=by omega
 go_wp2_with fail
 all_goals skip
 all_goals
  go_loopw [6,7] (fun o i wr=>∃(i':Nat) (Q:List Stm) (st:Int×Int),i=.int .i64 (i':Int)∧i'≤N∧Q.length=i'∧Hid (OwnE 180 2 Stm.enc wr w.heap.size o Q)∧Hid (∀p∈Q,isT wr (fun b=>w.heap.size≤b∧b<wr.heap.size∧some b≠Value.ownBlock o) p)∧Hid (SrcAt wr R v st)∧Hid (Chg (·=R) w wr)∧Hid ((Q.map id++(getS rd (N-i') st).1,(getS rd (N-i') st).2)=res)∧i'≤l.length+1∧(st.2=0→(i':Int)≤st.1∧st.1≤l.length)) (fun _ i _=>N-(intOf i).toNat)
  case atStart=>exact ⟨0,[],(k1,e1),rfl,Nat.zero_le _,rfl,hI0 (World.ownsRow_nil _ _ _ _),hI0 (fun p hp=>by cases hp),HS1,HC1,hI0 HRES.out.symm,by omega,HK1.out⟩
  obtain ⟨i',Q,⟨k,er⟩,rfl,hi',hQl,HO,HR,HS,HC,HG,hil,hik⟩:=hrel
  obtain ⟨wi,rfl⟩:∃wi:World,wi=wr:=⟨_,rfl⟩
  obtain ⟨Ao,co,rfl,o1,o2,o3⟩:=Rd.open_ (Rd.of_own HO.out)
  rw [hQl] at o1
  have HRd:Hid (RdE 2 Stm.enc wi (fun b=>w.heap.size≤b∧b<wi.heap.size) (.slice Ao i' co) Q∧∀p∈Q,isT wi (fun b=>w.heap.size≤b∧b<wi.heap.size) p):=hI0 (by rw [←hQl];exact ⟨(Rd.of_own HO.out),fun p hp=>isK_T.wide (HR.out p hp) fun b hb=>⟨hb.1,hb.2.1⟩⟩)
  have c2:wi.cell? ⟨R,2,none⟩=some (.int .i64 er):=cW0 wi R 2 _ _ _ HS.out
  clear o3 o2
  by_cases hlt:i'<N
  case neg=>
   have hie:i'=N:=by omega
   have hil2:¬(i':Int)<(N:Int):=by omega
   have HF:Hid (res=(Q.map id,(k,er))):=hI0 (by rw [←HG.out,getS_stop (.inl (by omega))];simp)
   have HIE:=hI0 hie
   go_wp2_with fail
   go_ret
   rw [HF.out]
   exact ⟨_,Q,rfl,(by first|exact HRd.out.1|(have h:=HRd.out.1;rw [HIE.out] at h;exact h)),HRd.out.2,rfl,HS.out,HC.out⟩
  have hil2:(i':Int)<(N:Int):=by omega
  by_cases her:er=0
  case neg=>
   have HF:Hid (res=(Q.map id,(k,er))):=hI0 (by rw [←HG.out,getS_stop (.inr her)];simp)
   go_wp2_with fail
   go_ret
   rw [HF.out]
   exact ⟨_,Q,rfl,HRd.out.1,HRd.out.2,rfl,HS.out,HC.out⟩
  subst her
  have hik2:=hik rfl
  simp only at hik2
  rcases hx:rd (k,0) with ⟨x,st'⟩
  have hst:st'.2=0→(i':Int)+1≤st'.1∧st'.1≤l.length:=fun he=>by
   have:=HMON.out (k,0) (by rw [hx];exact he)
   rw [hx] at this
   simp only at this
   omega
  have KV:=KK.out (k,0) x st' wi hx HS.out HC.out
  have hgs:getS rd (N-i') (k,0)=(x::(getS rd (N-(i'+1)) st').1,(getS rd (N-(i'+1)) st').2):=by
   rw [show N-i'=(N-(i'+1))+1 by omega]
   exact getS_step rfl hx
  have HGS:=hI0 hgs
  have HST:=hI0 hst
  have HN:=hI0 (And.intro hil hik2)
  clear hgs hst hx hik hik2
  have hent:∀(args:Array Value) (V:World),(callFunc f args).run Tryz.prog V=.ok (.enter f args) V:=HF_.out
  go_wp2_with fail
  (with_reducible refine KV.mono ?_)
  rintro _ w2 ⟨x1,x2,rfl,hX,hxe,hs2,hc2⟩
  have hz2:=hc2.size
  have HX:=hI0 hX
  have HXE:=hI0 hxe
  have HS2:=hI0 hs2
  have HC2:=hI0 hc2
  clear hX hxe hs2 hc2 KV hent
  have hwi:w.heap.size≤wi.heap.size:=HC.out.size
  have HOA:=hI0 (getA (O:=(.cells #[.int .i64 x1,.int .i64 x2] 180)) hQl hR HO.out HC2.out)
  have HNEW:=hI0 (Rd.new' w2 w2.heap.size rfl [.int .i64 x1,.int .i64 x2] 180 2 1 rfl (by decide))
  have hi5:i'≤10000000001:=by have:=HN.out.1;omega
  go_wp2_with (at_builtin;refine wpList_append_app (w2.alloc (.cells #[.int .i64 x1,.int .i64 x2] 180)) rfl (.tmp 39) (.tmp 43) 44 rfl w.heap.size 180 i0 _ 2 16 Tryz.underlying44 HI.out HZ0.out HZ1.out HZ2.out rfl (by omega) (.slice Ao i' co) i' (Q.flatMap Stm.enc) rfl (.inl HOA.out) (·=w2.heap.size) _ 1 [.int .i64 x1,.int .i64 x2] rfl HNEW.out (fun u hu=>by simp only [List.mem_cons,List.not_mem_nil,or_false] at hu;rcases hu with rfl|rfl<;>rfl) (by unfold maxLen;omega) (by omega) (by simp;omega) ?_;intro v3 w3 _ hO3 hg3 hb3 hv3)
  all_goals skip
  have HB4:=hI0 (getB (x:=(⟨x1,x2⟩:Stm)) isK_T hQl hR HO.out HR.out HC.out HX.out HS2.out HC2.out (hO3 (.inl (by omega))) hg3 hv3)
  clear hO3 hg3 hb3 hv3
  go_wp2_with fail
  go_roundw
  case rel=>
   refine ⟨i'+1,Q++[(⟨x1,x2⟩:Stm)],st',by go_num,by omega,by simp [hQl],hI0 HB4.out.1,hI0 HB4.out.2.1,hI0 HB4.out.2.2.1,hI0 HB4.out.2.2.2,hI0 ?_,?_,?_⟩
   ·rw [←HG.out,HGS.out,List.map_append,List.map_singleton,HXE.out];simp
   ·have:=HN.out;omega
   ·intro he;have:=HST.out he;omega
  case measure=>simp [intOf];omega
theorem info_Tv:(Tryz.prog.info? 165).map (fun i=>(i.zero,i.size,i.bytes))=some (some (.agg #[.string ⟨#[]⟩,.slice none 0 0]),2,40):=by kernel_rfl
theorem getTv_any (R:Nat) (v:Value) (l:List UInt8) (rd:Int×Int→RTv×Int×Int) (f:FuncId) (hf:EntF f) (s:Int×Int) (w:World) (h:SrcAt w R v s) (hv:RdB w (·<R) v l) (hl:l.length≤10000000000) (hmon:Mon l rd)
  (hone:∀s V,SrcAt V R v s→Chg (·=R) w V→Calls Tryz.prog f #[.pointer (some ⟨R,0,none⟩)] V (OneE (fun x:RTv=>.agg x.enc.toArray) tvIs RTv.er R v (rd s) V)):
  Calls Tryz.prog 120 #[.pointer (some ⟨R,0,none⟩),.func (.func f) #[] #[]] w (GetE 2 RTv.enc tvIs RTv.er R v (rdL l rd s) w):=by
 rcases h1:rdI l s with ⟨n,k1,e1⟩
 have hR:=h.lt
 have KI:Calls Tryz.prog 60 #[.pointer (some ⟨R,0,none⟩)] w fun x w'=>x=.returned (.int .i64 n)∧SrcAt w' R v (k1,e1)∧Chg (·=R) w w':=by
  have k:=srcInt_any R v l s w h hv
  rw [h1] at k
  exact k
 have KV:∀s x s' V,rd s=(x,s')→SrcAt V R v s→Chg (·=R) w V→Calls Tryz.prog f #[.pointer (some ⟨R,0,none⟩)] V fun e w'=>∃xt xA xc xv,e=.returned (.agg #[.string xt,.slice xA xv.length xc])∧tvIs w' (fun b=>V.heap.size≤b∧b<w'.heap.size) (⟨xt,xA,xc,xv⟩:RTv)∧RTv.er (⟨xt,xA,xc,xv⟩:RTv)=x∧SrcAt w' R v s'∧Chg (·=R) V w':=fun s x s' V he hs hV=>by
  have k:=hone s V hs hV
  rw [he] at k
  exact k.mono fun e w' ⟨r,a1,a2,a3,a4,a5⟩=>by
   obtain ⟨xt,xA,xc,xv⟩:=r
   exact ⟨_,_,_,_,a1,a2,a3,a4,a5⟩
 clear h hv hone
 by_cases hneg:e1=0∧n<0
 case pos=>
  obtain ⟨rfl,hn⟩:=hneg
  rw [show rdL l rd s=([],k1,1) from by unfold rdL;rw [h1];exact if_pos ⟨rfl,hn⟩]
  clear KV h1 hf
  go_enter Tryz.func120,Tryz.ntmps120
  go_wp2_with fail
  (with_reducible refine KI.mono ?_)
  rintro _ w1 ⟨rfl,hs1,hc1⟩
  have c2:w1.cell? ⟨R,2,none⟩=some (.int .i64 0):=cW0 w1 R 2 _ _ _ hs1
  have f2:w1.frozen? ⟨R,2,none⟩=false:=fW0 w1 R 2 _ _ hs1
  have HS1:=hI0 hs1
  have HC1:=hI0 hc1
  clear hs1 hc1 KI
  go_wp2_with fail
  go_loopw [6,7] (fun o i wr=>o=.slice none 0 0∧i=.int .i64 0∧wr=w1.setCell ⟨R,2,none⟩ (.int .i64 1)) (fun _ _ _=>0)
  case atStart=>exact ⟨rfl,rfl,rfl⟩
  obtain ⟨rfl,rfl,hw⟩:=hrel
  rw [hw]
  clear hw
  have hnn:¬(0:Int)<n:=by omega
  go_wp2_with fail
  go_ret
  exact ⟨_,[],rfl,Rd.nil _ _ _,(fun p hp=>by cases hp),rfl,HS1.out.set2 1,Chg.setCell (S:=(·=R)) (p:=⟨R,2,none⟩) HC1.out (.inl rfl) _⟩
 have hn0:0≤n:=by
  by_cases he:e1=0
  ·have:¬n<0:=fun h=>hneg ⟨he,h⟩
   omega
  ·have:=rdI_err (l:=l) (s:=s) (by rw [h1];exact he)
   rw [h1] at this
   simp only at this
   omega
 obtain ⟨N,rfl⟩:=Int.eq_ofNat_of_zero_le hn0
 have hbd:=decI_bd l s.1
 have hN:(N:Int)≤9223372036854775807:=by
  have e:(N:Int)=(rdI l s).1:=by rw [h1]
  rw [e]
  unfold rdI rdS
  split
  ·omega
  ·split<;>exact hbd.2.1
 have hk1:e1=0→0≤k1∧k1≤l.length:=fun he=>by
  subst he
  have g:=rdI_mono h1
  obtain ⟨a,r,hl2,_,hm⟩:=decI_got g.2.2
  have:l.length=(a++encI N).length+r.length:=by rw [hl2];simp [Nat.add_assoc]
  omega
 rw [show rdL l rd s=getS rd N (k1,e1) from by unfold rdL;rw [h1];exact if_neg hneg]
 obtain ⟨res,hres⟩:∃r,r=getS rd N (k1,e1):=⟨_,rfl⟩
 rw [←hres]
 have HRES:=hI0 hres
 have HNEG:=hI0 hneg
 have HK1:=hI0 hk1
 obtain ⟨i0,hi,hz0,hz1,hz2⟩:=info_parts info_Tv
 have HI:=hI0 hi
 have HZ0:=hI0 hz0
 have HZ1:=hI0 hz1
 have HZ2:=hI0 hz2
 have KK:=hI0 KV
 have HMON:=hI0 hmon
 have HF_:=hI0 hf
 clear hf hi hz0 hz1 hz2 hres hneg hk1 hbd h1 KV hn0 hmon
 go_enter Tryz.func120,Tryz.ntmps120
 go_wp2_with fail
 (with_reducible refine KI.mono ?_)
 rintro _ w1 ⟨rfl,hs1,hc1⟩
 have c2:w1.cell? ⟨R,2,none⟩=some (.int .i64 e1):=cW0 w1 R 2 _ _ _ hs1
 have HS1:=hI0 hs1
 have HC1:=hI0 hc1
 clear hs1 hc1 KI
 have hcond:e1=0→¬(N:Int)<0:=fun _=>by omega
 have hN0:¬(N:Int)<0:=by omega
 go_wp2_with fail
 all_goals skip
 all_goals
  go_loopw [6,7] (fun o i wr=>∃(i':Nat) (Q:List RTv) (st:Int×Int),i=.int .i64 (i':Int)∧i'≤N∧Q.length=i'∧Hid (OwnE 165 2 RTv.enc wr w.heap.size o Q)∧Hid (∀p∈Q,tvIs wr (fun b=>w.heap.size≤b∧b<wr.heap.size∧some b≠Value.ownBlock o) p)∧Hid (SrcAt wr R v st)∧Hid (Chg (·=R) w wr)∧Hid ((Q.map RTv.er++(getS rd (N-i') st).1,(getS rd (N-i') st).2)=res)∧i'≤l.length+1∧(st.2=0→(i':Int)≤st.1∧st.1≤l.length)) (fun _ i _=>N-(intOf i).toNat)
  case atStart=>exact ⟨0,[],(k1,e1),rfl,Nat.zero_le _,rfl,hI0 (World.ownsRow_nil _ _ _ _),hI0 (fun p hp=>by cases hp),HS1,HC1,hI0 HRES.out.symm,by omega,HK1.out⟩
  obtain ⟨i',Q,⟨k,er⟩,rfl,hi',hQl,HO,HR,HS,HC,HG,hil,hik⟩:=hrel
  obtain ⟨wi,rfl⟩:∃wi:World,wi=wr:=⟨_,rfl⟩
  obtain ⟨Ao,co,rfl,o1,o2,o3⟩:=Rd.open_ (Rd.of_own HO.out)
  rw [hQl] at o1
  have HRd:Hid (RdE 2 RTv.enc wi (fun b=>w.heap.size≤b∧b<wi.heap.size) (.slice Ao i' co) Q∧∀p∈Q,tvIs wi (fun b=>w.heap.size≤b∧b<wi.heap.size) p):=hI0 (by rw [←hQl];exact ⟨(Rd.of_own HO.out),fun p hp=>isK_Tv.wide (HR.out p hp) fun b hb=>⟨hb.1,hb.2.1⟩⟩)
  have c2:wi.cell? ⟨R,2,none⟩=some (.int .i64 er):=cW0 wi R 2 _ _ _ HS.out
  clear o3 o2
  by_cases hlt:i'<N
  case neg=>
   have hie:i'=N:=by omega
   have hil2:¬(i':Int)<(N:Int):=by omega
   have HF:Hid (res=(Q.map RTv.er,(k,er))):=hI0 (by rw [←HG.out,getS_stop (.inl (by omega))];simp)
   have HIE:=hI0 hie
   go_wp2_with fail
   go_ret
   rw [HF.out]
   exact ⟨_,Q,rfl,(by first|exact HRd.out.1|(have h:=HRd.out.1;rw [HIE.out] at h;exact h)),HRd.out.2,rfl,HS.out,HC.out⟩
  have hil2:(i':Int)<(N:Int):=by omega
  by_cases her:er=0
  case neg=>
   have HF:Hid (res=(Q.map RTv.er,(k,er))):=hI0 (by rw [←HG.out,getS_stop (.inr her)];simp)
   go_wp2_with fail
   go_ret
   rw [HF.out]
   exact ⟨_,Q,rfl,HRd.out.1,HRd.out.2,rfl,HS.out,HC.out⟩
  subst her
  have hik2:=hik rfl
  simp only at hik2
  rcases hx:rd (k,0) with ⟨x,st'⟩
  have hst:st'.2=0→(i':Int)+1≤st'.1∧st'.1≤l.length:=fun he=>by
   have:=HMON.out (k,0) (by rw [hx];exact he)
   rw [hx] at this
   simp only at this
   omega
  have KV:=KK.out (k,0) x st' wi hx HS.out HC.out
  have hgs:getS rd (N-i') (k,0)=(x::(getS rd (N-(i'+1)) st').1,(getS rd (N-(i'+1)) st').2):=by
   rw [show N-i'=(N-(i'+1))+1 by omega]
   exact getS_step rfl hx
  have HGS:=hI0 hgs
  have HST:=hI0 hst
  have HN:=hI0 (And.intro hil hik2)
  clear hgs hst hx hik hik2
  have hent:∀(args:Array Value) (V:World),(callFunc f args).run Tryz.prog V=.ok (.enter f args) V:=HF_.out
  go_wp2_with fail
  (with_reducible refine KV.mono ?_)
  rintro _ w2 ⟨xt,xA,xc,xv,rfl,hX,hxe,hs2,hc2⟩
  have hz2:=hc2.size
  have HX:=hI0 hX
  have HXE:=hI0 hxe
  have HS2:=hI0 hs2
  have HC2:=hI0 hc2
  clear hX hxe hs2 hc2 KV hent
  have hwi:w.heap.size≤wi.heap.size:=HC.out.size
  have HOA:=hI0 (getA (O:=(.cells #[.string xt,.slice xA xv.length xc] 165)) hQl hR HO.out HC2.out)
  have HNEW:=hI0 (Rd.new' w2 w2.heap.size rfl [.string xt,.slice xA xv.length xc] 165 2 1 rfl (by decide))
  have hi5:i'≤10000000001:=by have:=HN.out.1;omega
  go_wp2_with (at_builtin;refine wpList_append_app (w2.alloc (.cells #[.string xt,.slice xA xv.length xc] 165)) rfl (.tmp 39) (.tmp 43) 45 rfl w.heap.size 165 i0 _ 2 40 Tryz.underlying45 HI.out HZ0.out HZ1.out HZ2.out rfl (by omega) (.slice Ao i' co) i' (Q.flatMap RTv.enc) rfl (.inl HOA.out) (·=w2.heap.size) _ 1 [.string xt,.slice xA xv.length xc] rfl HNEW.out (fun u hu=>by simp only [List.mem_cons,List.not_mem_nil,or_false] at hu;rcases hu with rfl|rfl<;>rfl) (by unfold maxLen;omega) (by omega) (by simp;omega) ?_;intro v3 w3 _ hO3 hg3 hb3 hv3)
  all_goals skip
  have HB4:=hI0 (getB (x:=(⟨xt,xA,xc,xv⟩:RTv)) isK_Tv hQl hR HO.out HR.out HC.out HX.out HS2.out HC2.out (hO3 (.inl (by omega))) hg3 hv3)
  clear hO3 hg3 hb3 hv3
  go_wp2_with fail
  go_roundw
  case rel=>
   refine ⟨i'+1,Q++[(⟨xt,xA,xc,xv⟩:RTv)],st',by go_num,by omega,by simp [hQl],hI0 HB4.out.1,hI0 HB4.out.2.1,hI0 HB4.out.2.2.1,hI0 HB4.out.2.2.2,hI0 ?_,?_,?_⟩
   ·rw [←HG.out,HGS.out,List.map_append,List.map_singleton,HXE.out];simp
   ·have:=HN.out;omega
   ·intro he;have:=HST.out he;omega
  case measure=>simp [intOf];omega
theorem decodeState_any (v:Value) (l:List UInt8) (w:World) (hv:RdB w (·<w.heap.size) v l) (hl:l.length≤10000000000):
  Calls Tryz.prog 26 #[v] w (DecSO l w):=by
 obtain ⟨Av,cv,rfl,v1,v2,v3⟩:=hv.open_
 have HV3:=hI0 v3
 clear v3
 obtain ⟨R,hRe⟩:∃R,R=w.heap.size+1:=⟨_,rfl⟩
 obtain ⟨W,hW⟩:∃W,W=(w.alloc (.cells #[.int .i64 0,.int .i64 0,.int .i64 0,.int .i64 0,.slice none 0 0,.slice none 0 0,.slice none 0 0,.slice none 0 0,.slice none 0 0,.slice none 0 0] 47)).alloc (.cells #[.slice Av l.length cv,.int .i64 0,.int .i64 0] 130):=⟨_,rfl⟩
 have hbW:Below w.heap.size w W:=by rw [hW];exact (Below.of_alloc _).alloc (by simp) _
 have hWs:W.heap.size=w.heap.size+2:=by rw [hW];simp
 have hQ:W.heap[w.heap.size]? =some (.cells #[.int .i64 0,.int .i64 0,.int .i64 0,.int .i64 0,.slice none 0 0,.slice none 0 0,.slice none 0 0,.slice none 0 0,.slice none 0 0,.slice none 0 0] 47 (0,0)):=by rw [hW];exact (Below.heap_alloc _ _ _ (by simp)).trans (heap_alloc_new _ _)
 have hS00:SrcAt W R (.slice Av l.length cv) (0,0):=by
  have h:=heap_alloc_new (w.alloc (.cells #[.int .i64 0,.int .i64 0,.int .i64 0,.int .i64 0,.slice none 0 0,.slice none 0 0,.slice none 0 0,.slice none 0 0,.slice none 0 0,.slice none 0 0] 47)) (.cells #[.slice Av l.length cv,.int .i64 0,.int .i64 0] 130)
  unfold SrcAt
  rw [hW,hRe]
  simpa using h
 obtain ⟨v,hve⟩:∃v,v=Value.slice Av l.length cv:=⟨_,rfl⟩
 rw [←hve] at hS00 hv
 have hS0:SrcAt W.drew R v (0,0):=hS00
 have hC0:Chg (·=R) W W.drew:=(Chg.refl _ _).drew
 have hvW:∀V,Chg (·=R) W V→RdB V (·<R) v l:=fun V hV=>Rd.wide (Rd.keep hv (fun b (hb:b<w.heap.size)=>(hV.block b (by omega) (by omega)).trans (hbW.block b hb))) (fun b (hb:b<w.heap.size)=>by show b<R;omega)
 rcases h1:rdI l (0,0) with ⟨n1,s1⟩
 rcases h2:rdI l s1 with ⟨n2,s2⟩
 rcases h3:rdI l s2 with ⟨n3,s3⟩
 rcases h4:rdI l s3 with ⟨n4,s4⟩
 rcases h5:rdL l (rdEnt l) s4 with ⟨xs5,s5⟩
 rcases h6:rdL l (rdStm l) s5 with ⟨xs6,s6⟩
 rcases h7:rdL l (rdTv l) s6 with ⟨xs7,s7⟩
 rcases h8:rdL l (rdHld l) s7 with ⟨xs8,s8⟩
 rcases h9:rdL l (rdPol l) s8 with ⟨xs9,s9⟩
 rcases h10:rdL l (rdHor l) s9 with ⟨xs10,s10⟩
 have hd:rdSt l (0,0)=(⟨n1,n2,n3,n4,none,0,xs5,none,0,xs6,none,0,xs7,none,0,xs8,none,0,xs9,none,0,xs10⟩,s10):=by unfold rdSt;simp only [h1,h2,h3,h4,h5,h6,h7,h8,h9,h10]
 have K1:∀V,SrcAt V R v (0,0)→Chg (·=R) W V→Calls Tryz.prog 60 #[.pointer (some ⟨R,0,none⟩)] V fun x w'=>x=.returned (.int .i64 n1)∧SrcAt w' R v s1∧Chg (·=R) V w':=fun V hs hV=>by
  have k:=srcInt_any R v l (0,0) V hs (hvW V hV)
  rw [h1] at k
  exact k
 have K2:∀V,SrcAt V R v s1→Chg (·=R) W V→Calls Tryz.prog 60 #[.pointer (some ⟨R,0,none⟩)] V fun x w'=>x=.returned (.int .i64 n2)∧SrcAt w' R v s2∧Chg (·=R) V w':=fun V hs hV=>by
  have k:=srcInt_any R v l s1 V hs (hvW V hV)
  rw [h2] at k
  exact k
 have K3:∀V,SrcAt V R v s2→Chg (·=R) W V→Calls Tryz.prog 60 #[.pointer (some ⟨R,0,none⟩)] V fun x w'=>x=.returned (.int .i64 n3)∧SrcAt w' R v s3∧Chg (·=R) V w':=fun V hs hV=>by
  have k:=srcInt_any R v l s2 V hs (hvW V hV)
  rw [h3] at k
  exact k
 have K4:∀V,SrcAt V R v s3→Chg (·=R) W V→Calls Tryz.prog 60 #[.pointer (some ⟨R,0,none⟩)] V fun x w'=>x=.returned (.int .i64 n4)∧SrcAt w' R v s4∧Chg (·=R) V w':=fun V hs hV=>by
  have k:=srcInt_any R v l s3 V hs (hvW V hV)
  rw [h4] at k
  exact k
 have K5:∀V,SrcAt V R v s4→Chg (·=R) W V→Calls Tryz.prog 61 #[.pointer (some ⟨R,0,none⟩),.func (.func 62) #[] #[]] V (GetE 16 REn.enc enIs REn.er R v (xs5,s5) V):=fun V hs hV=>by
  have k:=getEnt_any R v l (rdEnt l) 62 (entF Tryz.func62) s4 V hs (hvW V hV) hl mon_Ent (fun s U hsU hU=>rdrEnt_any R v l s U hsU (hvW U (hV.trans hU (fun _ _ h=>h))) hl)
  rw [h5] at k
  exact k
 have K6:∀V,SrcAt V R v s5→Chg (·=R) W V→Calls Tryz.prog 118 #[.pointer (some ⟨R,0,none⟩),.func (.func 119) #[] #[]] V (GetE 2 Stm.enc isT id R v (xs6,s6) V):=fun V hs hV=>by
  have k:=getStm_any R v l (rdStm l) 119 (entF Tryz.func119) s5 V hs (hvW V hV) hl mon_Stm (fun s U hsU hU=>rdrStm_any R v l s U hsU (hvW U (hV.trans hU (fun _ _ h=>h))))
  rw [h6] at k
  exact k
 have K7:∀V,SrcAt V R v s6→Chg (·=R) W V→Calls Tryz.prog 120 #[.pointer (some ⟨R,0,none⟩),.func (.func 121) #[] #[]] V (GetE 2 RTv.enc tvIs RTv.er R v (xs7,s7) V):=fun V hs hV=>by
  have k:=getTv_any R v l (rdTv l) 121 (entF Tryz.func121) s6 V hs (hvW V hV) hl mon_Tv (fun s U hsU hU=>rdrTv_any R v l s U hsU (hvW U (hV.trans hU (fun _ _ h=>h))) hl)
  rw [h7] at k
  exact k
 have K8:∀V,SrcAt V R v s7→Chg (·=R) W V→Calls Tryz.prog 65 #[.pointer (some ⟨R,0,none⟩),.func (.func 66) #[] #[]] V (GetE 6 Hld.enc isT id R v (xs8,s8) V):=fun V hs hV=>by
  have k:=getHld_any R v l (rdHld l) 66 (entF Tryz.func66) s7 V hs (hvW V hV) hl mon_Hld (fun s U hsU hU=>rdrHld_any R v l s U hsU (hvW U (hV.trans hU (fun _ _ h=>h))))
  rw [h8] at k
  exact k
 have K9:∀V,SrcAt V R v s8→Chg (·=R) W V→Calls Tryz.prog 69 #[.pointer (some ⟨R,0,none⟩),.func (.func 70) #[] #[]] V (GetE 2 Pol.enc isT id R v (xs9,s9) V):=fun V hs hV=>by
  have k:=getPol_any R v l (rdPol l) 70 (entF Tryz.func70) s8 V hs (hvW V hV) hl mon_Pol (fun s U hsU hU=>rdrPol_any R v l s U hsU (hvW U (hV.trans hU (fun _ _ h=>h))))
  rw [h9] at k
  exact k
 have K10:∀V,SrcAt V R v s9→Chg (·=R) W V→Calls Tryz.prog 71 #[.pointer (some ⟨R,0,none⟩),.func (.func 72) #[] #[]] V (GetE 2 Hor.enc isT id R v (xs10,s10) V):=fun V hs hV=>by
  have k:=getHor_any R v l (rdHor l) 72 (entF Tryz.func72) s9 V hs (hvW V hV) hl mon_Hor (fun s U hsU hU=>rdrHor_any R v l s U hsU (hvW U (hV.trans hU (fun _ _ h=>h))))
  rw [h10] at k
  exact k
 have HQ:=hI0 hQ
 have HbW:=hI0 hbW
 have HD:=hI0 hd
 have HVW:=hI0 hvW
 have HLE:Hid (∀y∈xs5,y.create.few):=hI0 (fun y hy=>by have:=rdL_all (p:=fun y:REn=>y.create.few) (l:=l) (one:=rdEnt l) (rdEnt_few hl) s4;rw [h5] at this;exact this y hy)
 clear hv hvW hQ hbW h1 h2 h3 h4 h5 h6 h7 h8 h9 h10 hd
 go_enter Tryz.func26,Tryz.ntmps26
 go_upto_region 2 with (fail)
 rw [←hW,←hRe]
 have hR1:w.heap.size<R:=by omega
 have hR2:R<w.heap.size+2:=by omega
 clear hW hRe
 refine (fun (tl:∀(T:Nat) (V:World),W.heap.size≤T→T<V.heap.size→V.heap[T]? =some (.cells #[.int .i64 0,.int .i64 0,.int .i64 0,.int .i64 0,.slice none 0 0,.slice none 0 0,.slice none 0 0,.slice none 0 0,.slice none 0 0,.slice none 0 0] 47 (0,0))→SrcAt V R v s4→Chg (·=R) W V→(?Rest:Nat→World→Prop) T V)=>?leaves) ?tl9
 case leaves=>
  refine wp_region_noPanic ?_
  refine beginT (S:=(fun _:World=>True)) 18 (by kernel_rfl) ?_ (fun hHeld=>?_)
  ·trivial
  refine tT 0 12 hHeld ?_
  simp only [aP]
  refine tT 1 13 hHeld ?_
  simp only [aP]
  refine tT 2 14 hHeld ?_
  simp only [aP]
  refine tT 4 16 hHeld ?_
  simp only [aP]
  refine tT 5 17 hHeld ?_
  simp only [aP]
  refine tT 6 18 hHeld ?_
  simp only [aP]
  refine tT 8 20 hHeld ?_
  simp only [aP]
  refine tT 9 21 hHeld ?_
  simp only [aP]
  refine tT 10 22 hHeld ?_
  simp only [aP]
  refine tT 12 24 hHeld ?_
  simp only [aP]
  refine tT 13 25 hHeld ?_
  simp only [aP]
  refine tT 14 26 hHeld ?_
  simp only [aP]
  refine fork2 3 17 (by kernel_rfl) ?_ ?_
  ·refine fC 3 15 ?_
   (with_reducible refine (K1 _ hS0 hC0).mono ?_)
   rintro _ v1_ ⟨rfl,hS1,hD1⟩
   have hC1:Chg (·=R) W v1_:=hC0.trans hD1 (fun _ _ h=>h)
   refine ⟨_,rfl,?_⟩
   refine keepAnd ?_ (fun hNew=>?_)
   ·intro _;trivial
   have hNew:=hNew (by decide)
   clear hHeld
   have hHeld:=hNew
   clear hNew
   simp only [aP]
   refine fork2 7 17 (by kernel_rfl) ?_ ?_
   ·refine fC 7 19 ?_
    (with_reducible refine (K2 _ hS1 hC1).mono ?_)
    rintro _ v2_ ⟨rfl,hS2,hD2⟩
    have hC2:Chg (·=R) W v2_:=hC1.trans hD2 (fun _ _ h=>h)
    refine ⟨_,rfl,?_⟩
    refine keepAnd ?_ (fun hNew=>?_)
    ·intro _;trivial
    have hNew:=hNew (by decide)
    clear hHeld
    have hHeld:=hNew
    clear hNew
    simp only [aP]
    refine fork2 11 17 (by kernel_rfl) ?_ ?_
    ·refine fC 11 23 ?_
     (with_reducible refine (K3 _ hS2 hC2).mono ?_)
     rintro _ v3_ ⟨rfl,hS3,hD3⟩
     have hC3:Chg (·=R) W v3_:=hC2.trans hD3 (fun _ _ h=>h)
     refine ⟨_,rfl,?_⟩
     refine keepAnd ?_ (fun hNew=>?_)
     ·intro _;trivial
     have hNew:=hNew (by decide)
     clear hHeld
     have hHeld:=hNew
     clear hNew
     simp only [aP]
     refine fork2 15 17 (by kernel_rfl) ?_ ?_
     ·refine fC 15 27 ?_
      (with_reducible refine (K4 _ hS3 hC3).mono ?_)
      rintro _ v4_ ⟨rfl,hS4,hD4⟩
      have hC4:Chg (·=R) W v4_:=hC3.trans hD4 (fun _ _ h=>h)
      refine ⟨_,rfl,?_⟩
      refine keepAnd ?_ (fun hNew=>?_)
      ·intro _;trivial
      have hNew:=hNew (by decide)
      clear hHeld
      have hHeld:=hNew
      clear hNew
      simp only [aP]
      refine tT 16 28 hHeld ?_
      simp only [aP]
      refine fork1 17 (by kernel_rfl) ?_
      refine runF 17 (some 5) (v:=.pointer (some ⟨v4_.heap.size,0,none⟩)) (w':=v4_.alloc (.cells #[.int .i64 0,.int .i64 0,.int .i64 0,.int .i64 0,.slice none 0 0,.slice none 0 0,.slice none 0 0,.slice none 0 0,.slice none 0 0,.slice none 0 0] 47)) rfl rfl (by rfl) ?_ ?_
      ·go_simp<;>with_reducible rfl
      obtain ⟨T,hTe⟩:∃T,T=v4_.heap.size:=⟨_,rfl⟩
      rw [←hTe]
      obtain ⟨X,hX⟩:∃X,X=v4_.alloc (.cells #[.int .i64 0,.int .i64 0,.int .i64 0,.int .i64 0,.slice none 0 0,.slice none 0 0,.slice none 0 0,.slice none 0 0,.slice none 0 0,.slice none 0 0] 47):=⟨_,rfl⟩
      rw [←hX]
      have hbX:Below v4_.heap.size v4_ X:=by rw [hX];exact Below.of_alloc _
      have hSX:SrcAt X R v s4:=hS4.below hbX
      have hCX:Chg (·=R) W X:=hC4.trans (Chg.of_below hbX _) (fun _ _ h=>h)
      have hTX:X.heap[T]? =some (.cells #[.int .i64 0,.int .i64 0,.int .i64 0,.int .i64 0,.slice none 0 0,.slice none 0 0,.slice none 0 0,.slice none 0 0,.slice none 0 0,.slice none 0 0] 47 (0,0)):=by rw [hX,hTe];exact heap_alloc_new _ _
      have hTlX:T<X.heap.size:=by rw [hX,hTe];simp
      have hTW:W.heap.size≤T:=by rw [hTe];exact hC4.size
      clear hX hTe hbX
      refine keepAnd ?_ (fun hNew=>?_)
      ·intro _;trivial
      have hNew:=hNew (by decide)
      clear hHeld
      have hHeld:=hNew
      clear hNew
      simp only [aP]
      exact tl T X hTW hTlX hTX hSX hCX
     ·refine runF 17 (some 5) (v:=.pointer (some ⟨v3_.heap.size,0,none⟩)) (w':=v3_.alloc (.cells #[.int .i64 0,.int .i64 0,.int .i64 0,.int .i64 0,.slice none 0 0,.slice none 0 0,.slice none 0 0,.slice none 0 0,.slice none 0 0,.slice none 0 0] 47)) rfl rfl (by rfl) ?_ ?_
      ·go_simp<;>with_reducible rfl
      obtain ⟨T,hTe⟩:∃T,T=v3_.heap.size:=⟨_,rfl⟩
      rw [←hTe]
      obtain ⟨X,hX⟩:∃X,X=v3_.alloc (.cells #[.int .i64 0,.int .i64 0,.int .i64 0,.int .i64 0,.slice none 0 0,.slice none 0 0,.slice none 0 0,.slice none 0 0,.slice none 0 0,.slice none 0 0] 47):=⟨_,rfl⟩
      rw [←hX]
      have hbX:Below v3_.heap.size v3_ X:=by rw [hX];exact Below.of_alloc _
      have hSX:SrcAt X R v s3:=hS3.below hbX
      have hCX:Chg (·=R) W X:=hC3.trans (Chg.of_below hbX _) (fun _ _ h=>h)
      have hTX:X.heap[T]? =some (.cells #[.int .i64 0,.int .i64 0,.int .i64 0,.int .i64 0,.slice none 0 0,.slice none 0 0,.slice none 0 0,.slice none 0 0,.slice none 0 0,.slice none 0 0] 47 (0,0)):=by rw [hX,hTe];exact heap_alloc_new _ _
      have hTlX:T<X.heap.size:=by rw [hX,hTe];simp
      have hTW:W.heap.size≤T:=by rw [hTe];exact hC3.size
      clear hX hTe hbX
      refine keepAnd ?_ (fun hNew=>?_)
      ·intro _;trivial
      have hNew:=hNew (by decide)
      clear hHeld
      have hHeld:=hNew
      clear hNew
      simp only [aP]
      refine fork1 15 (by kernel_rfl) ?_
      refine fC 15 27 ?_
      (with_reducible refine (K4 _ hSX hCX).mono ?_)
      rintro _ v4_ ⟨rfl,hS4,hD4⟩
      have hC4:Chg (·=R) W v4_:=hCX.trans hD4 (fun _ _ h=>h)
      have hT4:=(hD4.block T hTlX (by show T≠R;omega)).trans hTX
      have hTl4:T<v4_.heap.size:=by have:=hD4.size;omega
      refine ⟨_,rfl,?_⟩
      refine keepAnd ?_ (fun hNew=>?_)
      ·intro _;trivial
      have hNew:=hNew (by decide)
      clear hHeld
      have hHeld:=hNew
      clear hNew
      simp only [aP]
      refine tT 16 28 hHeld ?_
      simp only [aP]
      exact tl T v4_ hTW hTl4 hT4 hS4 hC4
    ·refine runF 17 (some 5) (v:=.pointer (some ⟨v2_.heap.size,0,none⟩)) (w':=v2_.alloc (.cells #[.int .i64 0,.int .i64 0,.int .i64 0,.int .i64 0,.slice none 0 0,.slice none 0 0,.slice none 0 0,.slice none 0 0,.slice none 0 0,.slice none 0 0] 47)) rfl rfl (by rfl) ?_ ?_
     ·go_simp<;>with_reducible rfl
     obtain ⟨T,hTe⟩:∃T,T=v2_.heap.size:=⟨_,rfl⟩
     rw [←hTe]
     obtain ⟨X,hX⟩:∃X,X=v2_.alloc (.cells #[.int .i64 0,.int .i64 0,.int .i64 0,.int .i64 0,.slice none 0 0,.slice none 0 0,.slice none 0 0,.slice none 0 0,.slice none 0 0,.slice none 0 0] 47):=⟨_,rfl⟩
     rw [←hX]
     have hbX:Below v2_.heap.size v2_ X:=by rw [hX];exact Below.of_alloc _
     have hSX:SrcAt X R v s2:=hS2.below hbX
     have hCX:Chg (·=R) W X:=hC2.trans (Chg.of_below hbX _) (fun _ _ h=>h)
     have hTX:X.heap[T]? =some (.cells #[.int .i64 0,.int .i64 0,.int .i64 0,.int .i64 0,.slice none 0 0,.slice none 0 0,.slice none 0 0,.slice none 0 0,.slice none 0 0,.slice none 0 0] 47 (0,0)):=by rw [hX,hTe];exact heap_alloc_new _ _
     have hTlX:T<X.heap.size:=by rw [hX,hTe];simp
     have hTW:W.heap.size≤T:=by rw [hTe];exact hC2.size
     clear hX hTe hbX
     refine keepAnd ?_ (fun hNew=>?_)
     ·intro _;trivial
     have hNew:=hNew (by decide)
     clear hHeld
     have hHeld:=hNew
     clear hNew
     simp only [aP]
     refine fork1 11 (by kernel_rfl) ?_
     refine fC 11 23 ?_
     (with_reducible refine (K3 _ hSX hCX).mono ?_)
     rintro _ v3_ ⟨rfl,hS3,hD3⟩
     have hC3:Chg (·=R) W v3_:=hCX.trans hD3 (fun _ _ h=>h)
     have hT3:=(hD3.block T hTlX (by show T≠R;omega)).trans hTX
     have hTl3:T<v3_.heap.size:=by have:=hD3.size;omega
     refine ⟨_,rfl,?_⟩
     refine keepAnd ?_ (fun hNew=>?_)
     ·intro _;trivial
     have hNew:=hNew (by decide)
     clear hHeld
     have hHeld:=hNew
     clear hNew
     simp only [aP]
     refine fork1 15 (by kernel_rfl) ?_
     refine fC 15 27 ?_
     (with_reducible refine (K4 _ hS3 hC3).mono ?_)
     rintro _ v4_ ⟨rfl,hS4,hD4⟩
     have hC4:Chg (·=R) W v4_:=hC3.trans hD4 (fun _ _ h=>h)
     have hT4:=(hD4.block T hTl3 (by show T≠R;omega)).trans hT3
     have hTl4:T<v4_.heap.size:=by have:=hD4.size;omega
     refine ⟨_,rfl,?_⟩
     refine keepAnd ?_ (fun hNew=>?_)
     ·intro _;trivial
     have hNew:=hNew (by decide)
     clear hHeld
     have hHeld:=hNew
     clear hNew
     simp only [aP]
     refine tT 16 28 hHeld ?_
     simp only [aP]
     exact tl T v4_ hTW hTl4 hT4 hS4 hC4
   ·refine runF 17 (some 5) (v:=.pointer (some ⟨v1_.heap.size,0,none⟩)) (w':=v1_.alloc (.cells #[.int .i64 0,.int .i64 0,.int .i64 0,.int .i64 0,.slice none 0 0,.slice none 0 0,.slice none 0 0,.slice none 0 0,.slice none 0 0,.slice none 0 0] 47)) rfl rfl (by rfl) ?_ ?_
    ·go_simp<;>with_reducible rfl
    obtain ⟨T,hTe⟩:∃T,T=v1_.heap.size:=⟨_,rfl⟩
    rw [←hTe]
    obtain ⟨X,hX⟩:∃X,X=v1_.alloc (.cells #[.int .i64 0,.int .i64 0,.int .i64 0,.int .i64 0,.slice none 0 0,.slice none 0 0,.slice none 0 0,.slice none 0 0,.slice none 0 0,.slice none 0 0] 47):=⟨_,rfl⟩
    rw [←hX]
    have hbX:Below v1_.heap.size v1_ X:=by rw [hX];exact Below.of_alloc _
    have hSX:SrcAt X R v s1:=hS1.below hbX
    have hCX:Chg (·=R) W X:=hC1.trans (Chg.of_below hbX _) (fun _ _ h=>h)
    have hTX:X.heap[T]? =some (.cells #[.int .i64 0,.int .i64 0,.int .i64 0,.int .i64 0,.slice none 0 0,.slice none 0 0,.slice none 0 0,.slice none 0 0,.slice none 0 0,.slice none 0 0] 47 (0,0)):=by rw [hX,hTe];exact heap_alloc_new _ _
    have hTlX:T<X.heap.size:=by rw [hX,hTe];simp
    have hTW:W.heap.size≤T:=by rw [hTe];exact hC1.size
    clear hX hTe hbX
    refine keepAnd ?_ (fun hNew=>?_)
    ·intro _;trivial
    have hNew:=hNew (by decide)
    clear hHeld
    have hHeld:=hNew
    clear hNew
    simp only [aP]
    refine fork1 7 (by kernel_rfl) ?_
    refine fC 7 19 ?_
    (with_reducible refine (K2 _ hSX hCX).mono ?_)
    rintro _ v2_ ⟨rfl,hS2,hD2⟩
    have hC2:Chg (·=R) W v2_:=hCX.trans hD2 (fun _ _ h=>h)
    have hT2:=(hD2.block T hTlX (by show T≠R;omega)).trans hTX
    have hTl2:T<v2_.heap.size:=by have:=hD2.size;omega
    refine ⟨_,rfl,?_⟩
    refine keepAnd ?_ (fun hNew=>?_)
    ·intro _;trivial
    have hNew:=hNew (by decide)
    clear hHeld
    have hHeld:=hNew
    clear hNew
    simp only [aP]
    refine fork1 11 (by kernel_rfl) ?_
    refine fC 11 23 ?_
    (with_reducible refine (K3 _ hS2 hC2).mono ?_)
    rintro _ v3_ ⟨rfl,hS3,hD3⟩
    have hC3:Chg (·=R) W v3_:=hC2.trans hD3 (fun _ _ h=>h)
    have hT3:=(hD3.block T hTl2 (by show T≠R;omega)).trans hT2
    have hTl3:T<v3_.heap.size:=by have:=hD3.size;omega
    refine ⟨_,rfl,?_⟩
    refine keepAnd ?_ (fun hNew=>?_)
    ·intro _;trivial
    have hNew:=hNew (by decide)
    clear hHeld
    have hHeld:=hNew
    clear hNew
    simp only [aP]
    refine fork1 15 (by kernel_rfl) ?_
    refine fC 15 27 ?_
    (with_reducible refine (K4 _ hS3 hC3).mono ?_)
    rintro _ v4_ ⟨rfl,hS4,hD4⟩
    have hC4:Chg (·=R) W v4_:=hC3.trans hD4 (fun _ _ h=>h)
    have hT4:=(hD4.block T hTl3 (by show T≠R;omega)).trans hT3
    have hTl4:T<v4_.heap.size:=by have:=hD4.size;omega
    refine ⟨_,rfl,?_⟩
    refine keepAnd ?_ (fun hNew=>?_)
    ·intro _;trivial
    have hNew:=hNew (by decide)
    clear hHeld
    have hHeld:=hNew
    clear hNew
    simp only [aP]
    refine tT 16 28 hHeld ?_
    simp only [aP]
    exact tl T v4_ hTW hTl4 hT4 hS4 hC4
  ·refine runF 17 (some 5) (v:=.pointer (some ⟨W.drew.heap.size,0,none⟩)) (w':=W.drew.alloc (.cells #[.int .i64 0,.int .i64 0,.int .i64 0,.int .i64 0,.slice none 0 0,.slice none 0 0,.slice none 0 0,.slice none 0 0,.slice none 0 0,.slice none 0 0] 47)) rfl rfl (by rfl) ?_ ?_
   ·go_simp<;>with_reducible rfl
   obtain ⟨T,hTe⟩:∃T,T=W.drew.heap.size:=⟨_,rfl⟩
   rw [←hTe]
   obtain ⟨X,hX⟩:∃X,X=W.drew.alloc (.cells #[.int .i64 0,.int .i64 0,.int .i64 0,.int .i64 0,.slice none 0 0,.slice none 0 0,.slice none 0 0,.slice none 0 0,.slice none 0 0,.slice none 0 0] 47):=⟨_,rfl⟩
   rw [←hX]
   have hbX:Below W.drew.heap.size W.drew X:=by rw [hX];exact Below.of_alloc _
   have hSX:SrcAt X R v (0,0):=hS0.below hbX
   have hCX:Chg (·=R) W X:=hC0.trans (Chg.of_below hbX _) (fun _ _ h=>h)
   have hTX:X.heap[T]? =some (.cells #[.int .i64 0,.int .i64 0,.int .i64 0,.int .i64 0,.slice none 0 0,.slice none 0 0,.slice none 0 0,.slice none 0 0,.slice none 0 0,.slice none 0 0] 47 (0,0)):=by rw [hX,hTe];exact heap_alloc_new _ _
   have hTlX:T<X.heap.size:=by rw [hX,hTe];simp
   have hTW:W.heap.size≤T:=by rw [hTe];exact hC0.size
   clear hX hTe hbX
   refine keepAnd ?_ (fun hNew=>?_)
   ·intro _;trivial
   have hNew:=hNew (by decide)
   clear hHeld
   have hHeld:=hNew
   clear hNew
   simp only [aP]
   refine fork1 3 (by kernel_rfl) ?_
   refine fC 3 15 ?_
   (with_reducible refine (K1 _ hSX hCX).mono ?_)
   rintro _ v1_ ⟨rfl,hS1,hD1⟩
   have hC1:Chg (·=R) W v1_:=hCX.trans hD1 (fun _ _ h=>h)
   have hT1:=(hD1.block T hTlX (by show T≠R;omega)).trans hTX
   have hTl1:T<v1_.heap.size:=by have:=hD1.size;omega
   refine ⟨_,rfl,?_⟩
   refine keepAnd ?_ (fun hNew=>?_)
   ·intro _;trivial
   have hNew:=hNew (by decide)
   clear hHeld
   have hHeld:=hNew
   clear hNew
   simp only [aP]
   refine fork1 7 (by kernel_rfl) ?_
   refine fC 7 19 ?_
   (with_reducible refine (K2 _ hS1 hC1).mono ?_)
   rintro _ v2_ ⟨rfl,hS2,hD2⟩
   have hC2:Chg (·=R) W v2_:=hC1.trans hD2 (fun _ _ h=>h)
   have hT2:=(hD2.block T hTl1 (by show T≠R;omega)).trans hT1
   have hTl2:T<v2_.heap.size:=by have:=hD2.size;omega
   refine ⟨_,rfl,?_⟩
   refine keepAnd ?_ (fun hNew=>?_)
   ·intro _;trivial
   have hNew:=hNew (by decide)
   clear hHeld
   have hHeld:=hNew
   clear hNew
   simp only [aP]
   refine fork1 11 (by kernel_rfl) ?_
   refine fC 11 23 ?_
   (with_reducible refine (K3 _ hS2 hC2).mono ?_)
   rintro _ v3_ ⟨rfl,hS3,hD3⟩
   have hC3:Chg (·=R) W v3_:=hC2.trans hD3 (fun _ _ h=>h)
   have hT3:=(hD3.block T hTl2 (by show T≠R;omega)).trans hT2
   have hTl3:T<v3_.heap.size:=by have:=hD3.size;omega
   refine ⟨_,rfl,?_⟩
   refine keepAnd ?_ (fun hNew=>?_)
   ·intro _;trivial
   have hNew:=hNew (by decide)
   clear hHeld
   have hHeld:=hNew
   clear hNew
   simp only [aP]
   refine fork1 15 (by kernel_rfl) ?_
   refine fC 15 27 ?_
   (with_reducible refine (K4 _ hS3 hC3).mono ?_)
   rintro _ v4_ ⟨rfl,hS4,hD4⟩
   have hC4:Chg (·=R) W v4_:=hC3.trans hD4 (fun _ _ h=>h)
   have hT4:=(hD4.block T hTl3 (by show T≠R;omega)).trans hT3
   have hTl4:T<v4_.heap.size:=by have:=hD4.size;omega
   refine ⟨_,rfl,?_⟩
   refine keepAnd ?_ (fun hNew=>?_)
   ·intro _;trivial
   have hNew:=hNew (by decide)
   clear hHeld
   have hHeld:=hNew
   clear hNew
   simp only [aP]
   refine tT 16 28 hHeld ?_
   simp only [aP]
   exact tl T v4_ hTW hTl4 hT4 hS4 hC4
 case tl9=>
  intro T V hTW hTlV hTV hSV hCV
  refine fork1 18 (by kernel_rfl) ?_
  refine skipRunF 18 none (w':=(V.setRow T #[.int .i64 n1,.int .i64 n2,.int .i64 n3,.int .i64 n4,.slice none 0 0,.slice none 0 0,.slice none 0 0,.slice none 0 0,.slice none 0 0,.slice none 0 0])) rfl rfl (by rfl) ?_ ?_
  ·exact exec_storeRow (cur:=#[.int .i64 0,.int .i64 0,.int .i64 0,.int .i64 0,.slice none 0 0,.slice none 0 0,.slice none 0 0,.slice none 0 0,.slice none 0 0,.slice none 0 0]) (vs:=#[.int .i64 n1,.int .i64 n2,.int .i64 n3,.int .i64 n4,.slice none 0 0,.slice none 0 0,.slice none 0 0,.slice none 0 0,.slice none 0 0,.slice none 0 0]) (.tmp 5) (.tmp 28) rfl rfl rfl sz_sta rfl rfl hTV
  have hTY:=setRow_heap V T _ #[.int .i64 n1,.int .i64 n2,.int .i64 n3,.int .i64 n4,.slice none 0 0,.slice none 0 0,.slice none 0 0,.slice none 0 0,.slice none 0 0,.slice none 0 0] _ _ hTV
  have hYc:=chg_setRow V T #[.int .i64 n1,.int .i64 n2,.int .i64 n3,.int .i64 n4,.slice none 0 0,.slice none 0 0,.slice none 0 0,.slice none 0 0,.slice none 0 0,.slice none 0 0]
  generalize V.setRow T #[.int .i64 n1,.int .i64 n2,.int .i64 n3,.int .i64 n4,.slice none 0 0,.slice none 0 0,.slice none 0 0,.slice none 0 0,.slice none 0 0,.slice none 0 0]=Y4 at *
  have hC4:Chg (·=R) W Y4:=hCV.trans hYc (fun i hi (h:i=T)=>by omega)
  have hS4:SrcAt Y4 R v s4:=(hYc.block R hSV.lt (by show R≠T;omega)).trans hSV
  have hw4:=hYc.size
  clear hYc hTV hSV hCV
  refine ⟨fun h=>absurd rfl h,?_⟩
  simp only [Act.put]
  refine doneT (by kernel_rfl) ?_ _
  refine NoPanic.normal ?_
  have hr4:RdS R T w.heap.size v s4 #[.int .i64 0,.int .i64 0,.int .i64 0,.int .i64 0,.slice none 0 0,.slice none 0 0,.slice none 0 0,.slice none 0 0,.slice none 0 0,.slice none 0 0] #[.int .i64 n1,.int .i64 n2,.int .i64 n3,.int .i64 n4,.slice none 0 0,.slice none 0 0,.slice none 0 0,.slice none 0 0,.slice none 0 0,.slice none 0 0] 47 Y4:=⟨hS4,hTY,(hC4.block _ (by omega) (by show w.heap.size≠R;omega)).trans HQ.out,by omega,by omega,by omega⟩
  clear hTY hS4 K1 K2 K3 K4 hS0 hC0 hS00
  go_wp2_with fail
  (with_reducible refine (K5 Y4 hr4.src hC4).mono ?_)
  rintro _ v5 ⟨u5,Q5,rfl,hU5,hI5,hE5,hS5,hD5⟩
  obtain ⟨A5,c5,rfl⟩:=rdE_slice hU5
  have HU5:=hI0 hU5
  have HI5:=hI0 hI5
  have HE5:=hI0 hE5
  clear hU5 hI5 hE5
  have hr5':=hr4.call hS5 hD5
  have hC5':Chg (·=R) W v5:=hC4.trans hD5 (fun _ _ h=>h)
  have hz5:=hD5.size
  have HD5:=hI0 hD5
  have p4:v5.cell? ⟨T,4,none⟩=some (.slice none 0 0):=cW0 v5 _ 4 _ _ _ hr5'.box
  have g4:v5.frozen? ⟨T,4,none⟩=false:=fW0 v5 _ 4 _ _ hr5'.box
  go_upto_region 4 with (fail)
  clear p4 g4 hr4 hC4 hS5 hD5 K5
  have hr5:=hr5'.put 4 (.slice A5 Q5.length c5) (cs':=#[.int .i64 n1,.int .i64 n2,.int .i64 n3,.int .i64 n4,.slice A5 Q5.length c5,.slice none 0 0,.slice none 0 0,.slice none 0 0,.slice none 0 0,.slice none 0 0])
  have hy5:=St3.put (R:=R) (T:=T) (H:=w.heap.size) v5 4 (.slice A5 Q5.length c5)
  have hC5:Chg (·=R) W (v5.setCell ⟨T,4,none⟩ (.slice A5 Q5.length c5)):=hC5'.setCell (p:=⟨T,4,none⟩) (.inr hTW) _
  clear hr5' hC5'
  generalize v5.setCell ⟨T,4,none⟩ (.slice A5 Q5.length c5)=Y5 at *
  have hw5:=hy5.size
  have HY5:=hI0 hy5
  clear hy5
  go_wp2_with fail
  (with_reducible refine (K6 Y5 hr5.src hC5).mono ?_)
  rintro _ v6 ⟨u6,Q6,rfl,hU6,hI6,hE6,hS6,hD6⟩
  rw [List.map_id] at hE6
  obtain ⟨A6,c6,rfl⟩:=rdE_slice hU6
  have HU6:=hI0 hU6
  have HI6:=hI0 hI6
  have HE6:=hI0 hE6
  clear hU6 hI6 hE6
  have hr6':=hr5.call hS6 hD6
  have hC6':Chg (·=R) W v6:=hC5.trans hD6 (fun _ _ h=>h)
  have hz6:=hD6.size
  have HD6:=hI0 hD6
  have p5:v6.cell? ⟨T,5,none⟩=some (.slice none 0 0):=cW0 v6 _ 5 _ _ _ hr6'.box
  have g5:v6.frozen? ⟨T,5,none⟩=false:=fW0 v6 _ 5 _ _ hr6'.box
  go_upto_region 5 with (fail)
  clear p5 g5 hr5 hC5 hS6 hD6 K6
  have hr6:=hr6'.put 5 (.slice A6 Q6.length c6) (cs':=#[.int .i64 n1,.int .i64 n2,.int .i64 n3,.int .i64 n4,.slice A5 Q5.length c5,.slice A6 Q6.length c6,.slice none 0 0,.slice none 0 0,.slice none 0 0,.slice none 0 0])
  have hy6:=St3.put (R:=R) (T:=T) (H:=w.heap.size) v6 5 (.slice A6 Q6.length c6)
  have hC6:Chg (·=R) W (v6.setCell ⟨T,5,none⟩ (.slice A6 Q6.length c6)):=hC6'.setCell (p:=⟨T,5,none⟩) (.inr hTW) _
  clear hr6' hC6'
  generalize v6.setCell ⟨T,5,none⟩ (.slice A6 Q6.length c6)=Y6 at *
  have hw6:=hy6.size
  have HY6:=hI0 hy6
  clear hy6
  go_wp2_with fail
  (with_reducible refine (K7 Y6 hr6.src hC6).mono ?_)
  rintro _ v7 ⟨u7,Q7,rfl,hU7,hI7,hE7,hS7,hD7⟩
  obtain ⟨A7,c7,rfl⟩:=rdE_slice hU7
  have HU7:=hI0 hU7
  have HI7:=hI0 hI7
  have HE7:=hI0 hE7
  clear hU7 hI7 hE7
  have hr7':=hr6.call hS7 hD7
  have hC7':Chg (·=R) W v7:=hC6.trans hD7 (fun _ _ h=>h)
  have hz7:=hD7.size
  have HD7:=hI0 hD7
  have p6:v7.cell? ⟨T,6,none⟩=some (.slice none 0 0):=cW0 v7 _ 6 _ _ _ hr7'.box
  have g6:v7.frozen? ⟨T,6,none⟩=false:=fW0 v7 _ 6 _ _ hr7'.box
  go_upto_region 6 with (fail)
  clear p6 g6 hr6 hC6 hS7 hD7 K7
  have hr7:=hr7'.put 6 (.slice A7 Q7.length c7) (cs':=#[.int .i64 n1,.int .i64 n2,.int .i64 n3,.int .i64 n4,.slice A5 Q5.length c5,.slice A6 Q6.length c6,.slice A7 Q7.length c7,.slice none 0 0,.slice none 0 0,.slice none 0 0])
  have hy7:=St3.put (R:=R) (T:=T) (H:=w.heap.size) v7 6 (.slice A7 Q7.length c7)
  have hC7:Chg (·=R) W (v7.setCell ⟨T,6,none⟩ (.slice A7 Q7.length c7)):=hC7'.setCell (p:=⟨T,6,none⟩) (.inr hTW) _
  clear hr7' hC7'
  generalize v7.setCell ⟨T,6,none⟩ (.slice A7 Q7.length c7)=Y7 at *
  have hw7:=hy7.size
  have HY7:=hI0 hy7
  clear hy7
  go_wp2_with fail
  (with_reducible refine (K8 Y7 hr7.src hC7).mono ?_)
  rintro _ v8 ⟨u8,Q8,rfl,hU8,hI8,hE8,hS8,hD8⟩
  rw [List.map_id] at hE8
  obtain ⟨A8,c8,rfl⟩:=rdE_slice hU8
  have HU8:=hI0 hU8
  have HI8:=hI0 hI8
  have HE8:=hI0 hE8
  clear hU8 hI8 hE8
  have hr8':=hr7.call hS8 hD8
  have hC8':Chg (·=R) W v8:=hC7.trans hD8 (fun _ _ h=>h)
  have hz8:=hD8.size
  have HD8:=hI0 hD8
  have p7:v8.cell? ⟨T,7,none⟩=some (.slice none 0 0):=cW0 v8 _ 7 _ _ _ hr8'.box
  have g7:v8.frozen? ⟨T,7,none⟩=false:=fW0 v8 _ 7 _ _ hr8'.box
  go_upto_region 7 with (fail)
  clear p7 g7 hr7 hC7 hS8 hD8 K8
  have hr8:=hr8'.put 7 (.slice A8 Q8.length c8) (cs':=#[.int .i64 n1,.int .i64 n2,.int .i64 n3,.int .i64 n4,.slice A5 Q5.length c5,.slice A6 Q6.length c6,.slice A7 Q7.length c7,.slice A8 Q8.length c8,.slice none 0 0,.slice none 0 0])
  have hy8:=St3.put (R:=R) (T:=T) (H:=w.heap.size) v8 7 (.slice A8 Q8.length c8)
  have hC8:Chg (·=R) W (v8.setCell ⟨T,7,none⟩ (.slice A8 Q8.length c8)):=hC8'.setCell (p:=⟨T,7,none⟩) (.inr hTW) _
  clear hr8' hC8'
  generalize v8.setCell ⟨T,7,none⟩ (.slice A8 Q8.length c8)=Y8 at *
  have hw8:=hy8.size
  have HY8:=hI0 hy8
  clear hy8
  go_wp2_with fail
  (with_reducible refine (K9 Y8 hr8.src hC8).mono ?_)
  rintro _ v9 ⟨u9,Q9,rfl,hU9,hI9,hE9,hS9,hD9⟩
  rw [List.map_id] at hE9
  obtain ⟨A9,c9,rfl⟩:=rdE_slice hU9
  have HU9:=hI0 hU9
  have HI9:=hI0 hI9
  have HE9:=hI0 hE9
  clear hU9 hI9 hE9
  have hr9':=hr8.call hS9 hD9
  have hC9':Chg (·=R) W v9:=hC8.trans hD9 (fun _ _ h=>h)
  have hz9:=hD9.size
  have HD9:=hI0 hD9
  have p8:v9.cell? ⟨T,8,none⟩=some (.slice none 0 0):=cW0 v9 _ 8 _ _ _ hr9'.box
  have g8:v9.frozen? ⟨T,8,none⟩=false:=fW0 v9 _ 8 _ _ hr9'.box
  go_upto_region 8 with (fail)
  clear p8 g8 hr8 hC8 hS9 hD9 K9
  have hr9:=hr9'.put 8 (.slice A9 Q9.length c9) (cs':=#[.int .i64 n1,.int .i64 n2,.int .i64 n3,.int .i64 n4,.slice A5 Q5.length c5,.slice A6 Q6.length c6,.slice A7 Q7.length c7,.slice A8 Q8.length c8,.slice A9 Q9.length c9,.slice none 0 0])
  have hy9:=St3.put (R:=R) (T:=T) (H:=w.heap.size) v9 8 (.slice A9 Q9.length c9)
  have hC9:Chg (·=R) W (v9.setCell ⟨T,8,none⟩ (.slice A9 Q9.length c9)):=hC9'.setCell (p:=⟨T,8,none⟩) (.inr hTW) _
  clear hr9' hC9'
  generalize v9.setCell ⟨T,8,none⟩ (.slice A9 Q9.length c9)=Y9 at *
  have hw9:=hy9.size
  have HY9:=hI0 hy9
  clear hy9
  go_wp2_with fail
  (with_reducible refine (K10 Y9 hr9.src hC9).mono ?_)
  rintro _ v10 ⟨u10,Q10,rfl,hU10,hI10,hE10,hS10,hD10⟩
  rw [List.map_id] at hE10
  obtain ⟨A10,c10,rfl⟩:=rdE_slice hU10
  have HU10:=hI0 hU10
  have HI10:=hI0 hI10
  have HE10:=hI0 hE10
  clear hU10 hI10 hE10
  have hr10':=hr9.call hS10 hD10
  have hC10':Chg (·=R) W v10:=hC9.trans hD10 (fun _ _ h=>h)
  have hz10:=hD10.size
  have HD10:=hI0 hD10
  have p9:v10.cell? ⟨T,9,none⟩=some (.slice none 0 0):=cW0 v10 _ 9 _ _ _ hr10'.box
  have g9:v10.frozen? ⟨T,9,none⟩=false:=fW0 v10 _ 9 _ _ hr10'.box
  go_upto_region 9 with (fail)
  clear p9 g9 hr9 hC9 hS10 hD10 K10
  have hr10:=hr10'.put 9 (.slice A10 Q10.length c10) (cs':=#[.int .i64 n1,.int .i64 n2,.int .i64 n3,.int .i64 n4,.slice A5 Q5.length c5,.slice A6 Q6.length c6,.slice A7 Q7.length c7,.slice A8 Q8.length c8,.slice A9 Q9.length c9,.slice A10 Q10.length c10])
  have hy10:=St3.put (R:=R) (T:=T) (H:=w.heap.size) v10 9 (.slice A10 Q10.length c10)
  have hC10:Chg (·=R) W (v10.setCell ⟨T,9,none⟩ (.slice A10 Q10.length c10)):=hC10'.setCell (p:=⟨T,9,none⟩) (.inr hTW) _
  clear hr10' hC10'
  generalize v10.setCell ⟨T,9,none⟩ (.slice A10 Q10.length c10)=Y10 at *
  have hw10:=hy10.size
  have HY10:=hI0 hy10
  clear hy10
  have KE:=srcEnd_any R v l s10 Y10 hr10.src (HVW.out Y10 hC10)
  obtain ⟨ed,hed⟩:∃ed,ed=endE s10 l.length:=⟨_,rfl⟩
  rw [←hed] at KE
  have HED:=hI0 hed
  clear hed
  go_wp2_with fail
  (with_reducible refine KE.mono ?_)
  rintro _ F ⟨rfl,hbF⟩
  have hzF:=hbF.size
  have hrF:RdS R T w.heap.size v s10 #[.int .i64 0,.int .i64 0,.int .i64 0,.int .i64 0,.slice none 0 0,.slice none 0 0,.slice none 0 0,.slice none 0 0,.slice none 0 0,.slice none 0 0] #[.int .i64 n1,.int .i64 n2,.int .i64 n3,.int .i64 n4,.slice A5 Q5.length c5,.slice A6 Q6.length c6,.slice A7 Q7.length c7,.slice A8 Q8.length c8,.slice A9 Q9.length c9,.slice A10 Q10.length c10] 47 F:=⟨hr10.src.below hbF,(hbF.block T hr10.lt.1).trans hr10.box,(hbF.block _ hr10.lt.2).trans hr10.res,hr10.ne⟩
  have hTl:=hr10.lt.1
  have hCF:Below w.heap.size w F:=(HbW.out.trans (hC10.below (B:=w.heap.size) (by omega) (fun i hi=>by omega))).trans (hbF.mono (by have:=hC10.size;omega))
  have HR:=hI0 hrF
  have HCF:=hI0 hCF
  have HBF:=hI0 hbF
  clear hr10 hC10 KE hrF hCF hbF
  have q10:=(HY10.out).trans (St3.of (R:=R) (T:=T) (H:=w.heap.size) (Chg.of_below (S:=(·=R)) HBF.out))
  have q9:=HY9.out.trans ((St3.of HD10.out).trans q10)
  have q8:=HY8.out.trans ((St3.of HD9.out).trans q9)
  have q7:=HY7.out.trans ((St3.of HD8.out).trans q8)
  have q6:=HY6.out.trans ((St3.of HD7.out).trans q7)
  have q5:=HY5.out.trans ((St3.of HD6.out).trans q6)
  have Hq5:=hI0 (keep3 (V:=Y4) (w':=W) q5 (by omega) (by omega) (by omega) (by omega))
  have Hq6:=hI0 (keep3 (V:=Y5) (w':=W) q6 (by omega) (by omega) (by omega) (by omega))
  have Hq7:=hI0 (keep3 (V:=Y6) (w':=W) q7 (by omega) (by omega) (by omega) (by omega))
  have Hq8:=hI0 (keep3 (V:=Y7) (w':=W) q8 (by omega) (by omega) (by omega) (by omega))
  have Hq9:=hI0 (keep3 (V:=Y8) (w':=W) q9 (by omega) (by omega) (by omega) (by omega))
  have Hq10:=hI0 (keep3 (V:=Y9) (w':=W) q10 (by omega) (by omega) (by omega) (by omega))
  clear q5 q6 q7 q8 q9 q10
  obtain ⟨C,hCe⟩:∃C:RSt,C=⟨n1,n2,n3,n4,A5,c5,Q5,A6,c6,Q6,A7,c7,Q7,A8,c8,Q8,A9,c9,Q9,A10,c10,Q10⟩:=⟨_,rfl⟩
  have hCer:C.er=⟨n1,n2,n3,n4,none,0,xs5,none,0,xs6,none,0,xs7,none,0,xs8,none,0,xs9,none,0,xs10⟩:=by
   rw [hCe]
   simp only [RSt.er,HE5.out,HE6.out,HE7.out,HE8.out,HE9.out,HE10.out]
  have HCER:=hI0 hCer
  clear hCer
  by_cases he:ed=0
  case neg=>
   have he2:(ed != 0)=true:=by simpa using he
   have HX:=hI0 (decSt_end HD.out (by rw [←HED.out];exact he))
   go_wp2_with (refine wpList_storeRow (cur:=#[.int .i64 0,.int .i64 0,.int .i64 0,.int .i64 0,.slice none 0 0,.slice none 0 0,.slice none 0 0,.slice none 0 0,.slice none 0 0,.slice none 0 0]) (vs:=#[.int .i64 0,.int .i64 0,.int .i64 0,.int .i64 0,.slice none 0 0,.slice none 0 0,.slice none 0 0,.slice none 0 0,.slice none 0 0,.slice none 0 0]) (.tmp 2) (.tmp 53) rfl rfl rfl rfl sz_sta rfl rfl HR.out.res ?_;intro E hE hEc)
   have hbE:Below w.heap.size w E:=HCF.out.trans (hEc.below (by have:=HCF.out.size;omega) (fun i hi=>by omega))
   have HE:=hI0 hE
   have HEc:=hI0 hEc
   clear hE hEc
   have p0:E.cell? ⟨w.heap.size,0,none⟩=some (.int .i64 0):=cW0 E _ 0 _ _ _ HE.out
   have p1:E.cell? ⟨w.heap.size,1,none⟩=some (.int .i64 0):=cW0 E _ 1 _ _ _ HE.out
   have p2:E.cell? ⟨w.heap.size,2,none⟩=some (.int .i64 0):=cW0 E _ 2 _ _ _ HE.out
   have p3:E.cell? ⟨w.heap.size,3,none⟩=some (.int .i64 0):=cW0 E _ 3 _ _ _ HE.out
   have p4:E.cell? ⟨w.heap.size,4,none⟩=some (.slice none 0 0):=cW0 E _ 4 _ _ _ HE.out
   have p5:E.cell? ⟨w.heap.size,5,none⟩=some (.slice none 0 0):=cW0 E _ 5 _ _ _ HE.out
   have p6:E.cell? ⟨w.heap.size,6,none⟩=some (.slice none 0 0):=cW0 E _ 6 _ _ _ HE.out
   have p7:E.cell? ⟨w.heap.size,7,none⟩=some (.slice none 0 0):=cW0 E _ 7 _ _ _ HE.out
   have p8:E.cell? ⟨w.heap.size,8,none⟩=some (.slice none 0 0):=cW0 E _ 8 _ _ _ HE.out
   have p9:E.cell? ⟨w.heap.size,9,none⟩=some (.slice none 0 0):=cW0 E _ 9 _ _ _ HE.out
   exact bodyPost_ret (v:=.tuple #[.agg #[.int .i64 0,.int .i64 0,.int .i64 0,.int .i64 0,.slice none 0 0,.slice none 0 0,.slice none 0 0,.slice none 0 0,.slice none 0 0,.slice none 0 0],.int .i64 (ed)]) (by simp [results,Tryz.results26,go_sem,p0,p1,p2,p3,p4,p5,p6,p7,p8,p9]) rfl ⟨RSt.none_,by rw [HX.out,←HED.out];rfl,by rw [HX.out];rfl,noneS_is _ _,(fun x hx=>nomatch hx),hbE⟩
  case pos=>
  subst he
  have hcis:C.is F (fun b=>W.heap.size≤b∧b<F.heap.size):=by
   have e5:=HE5.out
   rw [hCe]
   refine ⟨Rd.wide (Rd.keep HU5.out Hq5.out.1) Hq5.out.2,fun x hx=>?_,Rd.wide (Rd.keep HU6.out Hq6.out.1) Hq6.out.2,Rd.wide (Rd.keep HU7.out Hq7.out.1) Hq7.out.2,fun x hx=>?_,Rd.wide (Rd.keep HU8.out Hq8.out.1) Hq8.out.2,Rd.wide (Rd.keep HU9.out Hq9.out.1) Hq9.out.2,Rd.wide (Rd.keep HU10.out Hq10.out.1) Hq10.out.2⟩
   ·have h:=isK_En.wide (isK_En.keep (HI5.out x hx) Hq5.out.1) Hq5.out.2
    exact en_is h (HLE.out x.er (by rw [←e5];exact List.mem_map_of_mem hx))
   ·have h:=isK_Tv.wide (isK_Tv.keep (HI7.out x hx) Hq7.out.1) Hq7.out.2
    exact ⟨h.1,h.2⟩
  have HCIS:=hI0 hcis
  have hcx:∀x∈C.ents,∀e∈x.create.chks,exAll F (fun b=>W.heap.size≤b∧b<F.heap.size) e:=by
   rw [hCe]
   exact fun x hx e he=>(isK_En.wide (isK_En.keep (HI5.out x hx) Hq5.out.1) Hq5.out.2).1.2.2.2.2.2 e he
  have HCX:=hI0 hcx
  have KC:=checkState_any C F (RSt.is_kw hcis (fun _ _=>rfl) (fun b hb=>hb.2))
  obtain ⟨kk,hkk⟩:∃kk,kk=stateF C:=⟨_,rfl⟩
  rw [←hkk] at KC
  have hk2:kk=stateF ⟨n1,n2,n3,n4,none,0,xs5,none,0,xs6,none,0,xs7,none,0,xs8,none,0,xs9,none,0,xs10⟩:=by rw [hkk,←stateF_er C,HCER.out]
  have HKK:=hI0 hk2
  have HCE:=hI0 hCe
  rw [hCe] at KC
  change Calls Tryz.prog 104 #[.agg #[.int .i64 n1,.int .i64 n2,.int .i64 n3,.int .i64 n4,.slice A5 Q5.length c5,.slice A6 Q6.length c6,.slice A7 Q7.length c7,.slice A8 Q8.length c8,.slice A9 Q9.length c9,.slice A10 Q10.length c10]] F (fun e w'=>e=.returned (.int .i64 kk)∧Below F.heap.size F w') at KC
  clear hkk hk2 hCe hcis hcx
  go_wp2_with (refine wpList_loadRow (cs:=#[.int .i64 n1,.int .i64 n2,.int .i64 n3,.int .i64 n4,.slice A5 Q5.length c5,.slice A6 Q6.length c6,.slice A7 Q7.length c7,.slice A8 Q8.length c8,.slice A9 Q9.length c9,.slice A10 Q10.length c10]) (T:=T) (.tmp 5) rfl rfl rfl sz_sta ag_sta HR.out.box ?_)
  (with_reducible refine KC.mono ?_)
  rintro _ G ⟨rfl,hbG⟩
  have hzG:=hbG.size
  have hrG:RdS R T w.heap.size v s10 #[.int .i64 0,.int .i64 0,.int .i64 0,.int .i64 0,.slice none 0 0,.slice none 0 0,.slice none 0 0,.slice none 0 0,.slice none 0 0,.slice none 0 0] #[.int .i64 n1,.int .i64 n2,.int .i64 n3,.int .i64 n4,.slice A5 Q5.length c5,.slice A6 Q6.length c6,.slice A7 Q7.length c7,.slice A8 Q8.length c8,.slice A9 Q9.length c9,.slice A10 Q10.length c10] 47 G:=⟨HR.out.src.below hbG,(hbG.block T HR.out.lt.1).trans HR.out.box,(hbG.block _ HR.out.lt.2).trans HR.out.res,HR.out.ne⟩
  have hCG:Below w.heap.size w G:=HCF.out.trans (hbG.mono HCF.out.size)
  have HR2:=hI0 hrG
  have HCG:=hI0 hCG
  have HBG:=hI0 hbG
  clear hrG hCG hbG KC
  by_cases hk:kk=0
  case neg=>
   have hk3:(kk != 0)=true:=by simpa using hk
   have HX:=hI0 (decSt_chk HD.out HED.out.symm (by rw [←HKK.out];exact hk))
   go_wp2_with (refine wpList_storeRow (cur:=#[.int .i64 0,.int .i64 0,.int .i64 0,.int .i64 0,.slice none 0 0,.slice none 0 0,.slice none 0 0,.slice none 0 0,.slice none 0 0,.slice none 0 0]) (vs:=#[.int .i64 0,.int .i64 0,.int .i64 0,.int .i64 0,.slice none 0 0,.slice none 0 0,.slice none 0 0,.slice none 0 0,.slice none 0 0,.slice none 0 0]) (.tmp 2) (.tmp 59) rfl rfl rfl rfl sz_sta rfl rfl HR2.out.res ?_;intro E hE hEc)
   have hbE:Below w.heap.size w E:=HCG.out.trans (hEc.below (by have:=HCG.out.size;omega) (fun i hi=>by omega))
   have HE:=hI0 hE
   have HEc:=hI0 hEc
   clear hE hEc
   have p0:E.cell? ⟨w.heap.size,0,none⟩=some (.int .i64 0):=cW0 E _ 0 _ _ _ HE.out
   have p1:E.cell? ⟨w.heap.size,1,none⟩=some (.int .i64 0):=cW0 E _ 1 _ _ _ HE.out
   have p2:E.cell? ⟨w.heap.size,2,none⟩=some (.int .i64 0):=cW0 E _ 2 _ _ _ HE.out
   have p3:E.cell? ⟨w.heap.size,3,none⟩=some (.int .i64 0):=cW0 E _ 3 _ _ _ HE.out
   have p4:E.cell? ⟨w.heap.size,4,none⟩=some (.slice none 0 0):=cW0 E _ 4 _ _ _ HE.out
   have p5:E.cell? ⟨w.heap.size,5,none⟩=some (.slice none 0 0):=cW0 E _ 5 _ _ _ HE.out
   have p6:E.cell? ⟨w.heap.size,6,none⟩=some (.slice none 0 0):=cW0 E _ 6 _ _ _ HE.out
   have p7:E.cell? ⟨w.heap.size,7,none⟩=some (.slice none 0 0):=cW0 E _ 7 _ _ _ HE.out
   have p8:E.cell? ⟨w.heap.size,8,none⟩=some (.slice none 0 0):=cW0 E _ 8 _ _ _ HE.out
   have p9:E.cell? ⟨w.heap.size,9,none⟩=some (.slice none 0 0):=cW0 E _ 9 _ _ _ HE.out
   exact bodyPost_ret (v:=.tuple #[.agg #[.int .i64 0,.int .i64 0,.int .i64 0,.int .i64 0,.slice none 0 0,.slice none 0 0,.slice none 0 0,.slice none 0 0,.slice none 0 0,.slice none 0 0],.int .i64 (kk)]) (by simp [results,Tryz.results26,go_sem,p0,p1,p2,p3,p4,p5,p6,p7,p8,p9]) rfl ⟨RSt.none_,by rw [HX.out,←HKK.out];rfl,by rw [HX.out];rfl,noneS_is _ _,(fun x hx=>nomatch hx),hbE⟩
  case pos=>
  subst hk
  have HX:=hI0 (decSt_ok HD.out HED.out.symm HKK.out.symm)
  go_wp2_with (first|(refine wpList_loadRow (cs:=#[.int .i64 n1,.int .i64 n2,.int .i64 n3,.int .i64 n4,.slice A5 Q5.length c5,.slice A6 Q6.length c6,.slice A7 Q7.length c7,.slice A8 Q8.length c8,.slice A9 Q9.length c9,.slice A10 Q10.length c10]) (T:=T) (.tmp 5) rfl rfl rfl sz_sta ag_sta HR2.out.box ?_)|(refine wpList_storeRow (cur:=#[.int .i64 0,.int .i64 0,.int .i64 0,.int .i64 0,.slice none 0 0,.slice none 0 0,.slice none 0 0,.slice none 0 0,.slice none 0 0,.slice none 0 0]) (vs:=#[.int .i64 n1,.int .i64 n2,.int .i64 n3,.int .i64 n4,.slice A5 Q5.length c5,.slice A6 Q6.length c6,.slice A7 Q7.length c7,.slice A8 Q8.length c8,.slice A9 Q9.length c9,.slice A10 Q10.length c10]) (.tmp 2) (.tmp 61) rfl rfl rfl rfl sz_sta rfl rfl HR2.out.res ?_;intro E hE hEc))
  have hbE:Below w.heap.size w E:=HCG.out.trans (hEc.below (by have:=HCG.out.size;omega) (fun i hi=>by omega))
  have hzE:=hEc.size
  have hisE:C.is E (fun b=>w.heap.size≤b∧b<E.heap.size):=RSt.is_kw HCIS.out (fun b hb=>(hEc.block b (by omega) (by show b≠w.heap.size;have:=hb.1;omega)).trans (HBG.out.block b hb.2)) (fun b hb=>⟨by have:=hb.1;omega,by have:=hb.2;omega⟩)
  have hxE:∀x∈C.ents,∀e∈x.create.chks,exAll E (fun b=>w.heap.size≤b∧b<E.heap.size) e:=fun x hx e he=>isK_X.wide (isK_X.keep (HCX.out x hx e he) (fun b hb=>(hEc.block b (by omega) (by show b≠w.heap.size;have:=hb.1;omega)).trans (HBG.out.block b hb.2))) (fun b hb=>⟨by have:=hb.1;omega,by have:=hb.2;omega⟩)
  rw [HCE.out] at hisE hxE
  have HE:=hI0 hE
  have HEc:=hI0 hEc
  clear hE hEc
  have p0:E.cell? ⟨w.heap.size,0,none⟩=some (.int .i64 n1):=cW0 E _ 0 _ _ _ HE.out
  have p1:E.cell? ⟨w.heap.size,1,none⟩=some (.int .i64 n2):=cW0 E _ 1 _ _ _ HE.out
  have p2:E.cell? ⟨w.heap.size,2,none⟩=some (.int .i64 n3):=cW0 E _ 2 _ _ _ HE.out
  have p3:E.cell? ⟨w.heap.size,3,none⟩=some (.int .i64 n4):=cW0 E _ 3 _ _ _ HE.out
  have p4:E.cell? ⟨w.heap.size,4,none⟩=some (.slice A5 Q5.length c5):=cW0 E _ 4 _ _ _ HE.out
  have p5:E.cell? ⟨w.heap.size,5,none⟩=some (.slice A6 Q6.length c6):=cW0 E _ 5 _ _ _ HE.out
  have p6:E.cell? ⟨w.heap.size,6,none⟩=some (.slice A7 Q7.length c7):=cW0 E _ 6 _ _ _ HE.out
  have p7:E.cell? ⟨w.heap.size,7,none⟩=some (.slice A8 Q8.length c8):=cW0 E _ 7 _ _ _ HE.out
  have p8:E.cell? ⟨w.heap.size,8,none⟩=some (.slice A9 Q9.length c9):=cW0 E _ 8 _ _ _ HE.out
  have p9:E.cell? ⟨w.heap.size,9,none⟩=some (.slice A10 Q10.length c10):=cW0 E _ 9 _ _ _ HE.out
  exact bodyPost_ret (v:=.tuple #[.agg #[.int .i64 n1,.int .i64 n2,.int .i64 n3,.int .i64 n4,.slice A5 Q5.length c5,.slice A6 Q6.length c6,.slice A7 Q7.length c7,.slice A8 Q8.length c8,.slice A9 Q9.length c9,.slice A10 Q10.length c10],.int .i64 (0)]) (by simp [results,Tryz.results26,go_sem,p0,p1,p2,p3,p4,p5,p6,p7,p8,p9]) rfl ⟨⟨n1,n2,n3,n4,A5,c5,Q5,A6,c6,Q6,A7,c7,Q7,A8,c8,Q8,A9,c9,Q9,A10,c10,Q10⟩,by rw [HX.out];rfl,by rw [HX.out,←HCER.out,HCE.out],hisE,hxE,hbE⟩
end Go.Proofs.YtbfdegkickjbpaaGreat
