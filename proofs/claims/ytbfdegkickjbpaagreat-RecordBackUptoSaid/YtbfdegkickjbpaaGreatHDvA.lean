/-
 DvA
-/
import Derived.Test.YtbfdegkickjbpaaGreatHDcF
namespace Go.Proofs.YtbfdegkickjbpaaGreat
set_option maxRecDepth 1000000
set_option maxHeartbeats 32000000
open Go.RowKit Go.Lib Go.IntWalk Go.Sort Go.Shelf
def rvP (x:Ver):VP:=(⟨x.id,x.sch,none,0,0,x.vf,x.vt,x.sf,x.st,x.by_,x.un⟩,x)
def verEr (p:VP):VP:=rvP p.2
def rdVerP (l:List UInt8) (s:Int×Int):VP×Int×Int:=(rvP (rdVer l s).1,(rdVer l s).2)
def verIs (w:World) (F:Nat→Prop) (p:VP):Prop:=VerIs w F p.1 p.2
theorem isK_V:IsK verIs:=⟨fun h hk=>h.keep hk,fun h hw=>h.wide hw⟩
theorem mon_VerP {l:List UInt8}:Mon l (rdVerP l):=by
 intro s h
 have h6:=mon_I (rdI l (rdP l (rdP l (rdR l (rdI l (rdI l s).2).2).2).2).2).2 h
 have h5:=mon_I (rdP l (rdP l (rdR l (rdI l (rdI l s).2).2).2).2).2 h6.1
 have h4:=mon_P (rdP l (rdR l (rdI l (rdI l s).2).2).2).2 h5.1
 have h3:=mon_P (rdR l (rdI l (rdI l s).2).2).2 h4.1
 have h2:=mon_R (rdI l (rdI l s).2).2 h3.1
 have h1:=mon_I (rdI l s).2 h2.1
 have h0:=mon_I s h1.1
 refine ⟨h0.1,?_,h6.2.2⟩
 show s.1+1≤(rdI l (rdI l (rdP l (rdP l (rdR l (rdI l (rdI l s).2).2).2).2).2).2).2.1
 have g0:=h0.2.1
 have g1:=h1.2.1
 have g2:=h2.2.1
 have g3:=h3.2.1
 have g4:=h4.2.1
 have g5:=h5.2.1
 have g6:=h6.2.1
 omega
theorem set9_at {w:World} {T:Nat} {a0 a1 a2 a3 a4 a5 a6 a7 a8:Value} {e:TypeId} (h:w.heap[T]? =some (.cells #[a0,a1,a2,a3,a4,a5,a6,a7,a8] e (0,0))) (c0 c1 c2 c3 c4 c5 c6 c7 c8:Value):(((((((((w.setCell ⟨T,0,none⟩ c0).setCell ⟨T,1,none⟩ c1).setCell ⟨T,2,none⟩ c2).setCell ⟨T,3,none⟩ c3).setCell ⟨T,4,none⟩ c4).setCell ⟨T,5,none⟩ c5).setCell ⟨T,6,none⟩ c6).setCell ⟨T,7,none⟩ c7).setCell ⟨T,8,none⟩ c8).heap[T]? =some (.cells #[c0,c1,c2,c3,c4,c5,c6,c7,c8] e (0,0)):=by
 have h0:=heap_setCell_same w T 0 _ _ c0 h
 have h1:=heap_setCell_same _ T 1 _ _ c1 h0
 have h2:=heap_setCell_same _ T 2 _ _ c2 h1
 have h3:=heap_setCell_same _ T 3 _ _ c3 h2
 have h4:=heap_setCell_same _ T 4 _ _ c4 h3
 have h5:=heap_setCell_same _ T 5 _ _ c5 h4
 have h6:=heap_setCell_same _ T 6 _ _ c6 h5
 have h7:=heap_setCell_same _ T 7 _ _ c7 h6
 have h8:=heap_setCell_same _ T 8 _ _ c8 h7
 simpa using h8
theorem set9_chg (w:World) (T:Nat) (c0 c1 c2 c3 c4 c5 c6 c7 c8:Value):Chg (·=T) w (((((((((w.setCell ⟨T,0,none⟩ c0).setCell ⟨T,1,none⟩ c1).setCell ⟨T,2,none⟩ c2).setCell ⟨T,3,none⟩ c3).setCell ⟨T,4,none⟩ c4).setCell ⟨T,5,none⟩ c5).setCell ⟨T,6,none⟩ c6).setCell ⟨T,7,none⟩ c7).setCell ⟨T,8,none⟩ c8):=
 (((((((((Chg.refl (·=T) w).setCell (p:=⟨T,0,none⟩) (.inl rfl) c0).setCell (p:=⟨T,1,none⟩) (.inl rfl) c1).setCell (p:=⟨T,2,none⟩) (.inl rfl) c2).setCell (p:=⟨T,3,none⟩) (.inl rfl) c3).setCell (p:=⟨T,4,none⟩) (.inl rfl) c4).setCell (p:=⟨T,5,none⟩) (.inl rfl) c5).setCell (p:=⟨T,6,none⟩) (.inl rfl) c6).setCell (p:=⟨T,7,none⟩) (.inl rfl) c7).setCell (p:=⟨T,8,none⟩) (.inl rfl) c8
theorem rdrVer_any (R:Nat) (v:Value) (l:List UInt8) (s:Int×Int) (w:World) (h:SrcAt w R v s) (hv:RdB w (·<R) v l):
  Calls Tryz.prog 124 #[.pointer (some ⟨R,0,none⟩)] w (OneE (fun x:VP=>.agg (encVP x).toArray) verIs verEr R v (rdVerP l s) w):=by
 rcases h1:rdI l s with ⟨n1,s1⟩
 rcases h2:rdI l s1 with ⟨n2,s2⟩
 rcases h3:rdR l s2 with ⟨xs3,s3⟩
 rcases h4:rdP l s3 with ⟨⟨f4,t4⟩,s4⟩
 rcases h5:rdP l s4 with ⟨⟨f5,t5⟩,s5⟩
 rcases h6:rdI l s5 with ⟨n6,s6⟩
 rcases h7:rdI l s6 with ⟨n7,s7⟩
 have hd:rdVerP l s=(rvP ⟨n1,n2,xs3,f4,t4,f5,t5,n6,n7⟩,s7):=by unfold rdVerP rdVer;simp only [h1,h2,h3,h4,h5,h6,h7]
 have hok3:∀x∈xs3,goV x:=by
  have e:xs3=(rdR l s2).1:=by rw [h3]
  rw [e]
  unfold rdR rdS
  split
  ·intro x hx;cases hx
  ·split<;>exact decR_ok l _
 rw [hd]
 obtain ⟨W,hW⟩:∃W,W=w.alloc (.cells #[.int .i64 0,.int .i64 0,.slice none 0 0,.int .i64 0,.int .i64 0,.int .i64 0,.int .i64 0,.int .i64 0,.int .i64 0] 167):=⟨_,rfl⟩
 have hR:=h.lt
 have hbW:Below w.heap.size w W:=by rw [hW];exact Below.of_alloc _
 have hWs:W.heap.size=w.heap.size+1:=by rw [hW];simp
 have hQ:W.heap[w.heap.size]? =some (.cells #[.int .i64 0,.int .i64 0,.slice none 0 0,.int .i64 0,.int .i64 0,.int .i64 0,.int .i64 0,.int .i64 0,.int .i64 0] 167 (0,0)):=by rw [hW];exact heap_alloc_new _ _
 have hS0:SrcAt W.drew R v s:=(h.below hbW).below (Below.refl _ _).drew
 have hC0:Chg (·=R) W W.drew:=(Chg.refl _ _).drew
 have hvW:∀V,Chg (·=R) W V→RdB V (·<R) v l:=fun V hV=>Rd.keep hv (fun b (hb:b<R)=>(hV.block b (by omega) (by omega)).trans (hbW.block b (by omega)))
 have K1:∀V,SrcAt V R v s→Chg (·=R) W V→Calls Tryz.prog 60 #[.pointer (some ⟨R,0,none⟩)] V fun x w'=>x=.returned (.int .i64 n1)∧SrcAt w' R v s1∧Chg (·=R) V w':=fun V hs hV=>by
  have k:=srcInt_any R v l s V hs (hvW V hV)
  rw [h1] at k
  exact k
 have K2:∀V,SrcAt V R v s1→Chg (·=R) W V→Calls Tryz.prog 60 #[.pointer (some ⟨R,0,none⟩)] V fun x w'=>x=.returned (.int .i64 n2)∧SrcAt w' R v s2∧Chg (·=R) V w':=fun V hs hV=>by
  have k:=srcInt_any R v l s1 V hs (hvW V hV)
  rw [h2] at k
  exact k
 have K3:∀V,SrcAt V R v s2→Chg (·=R) W V→Calls Tryz.prog 191 #[.pointer (some ⟨R,0,none⟩)] V fun x w'=>∃u,x=.returned u∧RdV w' (fun b=>V.heap.size≤b∧b<w'.heap.size) u xs3∧SrcAt w' R v s3∧Chg (·=R) V w':=fun V hs hV=>by
  have k:=srcRow_any R v l s2 V hs (hvW V hV)
  rw [h3] at k
  exact k
 have K4:∀V,SrcAt V R v s3→Chg (·=R) W V→Calls Tryz.prog 169 #[.pointer (some ⟨R,0,none⟩)] V fun x w'=>x=.returned (.agg #[.int .i64 f4,.int .i64 t4])∧SrcAt w' R v s4∧Chg (·=R) V w':=fun V hs hV=>by
  have k:=srcPeriod_any R v l s3 V hs (hvW V hV)
  rw [h4] at k
  exact k
 have K5:∀V,SrcAt V R v s4→Chg (·=R) W V→Calls Tryz.prog 169 #[.pointer (some ⟨R,0,none⟩)] V fun x w'=>x=.returned (.agg #[.int .i64 f5,.int .i64 t5])∧SrcAt w' R v s5∧Chg (·=R) V w':=fun V hs hV=>by
  have k:=srcPeriod_any R v l s4 V hs (hvW V hV)
  rw [h5] at k
  exact k
 have K6:∀V,SrcAt V R v s5→Chg (·=R) W V→Calls Tryz.prog 60 #[.pointer (some ⟨R,0,none⟩)] V fun x w'=>x=.returned (.int .i64 n6)∧SrcAt w' R v s6∧Chg (·=R) V w':=fun V hs hV=>by
  have k:=srcInt_any R v l s5 V hs (hvW V hV)
  rw [h6] at k
  exact k
 have K7:∀V,SrcAt V R v s6→Chg (·=R) W V→Calls Tryz.prog 60 #[.pointer (some ⟨R,0,none⟩)] V fun x w'=>x=.returned (.int .i64 n7)∧SrcAt w' R v s7∧Chg (·=R) V w':=fun V hs hV=>by
  have k:=srcInt_any R v l s6 V hs (hvW V hV)
  rw [h7] at k
  exact k
 have HQ:=hI0 hQ
 have HbW:=hI0 hbW
 have HOK3:=hI0 hok3
 clear h hv hd hvW hQ hbW h1 h2 h3 h4 h5 h6 h7 hok3
 go_enter Tryz.func124,Tryz.ntmps124
 go_wp2_with fail
 rw [←hW]
 clear hW
 refine wp_region_noPanic ?_
 refine wp_region_held_drew (S:=(fun _:World=>True)) (by kernel_rfl) ?_ (fun hHeld=>?_)
 ·trivial
 refine hT 0 3 hHeld ?_
 simp only [aP]
 refine hT 1 4 hHeld ?_
 simp only [aP]
 refine hT 2 5 hHeld ?_
 simp only [aP]
 refine hT 4 7 hHeld ?_
 simp only [aP]
 refine hT 5 8 hHeld ?_
 simp only [aP]
 refine hT 6 9 hHeld ?_
 simp only [aP]
 refine hT 8 11 hHeld ?_
 simp only [aP]
 refine hT 9 12 hHeld ?_
 simp only [aP]
 refine hT 10 13 hHeld ?_
 simp only [aP]
 refine hT 12 15 hHeld ?_
 simp only [aP]
 refine hT 13 16 hHeld ?_
 simp only [aP]
 refine hT 14 17 hHeld ?_
 simp only [aP]
 refine hT 16 19 hHeld ?_
 simp only [aP]
 refine hT 17 20 hHeld ?_
 simp only [aP]
 refine hT 18 21 hHeld ?_
 simp only [aP]
 refine hT 20 23 hHeld ?_
 simp only [aP]
 refine hT 21 24 hHeld ?_
 simp only [aP]
 refine hT 22 25 hHeld ?_
 simp only [aP]
 refine hT 24 27 hHeld ?_
 simp only [aP]
 refine hT 25 28 hHeld ?_
 simp only [aP]
 refine hT 26 29 hHeld ?_
 simp only [aP]
 refine hC 3 6 ?_
 (with_reducible refine (K1 _ hS0 hC0).mono ?_)
 rintro _ v1 ⟨rfl,hS1,hD1⟩
 have hC1:Chg (·=R) W v1:=hC0.trans hD1 (fun _ _ h=>h)
 refine ⟨_,rfl,keepAnd ?_ (fun hNew=>?_)⟩
 ·trivial
 clear hHeld
 have hHeld:=hNew
 clear hNew
 simp only [aP]
 refine hC 7 10 ?_
 (with_reducible refine (K2 _ hS1 hC1).mono ?_)
 rintro _ v2 ⟨rfl,hS2,hD2⟩
 have hC2:Chg (·=R) W v2:=hC1.trans hD2 (fun _ _ h=>h)
 refine ⟨_,rfl,keepAnd ?_ (fun hNew=>?_)⟩
 ·trivial
 clear hHeld
 have hHeld:=hNew
 clear hNew
 simp only [aP]
 refine hC 11 14 ?_
 (with_reducible refine (K3 _ hS2 hC2).mono ?_)
 rintro _ v3 ⟨u3,rfl,hU3,hS3,hD3⟩
 obtain ⟨A3,c3,rfl,_⟩:=Rd.open_ hU3
 have HU3:=hI0 hU3
 clear hU3
 have hC3:Chg (·=R) W v3:=hC2.trans hD3 (fun _ _ h=>h)
 refine ⟨_,rfl,keepAnd ?_ (fun hNew=>?_)⟩
 ·trivial
 clear hHeld
 have hHeld:=hNew
 clear hNew
 simp only [aP]
 refine hC 15 18 ?_
 (with_reducible refine (K4 _ hS3 hC3).mono ?_)
 rintro _ v4 ⟨rfl,hS4,hD4⟩
 have hC4:Chg (·=R) W v4:=hC3.trans hD4 (fun _ _ h=>h)
 refine ⟨_,rfl,keepAnd ?_ (fun hNew=>?_)⟩
 ·trivial
 clear hHeld
 have hHeld:=hNew
 clear hNew
 simp only [aP]
 refine hC 19 22 ?_
 (with_reducible refine (K5 _ hS4 hC4).mono ?_)
 rintro _ v5 ⟨rfl,hS5,hD5⟩
 have hC5:Chg (·=R) W v5:=hC4.trans hD5 (fun _ _ h=>h)
 refine ⟨_,rfl,keepAnd ?_ (fun hNew=>?_)⟩
 ·trivial
 clear hHeld
 have hHeld:=hNew
 clear hNew
 simp only [aP]
 refine hC 23 26 ?_
 (with_reducible refine (K6 _ hS5 hC5).mono ?_)
 rintro _ v6 ⟨rfl,hS6,hD6⟩
 have hC6:Chg (·=R) W v6:=hC5.trans hD6 (fun _ _ h=>h)
 refine ⟨_,rfl,keepAnd ?_ (fun hNew=>?_)⟩
 ·trivial
 clear hHeld
 have hHeld:=hNew
 clear hNew
 simp only [aP]
 refine hC 27 30 ?_
 (with_reducible refine (K7 _ hS6 hC6).mono ?_)
 rintro _ v7 ⟨rfl,hS7,hD7⟩
 have hC7:Chg (·=R) W v7:=hC6.trans hD7 (fun _ _ h=>h)
 refine ⟨_,rfl,keepAnd ?_ (fun hNew=>?_)⟩
 ·trivial
 clear hHeld
 have hHeld:=hNew
 clear hNew
 simp only [aP]
 refine hT 28 31 hHeld ?_
 simp only [aP]
 have hNew:(fun _:World=>True) ((((((((((v7.setCell ⟨w.heap.size,0,none⟩ (.int .i64 n1)).setCell ⟨w.heap.size,1,none⟩ (.int .i64 n2)).setCell ⟨w.heap.size,2,none⟩ (.slice A3 xs3.length c3)).setCell ⟨w.heap.size,3,none⟩ (.int .i64 f4)).setCell ⟨w.heap.size,4,none⟩ (.int .i64 t4)).setCell ⟨w.heap.size,5,none⟩ (.int .i64 f5)).setCell ⟨w.heap.size,6,none⟩ (.int .i64 t5)).setCell ⟨w.heap.size,7,none⟩ (.int .i64 n6)).setCell ⟨w.heap.size,8,none⟩ (.int .i64 n7))):=by trivial
 refine heldSkipRun 29 none (w':=(((((((((v7.setCell ⟨w.heap.size,0,none⟩ (.int .i64 n1)).setCell ⟨w.heap.size,1,none⟩ (.int .i64 n2)).setCell ⟨w.heap.size,2,none⟩ (.slice A3 xs3.length c3)).setCell ⟨w.heap.size,3,none⟩ (.int .i64 f4)).setCell ⟨w.heap.size,4,none⟩ (.int .i64 t4)).setCell ⟨w.heap.size,5,none⟩ (.int .i64 f5)).setCell ⟨w.heap.size,6,none⟩ (.int .i64 t5)).setCell ⟨w.heap.size,7,none⟩ (.int .i64 n6)).setCell ⟨w.heap.size,8,none⟩ (.int .i64 n7))) rfl rfl (by kernel_rfl) (by rfl) ?_ hNew ?_
 ·have hQn:v7.heap[w.heap.size]? =some (.cells #[.int .i64 0,.int .i64 0,.slice none 0 0,.int .i64 0,.int .i64 0,.int .i64 0,.int .i64 0,.int .i64 0,.int .i64 0] 167 (0,0)):=(hC7.block w.heap.size (by omega) (by omega)).trans HQ.out;have p0:v7.cell? ⟨w.heap.size,0,none⟩=some (.int .i64 0):=cW0 v7 _ 0 _ _ _ hQn;have p1:v7.cell? ⟨w.heap.size,1,none⟩=some (.int .i64 0):=cW0 v7 _ 1 _ _ _ hQn;have p2:v7.cell? ⟨w.heap.size,2,none⟩=some (.slice none 0 0):=cW0 v7 _ 2 _ _ _ hQn;have p3:v7.cell? ⟨w.heap.size,3,none⟩=some (.int .i64 0):=cW0 v7 _ 3 _ _ _ hQn;have p4:v7.cell? ⟨w.heap.size,4,none⟩=some (.int .i64 0):=cW0 v7 _ 4 _ _ _ hQn;have p5:v7.cell? ⟨w.heap.size,5,none⟩=some (.int .i64 0):=cW0 v7 _ 5 _ _ _ hQn;have p6:v7.cell? ⟨w.heap.size,6,none⟩=some (.int .i64 0):=cW0 v7 _ 6 _ _ _ hQn;have p7:v7.cell? ⟨w.heap.size,7,none⟩=some (.int .i64 0):=cW0 v7 _ 7 _ _ _ hQn;have p8:v7.cell? ⟨w.heap.size,8,none⟩=some (.int .i64 0):=cW0 v7 _ 8 _ _ _ hQn;have g0:v7.frozen? ⟨w.heap.size,0,none⟩=false:=fW0 v7 _ 0 _ _ hQn;have g1:v7.frozen? ⟨w.heap.size,1,none⟩=false:=fW0 v7 _ 1 _ _ hQn;have g2:v7.frozen? ⟨w.heap.size,2,none⟩=false:=fW0 v7 _ 2 _ _ hQn;have g3:v7.frozen? ⟨w.heap.size,3,none⟩=false:=fW0 v7 _ 3 _ _ hQn;have g4:v7.frozen? ⟨w.heap.size,4,none⟩=false:=fW0 v7 _ 4 _ _ hQn;have g5:v7.frozen? ⟨w.heap.size,5,none⟩=false:=fW0 v7 _ 5 _ _ hQn;have g6:v7.frozen? ⟨w.heap.size,6,none⟩=false:=fW0 v7 _ 6 _ _ hQn;have g7:v7.frozen? ⟨w.heap.size,7,none⟩=false:=fW0 v7 _ 7 _ _ hQn;have g8:v7.frozen? ⟨w.heap.size,8,none⟩=false:=fW0 v7 _ 8 _ _ hQn;go_simp<;>with_reducible rfl
 clear hHeld
 have hHeld:=hNew
 clear hNew
 simp only [Act.put]
 refine wpAnyH_done (by kernel_rfl) ?_ _
 refine NoPanic.normal ?_
 clear hHeld
 have hQn:v7.heap[w.heap.size]? =some (.cells #[.int .i64 0,.int .i64 0,.slice none 0 0,.int .i64 0,.int .i64 0,.int .i64 0,.int .i64 0,.int .i64 0,.int .i64 0] 167 (0,0)):=(hC7.block w.heap.size (by omega) (by omega)).trans HQ.out
 have hY9:=set9_at hQn (.int .i64 n1) (.int .i64 n2) (.slice A3 xs3.length c3) (.int .i64 f4) (.int .i64 t4) (.int .i64 f5) (.int .i64 t5) (.int .i64 n6) (.int .i64 n7)
 have hYc:=set9_chg v7 w.heap.size (.int .i64 n1) (.int .i64 n2) (.slice A3 xs3.length c3) (.int .i64 f4) (.int .i64 t4) (.int .i64 f5) (.int .i64 t5) (.int .i64 n6) (.int .i64 n7)
 generalize (((((((((v7.setCell ⟨w.heap.size,0,none⟩ (.int .i64 n1)).setCell ⟨w.heap.size,1,none⟩ (.int .i64 n2)).setCell ⟨w.heap.size,2,none⟩ (.slice A3 xs3.length c3)).setCell ⟨w.heap.size,3,none⟩ (.int .i64 f4)).setCell ⟨w.heap.size,4,none⟩ (.int .i64 t4)).setCell ⟨w.heap.size,5,none⟩ (.int .i64 f5)).setCell ⟨w.heap.size,6,none⟩ (.int .i64 t5)).setCell ⟨w.heap.size,7,none⟩ (.int .i64 n6)).setCell ⟨w.heap.size,8,none⟩ (.int .i64 n7))=Y at *
 have p0:Y.cell? ⟨w.heap.size,0,none⟩=some (.int .i64 n1):=cW0 Y _ 0 _ _ _ hY9
 have p1:Y.cell? ⟨w.heap.size,1,none⟩=some (.int .i64 n2):=cW0 Y _ 1 _ _ _ hY9
 have p2:Y.cell? ⟨w.heap.size,2,none⟩=some (.slice A3 xs3.length c3):=cW0 Y _ 2 _ _ _ hY9
 have p3:Y.cell? ⟨w.heap.size,3,none⟩=some (.int .i64 f4):=cW0 Y _ 3 _ _ _ hY9
 have p4:Y.cell? ⟨w.heap.size,4,none⟩=some (.int .i64 t4):=cW0 Y _ 4 _ _ _ hY9
 have p5:Y.cell? ⟨w.heap.size,5,none⟩=some (.int .i64 f5):=cW0 Y _ 5 _ _ _ hY9
 have p6:Y.cell? ⟨w.heap.size,6,none⟩=some (.int .i64 t5):=cW0 Y _ 6 _ _ _ hY9
 have p7:Y.cell? ⟨w.heap.size,7,none⟩=some (.int .i64 n6):=cW0 Y _ 7 _ _ _ hY9
 have p8:Y.cell? ⟨w.heap.size,8,none⟩=some (.int .i64 n7):=cW0 Y _ 8 _ _ _ hY9
 have hzY:=hYc.size
 have hz1:=hD1.size
 have hz2:=hD2.size
 have hz3:=hD3.size
 have hz4:=hD4.size
 have hz5:=hD5.size
 have hz6:=hD6.size
 have hz7:=hD7.size
 have hzc0:=hC0.size
 have hk3:=fr_keep (v:=v2) (((((Chg.refl (·=R) v3).trans hD4 (fun _ _ h=>h)).trans hD5 (fun _ _ h=>h)).trans hD6 (fun _ _ h=>h)).trans hD7 (fun _ _ h=>h)) hYc (by have:=hC2.size;omega) (by have:=hC2.size;omega)
 have hw3:=fr_wide (w:=w) (v:=v2) (v':=v3) (Y:=Y) (by have:=hC2.size;omega) (by omega)
 have hRw3:RdV Y (fun b=>w.heap.size≤b∧b<Y.heap.size) (.slice A3 xs3.length c3) xs3:=(Rd.keep HU3.out hk3).wide hw3
 have hSY:SrcAt Y R v s7:=(hYc.block R (by have:=hS7.lt;exact this) (by show R≠w.heap.size;omega)).trans hS7
 have hCY:Chg (·=R) w Y:=((Chg.of_below HbW.out _).trans hC7 (fun _ _ h=>h)).trans hYc (fun i hi (h:i=w.heap.size)=>by omega)
 have HSY:=hI0 hSY
 have HCY:=hI0 hCY
 have HRw3:=hI0 hRw3
 clear hSY hCY hQn hY9 hYc hS0 hC0 hS1 hC1 hD1 hz1 hS2 hC2 hD2 hz2 hS3 hC3 hD3 hz3 hS4 hC4 hD4 hz4 hS5 hC5 hD5 hz5 hS6 hC6 hD6 hz6 hS7 hC7 hD7 hz7 hk3 hw3 hRw3
 go_wp2_with fail
 exact bodyPost_ret (v:=.agg #[.int .i64 n1,.int .i64 n2,.slice A3 xs3.length c3,.int .i64 f4,.int .i64 t4,.int .i64 f5,.int .i64 t5,.int .i64 n6,.int .i64 n7]) (by simp [results,Tryz.results124,go_sem,p0,p1,p2,p3,p4,p5,p6,p7,p8]) rfl ⟨⟨⟨n1,n2,A3,xs3.length,c3,f4,t4,f5,t5,n6,n7⟩,⟨n1,n2,xs3,f4,t4,f5,t5,n6,n7⟩⟩,rfl,⟨rfl,rfl,rfl,rfl,rfl,rfl,rfl,rfl,HRw3.out,HOK3.out⟩,by first|rfl|(simp [verEr];done),HSY.out,HCY.out⟩
theorem info_Ver:(Tryz.prog.info? 167).map (fun i=>(i.zero,i.size,i.bytes))=some (some (.agg #[.int .i64 0,.int .i64 0,.slice none 0 0,.int .i64 0,.int .i64 0,.int .i64 0,.int .i64 0,.int .i64 0,.int .i64 0]),9,88):=by kernel_rfl
theorem getVer_any (R:Nat) (v:Value) (l:List UInt8) (rd:Int×Int→VP×Int×Int) (f:FuncId) (hf:EntF f) (s:Int×Int) (w:World) (h:SrcAt w R v s) (hv:RdB w (·<R) v l) (hl:l.length≤10000000000) (hmon:Mon l rd)
  (hone:∀s V,SrcAt V R v s→Chg (·=R) w V→Calls Tryz.prog f #[.pointer (some ⟨R,0,none⟩)] V (OneE (fun x:VP=>.agg (encVP x).toArray) verIs verEr R v (rd s) V)):
  Calls Tryz.prog 123 #[.pointer (some ⟨R,0,none⟩),.func (.func f) #[] #[]] w (GetE 9 encVP verIs verEr R v (rdL l rd s) w):=by
 rcases h1:rdI l s with ⟨n,k1,e1⟩
 have hR:=h.lt
 have KI:Calls Tryz.prog 60 #[.pointer (some ⟨R,0,none⟩)] w fun x w'=>x=.returned (.int .i64 n)∧SrcAt w' R v (k1,e1)∧Chg (·=R) w w':=by
  have k:=srcInt_any R v l s w h hv
  rw [h1] at k
  exact k
 have KV:∀s x s' V,rd s=(x,s')→SrcAt V R v s→Chg (·=R) w V→Calls Tryz.prog f #[.pointer (some ⟨R,0,none⟩)] V fun e w'=>∃x1 x2 xA xn xc x3 x4 x5 x6 x7 x8 xv,e=.returned (.agg #[.int .i64 x1,.int .i64 x2,.slice xA xn xc,.int .i64 x3,.int .i64 x4,.int .i64 x5,.int .i64 x6,.int .i64 x7,.int .i64 x8])∧verIs w' (fun b=>V.heap.size≤b∧b<w'.heap.size) (⟨⟨x1,x2,xA,xn,xc,x3,x4,x5,x6,x7,x8⟩,xv⟩:VP)∧verEr (⟨⟨x1,x2,xA,xn,xc,x3,x4,x5,x6,x7,x8⟩,xv⟩:VP)=x∧SrcAt w' R v s'∧Chg (·=R) V w':=fun s x s' V he hs hV=>by
  have k:=hone s V hs hV
  rw [he] at k
  exact k.mono fun e w' ⟨r,a1,a2,a3,a4,a5⟩=>by
   obtain ⟨⟨x1,x2,xA,xn,xc,x3,x4,x5,x6,x7,x8⟩,xv⟩:=r
   exact ⟨_,_,_,_,_,_,_,_,_,_,_,_,a1,a2,a3,a4,a5⟩
 clear h hv hone
 by_cases hneg:e1=0∧n<0
 case pos=>
  obtain ⟨rfl,hn⟩:=hneg
  rw [show rdL l rd s=([],k1,1) from by unfold rdL;rw [h1];exact if_pos ⟨rfl,hn⟩]
  clear KV h1 hf
  go_enter Tryz.func123,Tryz.ntmps123
  go_wp2_with fail
  (with_reducible refine KI.mono ?_)
  rintro _ w1 ⟨rfl,hs1,hc1⟩
  have c2:w1.cell? ⟨R,2,none⟩=some (.int .i64 0):=cW0 w1 R 2 _ _ _ hs1
  have f2:w1.frozen? ⟨R,2,none⟩=false:=fW0 w1 R 2 _ _ hs1
  have HS1:=hI0 hs1
  have HC1:=hI0 hc1
  clear hs1 hc1 KI
  go_wp2_with fail
  go_loopw [6,7] (fun o i wr=>o=.slice none 0 0∧i=.int .i64 0∧wr=w1.setCell ⟨R,2,none⟩ (.int .i64 1)) (fun _ _ _=>0)
  case atStart=>exact ⟨rfl,rfl,rfl⟩
  obtain ⟨rfl,rfl,hw⟩:=hrel
  rw [hw]
  clear hw
  have hnn:¬(0:Int)<n:=by omega
  go_wp2_with fail
  go_ret
  exact ⟨_,[],rfl,Rd.nil _ _ _,(fun p hp=>by cases hp),rfl,HS1.out.set2 1,Chg.setCell (S:=(·=R)) (p:=⟨R,2,none⟩) HC1.out (.inl rfl) _⟩
 have hn0:0≤n:=by
  by_cases he:e1=0
  ·have:¬n<0:=fun h=>hneg ⟨he,h⟩
   omega
  ·have:=rdI_err (l:=l) (s:=s) (by rw [h1];exact he)
   rw [h1] at this
   simp only at this
   omega
 obtain ⟨N,rfl⟩:=Int.eq_ofNat_of_zero_le hn0
 have hbd:=decI_bd l s.1
 have hN:(N:Int)≤9223372036854775807:=by
  have e:(N:Int)=(rdI l s).1:=by rw [h1]
  rw [e]
  unfold rdI rdS
  split
  ·omega
  ·split<;>exact hbd.2.1
 have hk1:e1=0→0≤k1∧k1≤l.length:=fun he=>by
  subst he
  have g:=rdI_mono h1
  obtain ⟨a,r,hl2,_,hm⟩:=decI_got g.2.2
  have:l.length=(a++encI N).length+r.length:=by rw [hl2];simp [Nat.add_assoc]
  omega
 rw [show rdL l rd s=getS rd N (k1,e1) from by unfold rdL;rw [h1];exact if_neg hneg]
 obtain ⟨res,hres⟩:∃r,r=getS rd N (k1,e1):=⟨_,rfl⟩
 rw [←hres]
 have HRES:=hI0 hres
 have HNEG:=hI0 hneg
 have HK1:=hI0 hk1
 obtain ⟨i0,hi,hz0,hz1,hz2⟩:=info_parts info_Ver
 have HI:=hI0 hi
 have HZ0:=hI0 hz0
 have HZ1:=hI0 hz1
 have HZ2:=hI0 hz2
 have KK:=hI0 KV
 have HMON:=hI0 hmon
 have HF_:=hI0 hf
 clear hf hi hz0 hz1 hz2 hres hneg hk1 hbd h1 KV hn0 hmon
 go_enter Tryz.func123,Tryz.ntmps123
 go_wp2_with fail
 (with_reducible refine KI.mono ?_)
 rintro _ w1 ⟨rfl,hs1,hc1⟩
 have c2:w1.cell? ⟨R,2,none⟩=some (.int .i64 e1):=cW0 w1 R 2 _ _ _ hs1
 have HS1:=hI0 hs1
 have HC1:=hI0 hc1
 clear hs1 hc1 KI
 have hcond:e1=0→¬(N:Int)<0:=fun _=>by omega
 have hN0:¬(N:Int)<0:=by omega
 go_wp2_with fail
 all_goals skip
 all_goals
  go_loopw [6,7] (fun o i wr=>∃(i':Nat) (Q:List VP) (st:Int×Int),i=.int .i64 (i':Int)∧i'≤N∧Q.length=i'∧Hid (OwnE 167 9 encVP wr w.heap.size o Q)∧Hid (∀p∈Q,verIs wr (fun b=>w.heap.size≤b∧b<wr.heap.size∧some b≠Value.ownBlock o) p)∧Hid (SrcAt wr R v st)∧Hid (Chg (·=R) w wr)∧Hid ((Q.map verEr++(getS rd (N-i') st).1,(getS rd (N-i') st).2)=res)∧i'≤l.length+1∧(st.2=0→(i':Int)≤st.1∧st.1≤l.length)) (fun _ i _=>N-(intOf i).toNat)
  case atStart=>exact ⟨0,[],(k1,e1),rfl,Nat.zero_le _,rfl,hI0 (World.ownsRow_nil _ _ _ _),hI0 (fun p hp=>by cases hp),HS1,HC1,hI0 HRES.out.symm,by omega,HK1.out⟩
  obtain ⟨i',Q,⟨k,er⟩,rfl,hi',hQl,HO,HR,HS,HC,HG,hil,hik⟩:=hrel
  obtain ⟨wi,rfl⟩:∃wi:World,wi=wr:=⟨_,rfl⟩
  obtain ⟨Ao,co,rfl,o1,o2,o3⟩:=Rd.open_ (Rd.of_own HO.out)
  rw [hQl] at o1
  have HRd:Hid (RdE 9 encVP wi (fun b=>w.heap.size≤b∧b<wi.heap.size) (.slice Ao i' co) Q∧∀p∈Q,verIs wi (fun b=>w.heap.size≤b∧b<wi.heap.size) p):=hI0 (by rw [←hQl];exact ⟨(Rd.of_own HO.out),fun p hp=>isK_V.wide (HR.out p hp) fun b hb=>⟨hb.1,hb.2.1⟩⟩)
  have c2:wi.cell? ⟨R,2,none⟩=some (.int .i64 er):=cW0 wi R 2 _ _ _ HS.out
  clear o3 o2
  by_cases hlt:i'<N
  case neg=>
   have hie:i'=N:=by omega
   have hil2:¬(i':Int)<(N:Int):=by omega
   have HF:Hid (res=(Q.map verEr,(k,er))):=hI0 (by rw [←HG.out,getS_stop (.inl (by omega))];simp)
   have HIE:=hI0 hie
   go_wp2_with fail
   go_ret
   rw [HF.out]
   exact ⟨_,Q,rfl,(by first|exact HRd.out.1|(have h:=HRd.out.1;rw [HIE.out] at h;exact h)),HRd.out.2,rfl,HS.out,HC.out⟩
  have hil2:(i':Int)<(N:Int):=by omega
  by_cases her:er=0
  case neg=>
   have HF:Hid (res=(Q.map verEr,(k,er))):=hI0 (by rw [←HG.out,getS_stop (.inr her)];simp)
   go_wp2_with fail
   go_ret
   rw [HF.out]
   exact ⟨_,Q,rfl,HRd.out.1,HRd.out.2,rfl,HS.out,HC.out⟩
  subst her
  have hik2:=hik rfl
  simp only at hik2
  rcases hx:rd (k,0) with ⟨x,st'⟩
  have hst:st'.2=0→(i':Int)+1≤st'.1∧st'.1≤l.length:=fun he=>by
   have:=HMON.out (k,0) (by rw [hx];exact he)
   rw [hx] at this
   simp only at this
   omega
  have KV:=KK.out (k,0) x st' wi hx HS.out HC.out
  have hgs:getS rd (N-i') (k,0)=(x::(getS rd (N-(i'+1)) st').1,(getS rd (N-(i'+1)) st').2):=by
   rw [show N-i'=(N-(i'+1))+1 by omega]
   exact getS_step rfl hx
  have HGS:=hI0 hgs
  have HST:=hI0 hst
  have HN:=hI0 (And.intro hil hik2)
  clear hgs hst hx hik hik2
  have hent:∀(args:Array Value) (V:World),(callFunc f args).run Tryz.prog V=.ok (.enter f args) V:=HF_.out
  go_wp2_with fail
  (with_reducible refine KV.mono ?_)
  rintro _ w2 ⟨x1,x2,xA,xn,xc,x3,x4,x5,x6,x7,x8,xv,rfl,hX,hxe,hs2,hc2⟩
  have hz2:=hc2.size
  have HX:=hI0 hX
  have HXE:=hI0 hxe
  have HS2:=hI0 hs2
  have HC2:=hI0 hc2
  clear hX hxe hs2 hc2 KV hent
  have hwi:w.heap.size≤wi.heap.size:=HC.out.size
  have HOA:=hI0 (getA (O:=(.cells #[.int .i64 x1,.int .i64 x2,.slice xA xn xc,.int .i64 x3,.int .i64 x4,.int .i64 x5,.int .i64 x6,.int .i64 x7,.int .i64 x8] 167)) hQl hR HO.out HC2.out)
  have HNEW:=hI0 (Rd.new' w2 w2.heap.size rfl [.int .i64 x1,.int .i64 x2,.slice xA xn xc,.int .i64 x3,.int .i64 x4,.int .i64 x5,.int .i64 x6,.int .i64 x7,.int .i64 x8] 167 9 1 rfl (by decide))
  have hi5:i'≤10000000001:=by have:=HN.out.1;omega
  go_wp2_with (at_builtin;refine wpList_append_app (w2.alloc (.cells #[.int .i64 x1,.int .i64 x2,.slice xA xn xc,.int .i64 x3,.int .i64 x4,.int .i64 x5,.int .i64 x6,.int .i64 x7,.int .i64 x8] 167)) rfl (.tmp 39) (.tmp 43) 55 rfl w.heap.size 167 i0 _ 9 88 Tryz.underlying55 HI.out HZ0.out HZ1.out HZ2.out rfl (by omega) (.slice Ao i' co) i' (Q.flatMap encVP) rfl (.inl HOA.out) (·=w2.heap.size) _ 1 [.int .i64 x1,.int .i64 x2,.slice xA xn xc,.int .i64 x3,.int .i64 x4,.int .i64 x5,.int .i64 x6,.int .i64 x7,.int .i64 x8] rfl HNEW.out (fun u hu=>by simp only [List.mem_cons,List.not_mem_nil,or_false] at hu;rcases hu with rfl|rfl|rfl|rfl|rfl|rfl|rfl|rfl|rfl<;>rfl) (by unfold maxLen;omega) (by omega) (by simp;omega) ?_;intro v3 w3 _ hO3 hg3 hb3 hv3)
  all_goals skip
  have HB4:=hI0 (getB (x:=(⟨⟨x1,x2,xA,xn,xc,x3,x4,x5,x6,x7,x8⟩,xv⟩:VP)) isK_V hQl hR HO.out HR.out HC.out HX.out HS2.out HC2.out (hO3 (.inl (by omega))) hg3 hv3)
  clear hO3 hg3 hb3 hv3
  go_wp2_with fail
  go_roundw
  case rel=>
   refine ⟨i'+1,Q++[(⟨⟨x1,x2,xA,xn,xc,x3,x4,x5,x6,x7,x8⟩,xv⟩:VP)],st',by go_num,by omega,by simp [hQl],hI0 HB4.out.1,hI0 HB4.out.2.1,hI0 HB4.out.2.2.1,hI0 HB4.out.2.2.2,hI0 ?_,?_,?_⟩
   ·rw [←HG.out,HGS.out,List.map_append,List.map_singleton,HXE.out];simp
   ·have:=HN.out;omega
   ·intro he;have:=HST.out he;omega
  case measure=>simp [intOf];omega
def decV2 (l:List UInt8):List Ver×Int:=
 if 1048576<l.length then ([],5)
 else if endE (rdL l (rdVerP l) (0,0)).2 l.length≠0 then ([],endE (rdL l (rdVerP l) (0,0)).2 l.length)
 else if 4096<(rdL l (rdVerP l) (0,0)).1.length then ([],5)
 else if chkFrom none ((rdL l (rdVerP l) (0,0)).1.map (·.2))≠0 then ([],chkFrom none ((rdL l (rdVerP l) (0,0)).1.map (·.2)))
 else ((rdL l (rdVerP l) (0,0)).1.map (·.2),0)
def DecV2 (res:List Ver×Int) (w0:World) (e:Ending) (w:World):Prop:=
 ∃u Q,e=.returned (.tuple #[u,.int .i64 res.2])∧RdVs w (fun b=>w0.heap.size≤b∧b<w.heap.size) u Q∧Q.map (·.2)=res.1∧Below w0.heap.size w0 w
theorem DecV2.no {w0 w:World} {c:Int} {e:Ending} (he:e=.returned (.tuple #[.slice none 0 0,.int .i64 c])) (hb:Below w0.heap.size w0 w):DecV2 ([],c) w0 e w:=⟨_,[],he,⟨Rd.nil _ _ _,fun p hp=>by cases hp⟩,rfl,hb⟩
theorem decodeV2_any (v:Value) (l:List UInt8) (w:World) (hv:RdB w (·<w.heap.size) v l):
  Calls Tryz.prog 28 #[v] w (DecV2 (decV2 l) w):=by
 obtain ⟨Av,cv,rfl,y1,y2,y3⟩:=Rd.open_ hv
 unfold maxLen at y2
 have HV:=hI0 hv
 clear hv y3
 by_cases hl:1048576<l.length
 case pos=>
  rw [show decV2 l=([],5) from if_pos hl]
  have hli:(1048576:Int)<(l.length:Int):=by omega
  go_enter Tryz.func28,Tryz.ntmps28
  go_wp2_with fail
  go_ret2
  exact DecV2.no rfl (Below.refl _ _)
 have hli:¬(1048576:Int)<(l.length:Int):=by omega
 rw [show decV2 l=_ from if_neg hl]
 obtain ⟨W,hW⟩:∃W,W=w.alloc (.cells #[.slice Av l.length cv,.int .i64 0,.int .i64 0] 130):=⟨_,rfl⟩
 have hbW:Below w.heap.size w W:=by rw [hW];exact Below.of_alloc _
 have hWs:W.heap.size=w.heap.size+1:=by rw [hW];simp
 have hS:SrcAt W w.heap.size (.slice Av l.length cv) (0,0):=by rw [hW];exact heap_alloc_new _ _
 have hVW:RdB W (·<w.heap.size) (.slice Av l.length cv) l:=Rd.keep HV.out (fun b hb=>hbW.block b hb)
 have KG:=getVer_any w.heap.size _ l (rdVerP l) 124 (entF Tryz.func124) (0,0) W hS hVW (by omega) mon_VerP (fun s U hsU hU=>rdrVer_any _ _ l s U hsU (Rd.keep hVW (fun b (hb:b<w.heap.size)=>hU.block b (by omega) (by omega))))
 rcases hr:rdL l (rdVerP l) (0,0) with ⟨vs0,st⟩
 rw [hr] at KG
 obtain ⟨vs,hvs⟩:∃vs,vs=vs0.map (·.2):=⟨_,rfl⟩
 have HVS:=hI0 hvs
 have HBW:=hI0 hbW
 have HVW:=hI0 hVW
 simp only
 rw [show vs0.length=vs.length by rw [hvs,List.length_map],←hvs]
 clear hr hbW hS hVW hvs
 obtain ⟨ee,hee⟩:∃ee,ee=endE st l.length:=⟨_,rfl⟩
 rw [←hee]
 obtain ⟨ce,hce⟩:∃ce,ce=chkFrom none vs:=⟨_,rfl⟩
 rw [←hce]
 have HEE:=hI0 hee
 have HCE:=hI0 hce
 clear hee hce
 obtain ⟨res,hres⟩:∃r,r=(if ee≠0 then (([]:List Ver),ee) else if 4096<vs.length then ([],5) else if ce≠0 then ([],ce) else (vs,0)):=⟨_,rfl⟩
 rw [←hres]
 have HRES:=hI0 hres
 clear hres
 go_enter Tryz.func28,Tryz.ntmps28
 go_wp2_with fail
 rw [←hW]
 clear hW
 (with_reducible refine KG.mono ?_)
 rintro _ w1 ⟨u,Q,rfl,hQ1,hQ2,hQe,hs1,hc1⟩
 simp only at hQe hs1
 have hQ:RdVs w1 (fun b=>w.heap.size<b∧b<w1.heap.size) u Q:=⟨Rd.wide hQ1 (fun b hb=>⟨by have:=hb.1;omega,hb.2⟩),fun p hp=>(hQ2 p hp).wide (fun b hb=>⟨by have:=hb.1;omega,hb.2⟩)⟩
 have hQm:Q.map (·.2)=vs:=by rw [HVS.out,←hQe,List.map_map];rfl
 clear hQ1 hQ2 hQe
 have KE:=srcEnd_any w.heap.size _ l st w1 hs1 (Rd.keep HVW.out (fun b (hb:b<w.heap.size)=>hc1.block b (by omega) (by omega)))
 rw [←HEE.out] at KE
 obtain ⟨Aq,cq,rfl,q1,q2,q3⟩:=hQ.1.open_
 unfold maxLen at q2
 have hb1:Below w.heap.size w w1:=HBW.out.trans (hc1.below (by omega) (fun b (hb:b=w.heap.size)=>by omega))
 have HQ:=hI0 hQ
 have HQM:=hI0 hQm
 have HB1:=hI0 hb1
 have hz1:=hc1.size
 have HQL:Hid (Q.length=vs.length):=hI0 (by rw [←hQm,List.length_map])
 clear hQ hQm hs1 hc1 q3 hb1 KG
 go_wp2_with fail
 (with_reducible refine KE.mono ?_)
 rintro _ w2 ⟨rfl,hb2⟩
 have hB2:Below w.heap.size w w2:=HB1.out.trans (hb2.mono (by omega))
 have HB2:=hI0 hB2
 have HQ2:Hid (RdVs w2 (fun b=>w.heap.size≤b∧b<w2.heap.size) (.slice Aq Q.length cq) Q):=hI0 ((HQ.out.keep (fun b (hb:w.heap.size<b∧b<w1.heap.size)=>hb2.block b hb.2)).wide (fun b (hb:w.heap.size<b∧b<w1.heap.size)=>⟨by omega,by have:=hb2.size;omega⟩))
 clear hb2 hB2 KE
 by_cases he:ee=0
 case neg=>
  have HR:Hid (res=([],ee)):=hI0 (by rw [HRES.out,if_pos he])
  go_wp2_with fail
  go_ret2
  rw [HR.out]
  exact DecV2.no rfl HB2.out
 by_cases hq:4096<Q.length
 case pos=>
  have HR:Hid (res=([],5)):=hI0 (by rw [HRES.out,if_neg (by simpa using he),if_pos (by have:=HQL.out;omega)])
  have hqi:(4096:Int)<(Q.length:Int):=by omega
  go_wp2_with fail
  go_ret2
  rw [HR.out]
  exact DecV2.no rfl HB2.out
 have hqi:¬(4096:Int)<(Q.length:Int):=by omega
 have KC:=checkVersions_any _ Q w2 (HQ2.out.wide (fun b hb=>hb.2))
 rw [HQM.out,←HCE.out] at KC
 have HQV:Hid (¬ 4096<vs.length):=hI0 (by have:=HQL.out;omega)
 go_wp2_with fail
 (with_reducible refine KC.mono ?_)
 rintro _ w3 ⟨rfl,hb3⟩
 have hB3:Below w.heap.size w w3:=HB2.out.trans (hb3.mono HB2.out.size)
 have HB3:=hI0 hB3
 have HQ3:Hid (RdVs w3 (fun b=>w.heap.size≤b∧b<w3.heap.size) (.slice Aq Q.length cq) Q):=hI0 ((HQ2.out.keep (fun b hb=>hb3.block b hb.2)).wide (fun b hb=>⟨hb.1,by have:=hb3.size;have:=hb.2;omega⟩))
 clear KC hB3 hb3
 by_cases hc:ce=0
 case neg=>
  have HR:Hid (res=([],ce)):=hI0 (by rw [HRES.out,if_neg (by simpa using he),if_neg HQV.out,if_pos hc])
  go_wp2_with fail
  go_ret2
  rw [HR.out]
  exact DecV2.no rfl HB3.out
 have HR:Hid (res=(vs,0)):=hI0 (by rw [HRES.out,if_neg (by simpa using he),if_neg HQV.out,if_neg (by simpa using hc)])
 go_wp2_with fail
 go_ret2
 rw [HR.out]
 exact ⟨_,Q,rfl,HQ3.out,HQM.out,HB3.out⟩
end Go.Proofs.YtbfdegkickjbpaaGreat
