/-
 DcF
-/
import Derived.Test.YtbfdegkickjbpaaGreatHDcD
import Derived.Test.YtbfdegkickjbpaaGreatHDcE
namespace Go.Proofs.YtbfdegkickjbpaaGreat
set_option maxRecDepth 1000000
set_option maxHeartbeats 32000000
open Go.RowKit Go.Lib Go.IntWalk Go.Sort Go.Shelf
theorem zq5 {P:Prop} (i:Nat) (h:Tg i→P:=by
 intro zT5
 rcases h1:rdT l s with ⟨n1,s1⟩
 first
  |guard_hyp zT5:Tg 3
   rcases h2:rdI l s1 with ⟨n2,s2⟩
   have hd:rdPol l s=((⟨n1,n2⟩:Pol),s2):=by unfold rdPol;simp only [h1,h2]
  |guard_hyp zT5:Tg 2
   rcases h2:rdI l s1 with ⟨n2,s2⟩
   have hd:rdHor l s=((⟨n1,n2⟩:Hor),s2):=by unfold rdHor;simp only [h1,h2]
  |guard_hyp zT5:Tg 1
   rcases h2:rdI l s1 with ⟨n2,s2⟩
   rcases h3:rdBool l s2 with ⟨n3,s3⟩
   have hd:rdCol l s=((⟨n1,n2,n3⟩:RCol),s3):=by unfold rdCol;simp only [h1,h2,h3]
  |rcases h2:rdT l s1 with ⟨n2,s2⟩
   rcases h3:rdP l s2 with ⟨⟨f3,t3⟩,s3⟩
   rcases h4:rdP l s3 with ⟨⟨f4,t4⟩,s4⟩
   have hd:rdHld l s=((⟨n1,n2,f3,t3,f4,t4⟩:Hld),s4):=by unfold rdHld;simp only [h1,h2,h3,h4]
 rw [hd]
 first
  |guard_hyp zT5:Tg 3
   obtain ⟨W,hW⟩:∃W,W=w.alloc (.cells #[.string ⟨#[]⟩,.int .i64 0] 117):=⟨_,rfl⟩
  |guard_hyp zT5:Tg 2
   obtain ⟨W,hW⟩:∃W,W=w.alloc (.cells #[.string ⟨#[]⟩,.int .i64 0] 122):=⟨_,rfl⟩
  |guard_hyp zT5:Tg 1
   obtain ⟨W,hW⟩:∃W,W=w.alloc (.cells #[.string ⟨#[]⟩,.int .i64 0,.bool false] 77):=⟨_,rfl⟩
  |obtain ⟨W,hW⟩:∃W,W=w.alloc (.cells #[.string ⟨#[]⟩,.string ⟨#[]⟩,.int .i64 0,.int .i64 0,.int .i64 0,.int .i64 0] 109):=⟨_,rfl⟩
 have hR:=h.lt
 have hbW:Below w.heap.size w W:=by rw [hW];exact Below.of_alloc _
 have hWs:W.heap.size=w.heap.size+1:=by rw [hW];simp
 first
  |guard_hyp zT5:Tg 3
   have hQ:W.heap[w.heap.size]? =some (.cells #[.string ⟨#[]⟩,.int .i64 0] 117 (0,0)):=by rw [hW];exact heap_alloc_new _ _
  |guard_hyp zT5:Tg 2
   have hQ:W.heap[w.heap.size]? =some (.cells #[.string ⟨#[]⟩,.int .i64 0] 122 (0,0)):=by rw [hW];exact heap_alloc_new _ _
  |guard_hyp zT5:Tg 1
   have hQ:W.heap[w.heap.size]? =some (.cells #[.string ⟨#[]⟩,.int .i64 0,.bool false] 77 (0,0)):=by rw [hW];exact heap_alloc_new _ _
  |have hQ:W.heap[w.heap.size]? =some (.cells #[.string ⟨#[]⟩,.string ⟨#[]⟩,.int .i64 0,.int .i64 0,.int .i64 0,.int .i64 0] 109 (0,0)):=by rw [hW];exact heap_alloc_new _ _
 have hS0:SrcAt W.drew R v s:=(h.below hbW).below (Below.refl _ _).drew
 have hC0:Chg (·=R) W W.drew:=(Chg.refl _ _).drew
 have hvW:∀V,Chg (·=R) W V→RdB V (·<R) v l:=fun V hV=>Rd.keep hv (fun b (hb:b<R)=>(hV.block b (by omega) (by omega)).trans (hbW.block b (by omega)))
 have K1:∀V,SrcAt V R v s→Chg (·=R) W V→Calls Tryz.prog 122 #[.pointer (some ⟨R,0,none⟩)] V fun x w'=>x=.returned (.string n1)∧SrcAt w' R v s1∧Chg (·=R) V w':=fun V hs hV=>by
  have k:=srcText_any R v l s V hs (hvW V hV)
  rw [h1] at k
  exact k
 first
  |guard_hyp zT5:Tg 3
   have K2:∀V,SrcAt V R v s1→Chg (·=R) W V→Calls Tryz.prog 60 #[.pointer (some ⟨R,0,none⟩)] V fun x w'=>x=.returned (.int .i64 n2)∧SrcAt w' R v s2∧Chg (·=R) V w':=fun V hs hV=>by
    exact zq72
  |guard_hyp zT5:Tg 2
   have K2:∀V,SrcAt V R v s1→Chg (·=R) W V→Calls Tryz.prog 60 #[.pointer (some ⟨R,0,none⟩)] V fun x w'=>x=.returned (.int .i64 n2)∧SrcAt w' R v s2∧Chg (·=R) V w':=fun V hs hV=>by
    exact zq72
  |guard_hyp zT5:Tg 1
   have K2:∀V,SrcAt V R v s1→Chg (·=R) W V→Calls Tryz.prog 60 #[.pointer (some ⟨R,0,none⟩)] V fun x w'=>x=.returned (.int .i64 n2)∧SrcAt w' R v s2∧Chg (·=R) V w':=fun V hs hV=>by
    exact zq72
   have K3:∀V,SrcAt V R v s2→Chg (·=R) W V→Calls Tryz.prog 220 #[.pointer (some ⟨R,0,none⟩)] V fun x w'=>x=.returned (.bool n3)∧SrcAt w' R v s3∧Chg (·=R) V w':=fun V hs hV=>by
    have k:=srcBool_any R v l s2 V hs (hvW V hV)
    rw [h3] at k
    exact k
  |have K2:∀V,SrcAt V R v s1→Chg (·=R) W V→Calls Tryz.prog 122 #[.pointer (some ⟨R,0,none⟩)] V fun x w'=>x=.returned (.string n2)∧SrcAt w' R v s2∧Chg (·=R) V w':=fun V hs hV=>by
    have k:=srcText_any R v l s1 V hs (hvW V hV)
    rw [h2] at k
    exact k
   have K3:∀V,SrcAt V R v s2→Chg (·=R) W V→Calls Tryz.prog 169 #[.pointer (some ⟨R,0,none⟩)] V fun x w'=>x=.returned (.agg #[.int .i64 f3,.int .i64 t3])∧SrcAt w' R v s3∧Chg (·=R) V w':=fun V hs hV=>by
    have k:=srcPeriod_any R v l s2 V hs (hvW V hV)
    rw [h3] at k
    exact k
   have K4:∀V,SrcAt V R v s3→Chg (·=R) W V→Calls Tryz.prog 169 #[.pointer (some ⟨R,0,none⟩)] V fun x w'=>x=.returned (.agg #[.int .i64 f4,.int .i64 t4])∧SrcAt w' R v s4∧Chg (·=R) V w':=fun V hs hV=>by
    have k:=srcPeriod_any R v l s3 V hs (hvW V hV)
    rw [h4] at k
    exact k
 have HQ:=hI0 hQ
 have HbW:=hI0 hbW
 first
  |guard_hyp zT5:Tg 3
   clear h hv hd hvW hQ hbW h1 h2
   go_enter Tryz.func70,Tryz.ntmps70
  |guard_hyp zT5:Tg 2
   clear h hv hd hvW hQ hbW h1 h2
   go_enter Tryz.func72,Tryz.ntmps72
  |guard_hyp zT5:Tg 1
   clear h hv hd hvW hQ hbW h1 h2 h3
   go_enter Tryz.func163,Tryz.ntmps163
  |clear h hv hd hvW hQ hbW h1 h2 h3 h4
   go_enter Tryz.func66,Tryz.ntmps66
 go_wp2_with fail
 rw [←hW]
 clear hW
 refine wp_region_noPanic ?_
 refine wp_region_held_drew (S:=(fun _:World=>True)) (by kernel_rfl) ?_ (fun hHeld=>?_)
 ·trivial
 refine hT 0 3 hHeld ?_
 simp only [aP]
 refine hT 1 4 hHeld ?_
 simp only [aP]
 refine hT 2 5 hHeld ?_
 simp only [aP]
 refine hT 4 7 hHeld ?_
 simp only [aP]
 refine hT 5 8 hHeld ?_
 simp only [aP]
 refine hT 6 9 hHeld ?_
 first
  |guard_hyp zT5:Tg 3
  |guard_hyp zT5:Tg 2
  |simp only [aP]
   refine hT 8 11 hHeld ?_
   simp only [aP]
   refine hT 9 12 hHeld ?_
   simp only [aP]
   refine hT 10 13 hHeld ?_
   first
    |guard_hyp zT5:Tg 1
    |simp only [aP]
     refine hT 12 15 hHeld ?_
     simp only [aP]
     refine hT 13 16 hHeld ?_
     simp only [aP]
     refine hT 14 17 hHeld ?_
 simp only [aP]
 refine hC 3 6 ?_
 (with_reducible refine (K1 _ hS0 hC0).mono ?_)
 rintro _ v1 ⟨rfl,hS1,hD1⟩
 have hC1:Chg (·=R) W v1:=hC0.trans hD1 (fun _ _ h=>h)
 refine ⟨_,rfl,keepAnd ?_ (fun hNew=>?_)⟩
 ·trivial
 clear hHeld
 have hHeld:=hNew
 clear hNew
 simp only [aP]
 refine hC 7 10 ?_
 (with_reducible refine (K2 _ hS1 hC1).mono ?_)
 rintro _ v2 ⟨rfl,hS2,hD2⟩
 have hC2:Chg (·=R) W v2:=hC1.trans hD2 (fun _ _ h=>h)
 refine ⟨_,rfl,keepAnd ?_ (fun hNew=>?_)⟩
 ·trivial
 clear hHeld
 have hHeld:=hNew
 clear hNew
 simp only [aP]
 first
  |guard_hyp zT5:Tg 3
   refine hT 8 11 hHeld ?_
  |guard_hyp zT5:Tg 2
   refine hT 8 11 hHeld ?_
  |refine hC 11 14 ?_
   (with_reducible refine (K3 _ hS2 hC2).mono ?_)
   rintro _ v3 ⟨rfl,hS3,hD3⟩
   have hC3:Chg (·=R) W v3:=hC2.trans hD3 (fun _ _ h=>h)
   refine ⟨_,rfl,keepAnd ?_ (fun hNew=>?_)⟩
   ·trivial
   clear hHeld
   have hHeld:=hNew
   clear hNew
 simp only [aP]
 first
  |guard_hyp zT5:Tg 3
   have hNew:(fun _:World=>True) (((v2.setCell ⟨w.heap.size,0,none⟩ (.string n1)).setCell ⟨w.heap.size,1,none⟩ (.int .i64 n2))):=by trivial
   refine heldSkipRun 9 none (w':=((v2.setCell ⟨w.heap.size,0,none⟩ (.string n1)).setCell ⟨w.heap.size,1,none⟩ (.int .i64 n2))) rfl rfl (by kernel_rfl) (by rfl) ?_ hNew ?_
  |guard_hyp zT5:Tg 2
   have hNew:(fun _:World=>True) (((v2.setCell ⟨w.heap.size,0,none⟩ (.string n1)).setCell ⟨w.heap.size,1,none⟩ (.int .i64 n2))):=by trivial
   refine heldSkipRun 9 none (w':=((v2.setCell ⟨w.heap.size,0,none⟩ (.string n1)).setCell ⟨w.heap.size,1,none⟩ (.int .i64 n2))) rfl rfl (by kernel_rfl) (by rfl) ?_ hNew ?_
  |first
    |guard_hyp zT5:Tg 1
     refine hT 12 15 hHeld ?_
    |refine hC 15 18 ?_
     (with_reducible refine (K4 _ hS3 hC3).mono ?_)
     rintro _ v4 ⟨rfl,hS4,hD4⟩
     have hC4:Chg (·=R) W v4:=hC3.trans hD4 (fun _ _ h=>h)
     refine ⟨_,rfl,keepAnd ?_ (fun hNew=>?_)⟩
     ·trivial
     clear hHeld
     have hHeld:=hNew
     clear hNew
   simp only [aP]
   first
    |guard_hyp zT5:Tg 1
     have hNew:(fun _:World=>True) ((((v3.setCell ⟨w.heap.size,0,none⟩ (.string n1)).setCell ⟨w.heap.size,1,none⟩ (.int .i64 n2)).setCell ⟨w.heap.size,2,none⟩ (.bool n3))):=by trivial
     refine heldSkipRun 13 none (w':=(((v3.setCell ⟨w.heap.size,0,none⟩ (.string n1)).setCell ⟨w.heap.size,1,none⟩ (.int .i64 n2)).setCell ⟨w.heap.size,2,none⟩ (.bool n3))) rfl rfl (by kernel_rfl) (by rfl) ?_ hNew ?_
    |refine hT 16 19 hHeld ?_
     simp only [aP]
     refine hT 17 20 hHeld ?_
     simp only [aP]
     have hNew:(fun _:World=>True) (((((((v4.setCell ⟨w.heap.size,0,none⟩ (.string n1)).setCell ⟨w.heap.size,1,none⟩ (.string n2)).setCell ⟨w.heap.size,2,none⟩ (.int .i64 f3)).setCell ⟨w.heap.size,3,none⟩ (.int .i64 t3)).setCell ⟨w.heap.size,4,none⟩ (.int .i64 f4)).setCell ⟨w.heap.size,5,none⟩ (.int .i64 t4))):=by trivial
     refine heldSkipRun 18 none (w':=((((((v4.setCell ⟨w.heap.size,0,none⟩ (.string n1)).setCell ⟨w.heap.size,1,none⟩ (.string n2)).setCell ⟨w.heap.size,2,none⟩ (.int .i64 f3)).setCell ⟨w.heap.size,3,none⟩ (.int .i64 t3)).setCell ⟨w.heap.size,4,none⟩ (.int .i64 f4)).setCell ⟨w.heap.size,5,none⟩ (.int .i64 t4))) rfl rfl (by kernel_rfl) (by rfl) ?_ hNew ?_
 ·first
   |guard_hyp zT5:Tg 3
    have hQn:v2.heap[w.heap.size]? =some (.cells #[.string ⟨#[]⟩,.int .i64 0] 117 (0,0)):=(hC2.block w.heap.size (by omega) (by omega)).trans HQ.out;have p0:v2.cell? ⟨w.heap.size,0,none⟩=some (.string ⟨#[]⟩):=cW0 v2 _ 0 _ _ _ hQn;have p1:v2.cell? ⟨w.heap.size,1,none⟩=some (.int .i64 0):=cW0 v2 _ 1 _ _ _ hQn;have g0:v2.frozen? ⟨w.heap.size,0,none⟩=false:=fW0 v2 _ 0 _ _ hQn;have g1:v2.frozen? ⟨w.heap.size,1,none⟩=false:=fW0 v2 _ 1 _ _ hQn;go_simp<;>with_reducible rfl
   |guard_hyp zT5:Tg 2
    have hQn:v2.heap[w.heap.size]? =some (.cells #[.string ⟨#[]⟩,.int .i64 0] 122 (0,0)):=(hC2.block w.heap.size (by omega) (by omega)).trans HQ.out;have p0:v2.cell? ⟨w.heap.size,0,none⟩=some (.string ⟨#[]⟩):=cW0 v2 _ 0 _ _ _ hQn;have p1:v2.cell? ⟨w.heap.size,1,none⟩=some (.int .i64 0):=cW0 v2 _ 1 _ _ _ hQn;have g0:v2.frozen? ⟨w.heap.size,0,none⟩=false:=fW0 v2 _ 0 _ _ hQn;have g1:v2.frozen? ⟨w.heap.size,1,none⟩=false:=fW0 v2 _ 1 _ _ hQn;go_simp<;>with_reducible rfl
   |guard_hyp zT5:Tg 1
    have hQn:v3.heap[w.heap.size]? =some (.cells #[.string ⟨#[]⟩,.int .i64 0,.bool false] 77 (0,0)):=(hC3.block w.heap.size (by omega) (by omega)).trans HQ.out;have p0:v3.cell? ⟨w.heap.size,0,none⟩=some (.string ⟨#[]⟩):=cW0 v3 _ 0 _ _ _ hQn;have p1:v3.cell? ⟨w.heap.size,1,none⟩=some (.int .i64 0):=cW0 v3 _ 1 _ _ _ hQn;have p2:v3.cell? ⟨w.heap.size,2,none⟩=some (.bool false):=cW0 v3 _ 2 _ _ _ hQn;have g0:v3.frozen? ⟨w.heap.size,0,none⟩=false:=fW0 v3 _ 0 _ _ hQn;have g1:v3.frozen? ⟨w.heap.size,1,none⟩=false:=fW0 v3 _ 1 _ _ hQn;have g2:v3.frozen? ⟨w.heap.size,2,none⟩=false:=fW0 v3 _ 2 _ _ hQn;go_simp<;>with_reducible rfl
   |have hQn:v4.heap[w.heap.size]? =some (.cells #[.string ⟨#[]⟩,.string ⟨#[]⟩,.int .i64 0,.int .i64 0,.int .i64 0,.int .i64 0] 109 (0,0)):=(hC4.block w.heap.size (by omega) (by omega)).trans HQ.out;have p0:v4.cell? ⟨w.heap.size,0,none⟩=some (.string ⟨#[]⟩):=cW0 v4 _ 0 _ _ _ hQn;have p1:v4.cell? ⟨w.heap.size,1,none⟩=some (.string ⟨#[]⟩):=cW0 v4 _ 1 _ _ _ hQn;have p2:v4.cell? ⟨w.heap.size,2,none⟩=some (.int .i64 0):=cW0 v4 _ 2 _ _ _ hQn;have p3:v4.cell? ⟨w.heap.size,3,none⟩=some (.int .i64 0):=cW0 v4 _ 3 _ _ _ hQn;have p4:v4.cell? ⟨w.heap.size,4,none⟩=some (.int .i64 0):=cW0 v4 _ 4 _ _ _ hQn;have p5:v4.cell? ⟨w.heap.size,5,none⟩=some (.int .i64 0):=cW0 v4 _ 5 _ _ _ hQn;have g0:v4.frozen? ⟨w.heap.size,0,none⟩=false:=fW0 v4 _ 0 _ _ hQn;have g1:v4.frozen? ⟨w.heap.size,1,none⟩=false:=fW0 v4 _ 1 _ _ hQn;have g2:v4.frozen? ⟨w.heap.size,2,none⟩=false:=fW0 v4 _ 2 _ _ hQn;have g3:v4.frozen? ⟨w.heap.size,3,none⟩=false:=fW0 v4 _ 3 _ _ hQn;have g4:v4.frozen? ⟨w.heap.size,4,none⟩=false:=fW0 v4 _ 4 _ _ hQn;have g5:v4.frozen? ⟨w.heap.size,5,none⟩=false:=fW0 v4 _ 5 _ _ hQn;go_simp<;>with_reducible rfl
 clear hHeld
 have hHeld:=hNew
 clear hNew
 simp only [Act.put]
 refine wpAnyH_done (by kernel_rfl) ?_ _
 refine NoPanic.normal ?_
 clear hHeld
 first
  |guard_hyp zT5:Tg 3
   have hQn:v2.heap[w.heap.size]? =some (.cells #[.string ⟨#[]⟩,.int .i64 0] 117 (0,0)):=(hC2.block w.heap.size (by omega) (by omega)).trans HQ.out
   have hY9:=set2_at hQn (.string n1) (.int .i64 n2)
   have hYc:=set2_chg v2 w.heap.size (.string n1) (.int .i64 n2)
   generalize ((v2.setCell ⟨w.heap.size,0,none⟩ (.string n1)).setCell ⟨w.heap.size,1,none⟩ (.int .i64 n2))=Y at *
  |guard_hyp zT5:Tg 2
   have hQn:v2.heap[w.heap.size]? =some (.cells #[.string ⟨#[]⟩,.int .i64 0] 122 (0,0)):=(hC2.block w.heap.size (by omega) (by omega)).trans HQ.out
   have hY9:=set2_at hQn (.string n1) (.int .i64 n2)
   have hYc:=set2_chg v2 w.heap.size (.string n1) (.int .i64 n2)
   generalize ((v2.setCell ⟨w.heap.size,0,none⟩ (.string n1)).setCell ⟨w.heap.size,1,none⟩ (.int .i64 n2))=Y at *
  |guard_hyp zT5:Tg 1
   have hQn:v3.heap[w.heap.size]? =some (.cells #[.string ⟨#[]⟩,.int .i64 0,.bool false] 77 (0,0)):=(hC3.block w.heap.size (by omega) (by omega)).trans HQ.out
   have hY9:=set3_at hQn (.string n1) (.int .i64 n2) (.bool n3)
   have hYc:=set3_chg v3 w.heap.size (.string n1) (.int .i64 n2) (.bool n3)
   generalize (((v3.setCell ⟨w.heap.size,0,none⟩ (.string n1)).setCell ⟨w.heap.size,1,none⟩ (.int .i64 n2)).setCell ⟨w.heap.size,2,none⟩ (.bool n3))=Y at *
  |have hQn:v4.heap[w.heap.size]? =some (.cells #[.string ⟨#[]⟩,.string ⟨#[]⟩,.int .i64 0,.int .i64 0,.int .i64 0,.int .i64 0] 109 (0,0)):=(hC4.block w.heap.size (by omega) (by omega)).trans HQ.out
   have hY9:=set6_at hQn (.string n1) (.string n2) (.int .i64 f3) (.int .i64 t3) (.int .i64 f4) (.int .i64 t4)
   have hYc:=set6_chg v4 w.heap.size (.string n1) (.string n2) (.int .i64 f3) (.int .i64 t3) (.int .i64 f4) (.int .i64 t4)
   generalize ((((((v4.setCell ⟨w.heap.size,0,none⟩ (.string n1)).setCell ⟨w.heap.size,1,none⟩ (.string n2)).setCell ⟨w.heap.size,2,none⟩ (.int .i64 f3)).setCell ⟨w.heap.size,3,none⟩ (.int .i64 t3)).setCell ⟨w.heap.size,4,none⟩ (.int .i64 f4)).setCell ⟨w.heap.size,5,none⟩ (.int .i64 t4))=Y at *
 have p0:Y.cell? ⟨w.heap.size,0,none⟩=some (.string n1):=cW0 Y _ 0 _ _ _ hY9
 first
  |guard_hyp zT5:Tg 3
   have p1:Y.cell? ⟨w.heap.size,1,none⟩=some (.int .i64 n2):=cW0 Y _ 1 _ _ _ hY9
  |guard_hyp zT5:Tg 2
   have p1:Y.cell? ⟨w.heap.size,1,none⟩=some (.int .i64 n2):=cW0 Y _ 1 _ _ _ hY9
  |guard_hyp zT5:Tg 1
   have p1:Y.cell? ⟨w.heap.size,1,none⟩=some (.int .i64 n2):=cW0 Y _ 1 _ _ _ hY9
   have p2:Y.cell? ⟨w.heap.size,2,none⟩=some (.bool n3):=cW0 Y _ 2 _ _ _ hY9
  |have p1:Y.cell? ⟨w.heap.size,1,none⟩=some (.string n2):=cW0 Y _ 1 _ _ _ hY9
   have p2:Y.cell? ⟨w.heap.size,2,none⟩=some (.int .i64 f3):=cW0 Y _ 2 _ _ _ hY9
   have p3:Y.cell? ⟨w.heap.size,3,none⟩=some (.int .i64 t3):=cW0 Y _ 3 _ _ _ hY9
   have p4:Y.cell? ⟨w.heap.size,4,none⟩=some (.int .i64 f4):=cW0 Y _ 4 _ _ _ hY9
   have p5:Y.cell? ⟨w.heap.size,5,none⟩=some (.int .i64 t4):=cW0 Y _ 5 _ _ _ hY9
 have hzY:=hYc.size
 have hz1:=hD1.size
 have hz2:=hD2.size
 first
  |guard_hyp zT5:Tg 3
  |guard_hyp zT5:Tg 2
  |have hz3:=hD3.size
   first
    |guard_hyp zT5:Tg 1
    |have hz4:=hD4.size
 have hzc0:=hC0.size
 first
  |guard_hyp zT5:Tg 3
   have hSY:SrcAt Y R v s2:=(hYc.block R (by have:=hS2.lt;exact this) (by show R≠w.heap.size;omega)).trans hS2
   have hCY:Chg (·=R) w Y:=((Chg.of_below HbW.out _).trans hC2 (fun _ _ h=>h)).trans hYc (fun i hi (h:i=w.heap.size)=>by omega)
  |guard_hyp zT5:Tg 2
   have hSY:SrcAt Y R v s2:=(hYc.block R (by have:=hS2.lt;exact this) (by show R≠w.heap.size;omega)).trans hS2
   have hCY:Chg (·=R) w Y:=((Chg.of_below HbW.out _).trans hC2 (fun _ _ h=>h)).trans hYc (fun i hi (h:i=w.heap.size)=>by omega)
  |guard_hyp zT5:Tg 1
   have hSY:SrcAt Y R v s3:=(hYc.block R (by have:=hS3.lt;exact this) (by show R≠w.heap.size;omega)).trans hS3
   have hCY:Chg (·=R) w Y:=((Chg.of_below HbW.out _).trans hC3 (fun _ _ h=>h)).trans hYc (fun i hi (h:i=w.heap.size)=>by omega)
  |have hSY:SrcAt Y R v s4:=(hYc.block R (by have:=hS4.lt;exact this) (by show R≠w.heap.size;omega)).trans hS4
   have hCY:Chg (·=R) w Y:=((Chg.of_below HbW.out _).trans hC4 (fun _ _ h=>h)).trans hYc (fun i hi (h:i=w.heap.size)=>by omega)
 have HSY:=hI0 hSY
 have HCY:=hI0 hCY
 first
  |guard_hyp zT5:Tg 3
   clear hSY hCY hQn hY9 hYc hS0 hC0 hS1 hC1 hD1 hz1 hS2 hC2 hD2 hz2
  |guard_hyp zT5:Tg 2
   clear hSY hCY hQn hY9 hYc hS0 hC0 hS1 hC1 hD1 hz1 hS2 hC2 hD2 hz2
  |guard_hyp zT5:Tg 1
   clear hSY hCY hQn hY9 hYc hS0 hC0 hS1 hC1 hD1 hz1 hS2 hC2 hD2 hz2 hS3 hC3 hD3 hz3
  |clear hSY hCY hQn hY9 hYc hS0 hC0 hS1 hC1 hD1 hz1 hS2 hC2 hD2 hz2 hS3 hC3 hD3 hz3 hS4 hC4 hD4 hz4
 go_wp2_with fail
 first
  |guard_hyp zT5:Tg 3
   exact bodyPost_ret (v:=.agg #[.string n1,.int .i64 n2]) (by simp [results,Tryz.results70,go_sem,p0,p1]) rfl ⟨⟨n1,n2⟩,rfl,trivial,by first|rfl|(simp [id];done),HSY.out,HCY.out⟩
  |guard_hyp zT5:Tg 2
   exact bodyPost_ret (v:=.agg #[.string n1,.int .i64 n2]) (by simp [results,Tryz.results72,go_sem,p0,p1]) rfl ⟨⟨n1,n2⟩,rfl,trivial,by first|rfl|(simp [id];done),HSY.out,HCY.out⟩
  |guard_hyp zT5:Tg 1
   exact bodyPost_ret (v:=.agg #[.string n1,.int .i64 n2,.bool n3]) (by simp [results,Tryz.results163,go_sem,p0,p1,p2]) rfl ⟨⟨n1,n2,n3⟩,rfl,trivial,by first|rfl|(simp [id];done),HSY.out,HCY.out⟩
  |exact bodyPost_ret (v:=.agg #[.string n1,.string n2,.int .i64 f3,.int .i64 t3,.int .i64 f4,.int .i64 t4]) (by simp [results,Tryz.results66,go_sem,p0,p1,p2,p3,p4,p5]) rfl ⟨⟨n1,n2,f3,t3,f4,t4⟩,rfl,trivial,by first|rfl|(simp [id];done),HSY.out,HCY.out⟩) : P := h ⟨⟩
theorem zq24 {P:Prop} (i:Nat) (h:Tg i→P:=by
 intro zT24
 have h0:=heap_setCell_same w T 0 _ _ c0 h
 have h1:=heap_setCell_same _ T 1 _ _ c1 h0
 have h2:=heap_setCell_same _ T 2 _ _ c2 h1
 have h3:=heap_setCell_same _ T 3 _ _ c3 h2
 have h4:=heap_setCell_same _ T 4 _ _ c4 h3
 first
  |guard_hyp zT24:Tg 2
   simpa using h4
  |have h5:=heap_setCell_same _ T 5 _ _ c5 h4
   first
    |guard_hyp zT24:Tg 1
     simpa using h5
    |have h6:=heap_setCell_same _ T 6 _ _ c6 h5
     simpa using h6) : P := h ⟨⟩
theorem zq72 {P:Prop} (h:P:=by
 have k:=srcInt_any R v l s1 V hs (hvW V hV)
 rw [h2] at k
 exact k) : P := h
theorem set2_at {w:World} {T:Nat} {a0 a1:Value} {e:TypeId} (h:w.heap[T]? =some (.cells #[a0,a1] e (0,0))) (c0 c1:Value):((w.setCell ⟨T,0,none⟩ c0).setCell ⟨T,1,none⟩ c1).heap[T]? =some (.cells #[c0,c1] e (0,0)):=by
 have h0:=heap_setCell_same w T 0 _ _ c0 h
 have h1:=heap_setCell_same _ T 1 _ _ c1 h0
 simpa using h1
theorem set2_chg (w:World) (T:Nat) (c0 c1:Value):Chg (·=T) w ((w.setCell ⟨T,0,none⟩ c0).setCell ⟨T,1,none⟩ c1):=
 ((Chg.refl (·=T) w).setCell (p:=⟨T,0,none⟩) (.inl rfl) c0).setCell (p:=⟨T,1,none⟩) (.inl rfl) c1
theorem set3_at {w:World} {T:Nat} {a0 a1 a2:Value} {e:TypeId} (h:w.heap[T]? =some (.cells #[a0,a1,a2] e (0,0))) (c0 c1 c2:Value):(((w.setCell ⟨T,0,none⟩ c0).setCell ⟨T,1,none⟩ c1).setCell ⟨T,2,none⟩ c2).heap[T]? =some (.cells #[c0,c1,c2] e (0,0)):=by
 have h0:=heap_setCell_same w T 0 _ _ c0 h
 have h1:=heap_setCell_same _ T 1 _ _ c1 h0
 have h2:=heap_setCell_same _ T 2 _ _ c2 h1
 simpa using h2
theorem set3_chg (w:World) (T:Nat) (c0 c1 c2:Value):Chg (·=T) w (((w.setCell ⟨T,0,none⟩ c0).setCell ⟨T,1,none⟩ c1).setCell ⟨T,2,none⟩ c2):=
 (((Chg.refl (·=T) w).setCell (p:=⟨T,0,none⟩) (.inl rfl) c0).setCell (p:=⟨T,1,none⟩) (.inl rfl) c1).setCell (p:=⟨T,2,none⟩) (.inl rfl) c2
theorem set5_at {w:World} {T:Nat} {a0 a1 a2 a3 a4:Value} {e:TypeId} (h:w.heap[T]? =some (.cells #[a0,a1,a2,a3,a4] e (0,0))) (c0 c1 c2 c3 c4:Value):(((((w.setCell ⟨T,0,none⟩ c0).setCell ⟨T,1,none⟩ c1).setCell ⟨T,2,none⟩ c2).setCell ⟨T,3,none⟩ c3).setCell ⟨T,4,none⟩ c4).heap[T]? =some (.cells #[c0,c1,c2,c3,c4] e (0,0)):=by
 exact zq24 2
theorem set5_chg (w:World) (T:Nat) (c0 c1 c2 c3 c4:Value):Chg (·=T) w (((((w.setCell ⟨T,0,none⟩ c0).setCell ⟨T,1,none⟩ c1).setCell ⟨T,2,none⟩ c2).setCell ⟨T,3,none⟩ c3).setCell ⟨T,4,none⟩ c4):=
 (((((Chg.refl (·=T) w).setCell (p:=⟨T,0,none⟩) (.inl rfl) c0).setCell (p:=⟨T,1,none⟩) (.inl rfl) c1).setCell (p:=⟨T,2,none⟩) (.inl rfl) c2).setCell (p:=⟨T,3,none⟩) (.inl rfl) c3).setCell (p:=⟨T,4,none⟩) (.inl rfl) c4
theorem set6_at {w:World} {T:Nat} {a0 a1 a2 a3 a4 a5:Value} {e:TypeId} (h:w.heap[T]? =some (.cells #[a0,a1,a2,a3,a4,a5] e (0,0))) (c0 c1 c2 c3 c4 c5:Value):((((((w.setCell ⟨T,0,none⟩ c0).setCell ⟨T,1,none⟩ c1).setCell ⟨T,2,none⟩ c2).setCell ⟨T,3,none⟩ c3).setCell ⟨T,4,none⟩ c4).setCell ⟨T,5,none⟩ c5).heap[T]? =some (.cells #[c0,c1,c2,c3,c4,c5] e (0,0)):=by
 exact zq24 1
theorem set6_chg (w:World) (T:Nat) (c0 c1 c2 c3 c4 c5:Value):Chg (·=T) w ((((((w.setCell ⟨T,0,none⟩ c0).setCell ⟨T,1,none⟩ c1).setCell ⟨T,2,none⟩ c2).setCell ⟨T,3,none⟩ c3).setCell ⟨T,4,none⟩ c4).setCell ⟨T,5,none⟩ c5):=
 ((((((Chg.refl (·=T) w).setCell (p:=⟨T,0,none⟩) (.inl rfl) c0).setCell (p:=⟨T,1,none⟩) (.inl rfl) c1).setCell (p:=⟨T,2,none⟩) (.inl rfl) c2).setCell (p:=⟨T,3,none⟩) (.inl rfl) c3).setCell (p:=⟨T,4,none⟩) (.inl rfl) c4).setCell (p:=⟨T,5,none⟩) (.inl rfl) c5
theorem set7_at {w:World} {T:Nat} {a0 a1 a2 a3 a4 a5 a6:Value} {e:TypeId} (h:w.heap[T]? =some (.cells #[a0,a1,a2,a3,a4,a5,a6] e (0,0))) (c0 c1 c2 c3 c4 c5 c6:Value):(((((((w.setCell ⟨T,0,none⟩ c0).setCell ⟨T,1,none⟩ c1).setCell ⟨T,2,none⟩ c2).setCell ⟨T,3,none⟩ c3).setCell ⟨T,4,none⟩ c4).setCell ⟨T,5,none⟩ c5).setCell ⟨T,6,none⟩ c6).heap[T]? =some (.cells #[c0,c1,c2,c3,c4,c5,c6] e (0,0)):=by
 exact zq24 0
theorem set7_chg (w:World) (T:Nat) (c0 c1 c2 c3 c4 c5 c6:Value):Chg (·=T) w (((((((w.setCell ⟨T,0,none⟩ c0).setCell ⟨T,1,none⟩ c1).setCell ⟨T,2,none⟩ c2).setCell ⟨T,3,none⟩ c3).setCell ⟨T,4,none⟩ c4).setCell ⟨T,5,none⟩ c5).setCell ⟨T,6,none⟩ c6):=
 (((((((Chg.refl (·=T) w).setCell (p:=⟨T,0,none⟩) (.inl rfl) c0).setCell (p:=⟨T,1,none⟩) (.inl rfl) c1).setCell (p:=⟨T,2,none⟩) (.inl rfl) c2).setCell (p:=⟨T,3,none⟩) (.inl rfl) c3).setCell (p:=⟨T,4,none⟩) (.inl rfl) c4).setCell (p:=⟨T,5,none⟩) (.inl rfl) c5).setCell (p:=⟨T,6,none⟩) (.inl rfl) c6
theorem fr_keep {R T:Nat} {v v' u Y:World} (h1:Chg (·=R) v' u) (h2:Chg (·=T) u Y) (hR:R<v.heap.size) (hT:T<v.heap.size):∀b,v.heap.size≤b∧b<v'.heap.size→Y.heap[b]? =v'.heap[b]? :=
 fun b hb=>(h2.block b (by have:=h1.size;omega) (by omega)).trans (h1.block b hb.2 (by omega))
theorem fr_wide {w v v' Y:World} (h1:w.heap.size≤v.heap.size) (h2:v'.heap.size≤Y.heap.size):∀b,v.heap.size≤b∧b<v'.heap.size→w.heap.size≤b∧b<Y.heap.size:=fun b hb=>⟨by omega,by omega⟩
def delIs (w:World) (F:Nat→Prop) (d:RDl):Prop:=RdE 1 intE w F (.slice d.cA d.cl.length d.cc) d.cl∧RdE 3 RF.enc w F (.slice d.oA d.ops.length d.oc) d.ops∧∀p∈d.ops,p.is w F
theorem isK_D:IsK delIs:=⟨fun h hk=>⟨Rd.keep h.1 hk,Rd.keep h.2.1 hk,fun p hp=>isK_F.keep (h.2.2 p hp) hk⟩,fun h hw=>⟨Rd.wide h.1 hw,Rd.wide h.2.1 hw,fun p hp=>isK_F.wide (h.2.2 p hp) hw⟩⟩
theorem rdrCol_any (R:Nat) (v:Value) (l:List UInt8) (s:Int×Int) (w:World) (h:SrcAt w R v s) (hv:RdB w (·<R) v l):
  Calls Tryz.prog 163 #[.pointer (some ⟨R,0,none⟩)] w (OneE (fun x:RCol=>.agg x.enc.toArray) isT id R v (rdCol l s) w):=by
 exact zq5 1
theorem rdrHld_any (R:Nat) (v:Value) (l:List UInt8) (s:Int×Int) (w:World) (h:SrcAt w R v s) (hv:RdB w (·<R) v l):
  Calls Tryz.prog 66 #[.pointer (some ⟨R,0,none⟩)] w (OneE (fun x:Hld=>.agg x.enc.toArray) isT id R v (rdHld l s) w):=by
 exact zq5 0
theorem rdrPol_any (R:Nat) (v:Value) (l:List UInt8) (s:Int×Int) (w:World) (h:SrcAt w R v s) (hv:RdB w (·<R) v l):
  Calls Tryz.prog 70 #[.pointer (some ⟨R,0,none⟩)] w (OneE (fun x:Pol=>.agg x.enc.toArray) isT id R v (rdPol l s) w):=by
 exact zq5 3
theorem rdrHor_any (R:Nat) (v:Value) (l:List UInt8) (s:Int×Int) (w:World) (h:SrcAt w R v s) (hv:RdB w (·<R) v l):
  Calls Tryz.prog 72 #[.pointer (some ⟨R,0,none⟩)] w (OneE (fun x:Hor=>.agg x.enc.toArray) isT id R v (rdHor l s) w):=by
 exact zq5 2
theorem rdrFct_any (R:Nat) (v:Value) (l:List UInt8) (s:Int×Int) (w:World) (h:SrcAt w R v s) (hv:RdB w (·<R) v l):
  Calls Tryz.prog 168 #[.pointer (some ⟨R,0,none⟩)] w (OneE (fun x:RF=>.agg x.enc.toArray) RF.is RF.er R v (rdFct l s) w):=by
 rcases h1:rdR l s with ⟨xs1,s1⟩
 rcases h2:rdP l s1 with ⟨⟨f2,t2⟩,s2⟩
 have hd:rdFct l s=((⟨none,0,0,xs1,f2,t2⟩:RF),s2):=by unfold rdFct;simp only [h1,h2]
 have hok1:∀x∈xs1,goV x:=by
  have e:xs1=(rdR l s).1:=by rw [h1]
  rw [e]
  unfold rdR rdS
  split
  ·intro x hx;cases hx
  ·split<;>exact decR_ok l _
 rw [hd]
 obtain ⟨W,hW⟩:∃W,W=w.alloc (.cells #[.slice none 0 0,.int .i64 0,.int .i64 0] 68):=⟨_,rfl⟩
 have hR:=h.lt
 have hbW:Below w.heap.size w W:=by rw [hW];exact Below.of_alloc _
 have hWs:W.heap.size=w.heap.size+1:=by rw [hW];simp
 have hQ:W.heap[w.heap.size]? =some (.cells #[.slice none 0 0,.int .i64 0,.int .i64 0] 68 (0,0)):=by rw [hW];exact heap_alloc_new _ _
 have hS0:SrcAt W.drew R v s:=(h.below hbW).below (Below.refl _ _).drew
 have hC0:Chg (·=R) W W.drew:=(Chg.refl _ _).drew
 have hvW:∀V,Chg (·=R) W V→RdB V (·<R) v l:=fun V hV=>Rd.keep hv (fun b (hb:b<R)=>(hV.block b (by omega) (by omega)).trans (hbW.block b (by omega)))
 have K1:∀V,SrcAt V R v s→Chg (·=R) W V→Calls Tryz.prog 191 #[.pointer (some ⟨R,0,none⟩)] V fun x w'=>∃u,x=.returned u∧RdV w' (fun b=>V.heap.size≤b∧b<w'.heap.size) u xs1∧SrcAt w' R v s1∧Chg (·=R) V w':=fun V hs hV=>by
  have k:=srcRow_any R v l s V hs (hvW V hV)
  rw [h1] at k
  exact k
 have K2:∀V,SrcAt V R v s1→Chg (·=R) W V→Calls Tryz.prog 169 #[.pointer (some ⟨R,0,none⟩)] V fun x w'=>x=.returned (.agg #[.int .i64 f2,.int .i64 t2])∧SrcAt w' R v s2∧Chg (·=R) V w':=fun V hs hV=>by
  have k:=srcPeriod_any R v l s1 V hs (hvW V hV)
  rw [h2] at k
  exact k
 have HQ:=hI0 hQ
 have HbW:=hI0 hbW
 have HOK1:=hI0 hok1
 clear h hv hd hvW hQ hbW h1 h2 hok1
 go_enter Tryz.func168,Tryz.ntmps168
 go_wp2_with fail
 rw [←hW]
 clear hW
 refine wp_region_noPanic ?_
 refine wp_region_held_drew (S:=(fun _:World=>True)) (by kernel_rfl) ?_ (fun hHeld=>?_)
 ·trivial
 refine hT 0 3 hHeld ?_
 simp only [aP]
 refine hT 1 4 hHeld ?_
 simp only [aP]
 refine hT 2 5 hHeld ?_
 simp only [aP]
 refine hT 4 7 hHeld ?_
 simp only [aP]
 refine hT 5 8 hHeld ?_
 simp only [aP]
 refine hT 6 9 hHeld ?_
 simp only [aP]
 refine hC 3 6 ?_
 (with_reducible refine (K1 _ hS0 hC0).mono ?_)
 rintro _ v1 ⟨u1,rfl,hU1,hS1,hD1⟩
 obtain ⟨A1,c1,rfl,_⟩:=Rd.open_ hU1
 have HU1:=hI0 hU1
 clear hU1
 have hC1:Chg (·=R) W v1:=hC0.trans hD1 (fun _ _ h=>h)
 refine ⟨_,rfl,keepAnd ?_ (fun hNew=>?_)⟩
 ·trivial
 clear hHeld
 have hHeld:=hNew
 clear hNew
 simp only [aP]
 refine hC 7 10 ?_
 (with_reducible refine (K2 _ hS1 hC1).mono ?_)
 rintro _ v2 ⟨rfl,hS2,hD2⟩
 have hC2:Chg (·=R) W v2:=hC1.trans hD2 (fun _ _ h=>h)
 refine ⟨_,rfl,keepAnd ?_ (fun hNew=>?_)⟩
 ·trivial
 clear hHeld
 have hHeld:=hNew
 clear hNew
 simp only [aP]
 refine hT 8 11 hHeld ?_
 simp only [aP]
 have hNew:(fun _:World=>True) ((((v2.setCell ⟨w.heap.size,0,none⟩ (.slice A1 xs1.length c1)).setCell ⟨w.heap.size,1,none⟩ (.int .i64 f2)).setCell ⟨w.heap.size,2,none⟩ (.int .i64 t2))):=by trivial
 refine heldSkipRun 9 none (w':=(((v2.setCell ⟨w.heap.size,0,none⟩ (.slice A1 xs1.length c1)).setCell ⟨w.heap.size,1,none⟩ (.int .i64 f2)).setCell ⟨w.heap.size,2,none⟩ (.int .i64 t2))) rfl rfl (by kernel_rfl) (by rfl) ?_ hNew ?_
 ·have hQn:v2.heap[w.heap.size]? =some (.cells #[.slice none 0 0,.int .i64 0,.int .i64 0] 68 (0,0)):=(hC2.block w.heap.size (by omega) (by omega)).trans HQ.out;have p0:v2.cell? ⟨w.heap.size,0,none⟩=some (.slice none 0 0):=cW0 v2 _ 0 _ _ _ hQn;have p1:v2.cell? ⟨w.heap.size,1,none⟩=some (.int .i64 0):=cW0 v2 _ 1 _ _ _ hQn;have p2:v2.cell? ⟨w.heap.size,2,none⟩=some (.int .i64 0):=cW0 v2 _ 2 _ _ _ hQn;have g0:v2.frozen? ⟨w.heap.size,0,none⟩=false:=fW0 v2 _ 0 _ _ hQn;have g1:v2.frozen? ⟨w.heap.size,1,none⟩=false:=fW0 v2 _ 1 _ _ hQn;have g2:v2.frozen? ⟨w.heap.size,2,none⟩=false:=fW0 v2 _ 2 _ _ hQn;go_simp<;>with_reducible rfl
 clear hHeld
 have hHeld:=hNew
 clear hNew
 simp only [Act.put]
 refine wpAnyH_done (by kernel_rfl) ?_ _
 refine NoPanic.normal ?_
 clear hHeld
 have hQn:v2.heap[w.heap.size]? =some (.cells #[.slice none 0 0,.int .i64 0,.int .i64 0] 68 (0,0)):=(hC2.block w.heap.size (by omega) (by omega)).trans HQ.out
 have hY9:=set3_at hQn (.slice A1 xs1.length c1) (.int .i64 f2) (.int .i64 t2)
 have hYc:=set3_chg v2 w.heap.size (.slice A1 xs1.length c1) (.int .i64 f2) (.int .i64 t2)
 generalize (((v2.setCell ⟨w.heap.size,0,none⟩ (.slice A1 xs1.length c1)).setCell ⟨w.heap.size,1,none⟩ (.int .i64 f2)).setCell ⟨w.heap.size,2,none⟩ (.int .i64 t2))=Y at *
 have p0:Y.cell? ⟨w.heap.size,0,none⟩=some (.slice A1 xs1.length c1):=cW0 Y _ 0 _ _ _ hY9
 have p1:Y.cell? ⟨w.heap.size,1,none⟩=some (.int .i64 f2):=cW0 Y _ 1 _ _ _ hY9
 have p2:Y.cell? ⟨w.heap.size,2,none⟩=some (.int .i64 t2):=cW0 Y _ 2 _ _ _ hY9
 have hzY:=hYc.size
 have hz1:=hD1.size
 have hz2:=hD2.size
 have hzc0:=hC0.size
 have hk1:=fr_keep (v:=W.drew) ((Chg.refl (·=R) v1).trans hD2 (fun _ _ h=>h)) hYc (by have:=hC0.size;omega) (by have:=hC0.size;omega)
 have hw1:=fr_wide (w:=w) (v:=W.drew) (v':=v1) (Y:=Y) (by have:=hC0.size;omega) (by omega)
 have hRw1:RdV Y (fun b=>w.heap.size≤b∧b<Y.heap.size) (.slice A1 xs1.length c1) xs1:=(Rd.keep HU1.out hk1).wide hw1
 have hSY:SrcAt Y R v s2:=(hYc.block R (by have:=hS2.lt;exact this) (by show R≠w.heap.size;omega)).trans hS2
 have hCY:Chg (·=R) w Y:=((Chg.of_below HbW.out _).trans hC2 (fun _ _ h=>h)).trans hYc (fun i hi (h:i=w.heap.size)=>by omega)
 have HSY:=hI0 hSY
 have HCY:=hI0 hCY
 have HRw1:=hI0 hRw1
 clear hSY hCY hQn hY9 hYc hS0 hC0 hS1 hC1 hD1 hz1 hS2 hC2 hD2 hz2 hk1 hw1 hRw1
 go_wp2_with fail
 exact bodyPost_ret (v:=.agg #[.slice A1 xs1.length c1,.int .i64 f2,.int .i64 t2]) (by simp [results,Tryz.results168,go_sem,p0,p1,p2]) rfl ⟨⟨A1,xs1.length,c1,xs1,f2,t2⟩,rfl,⟨HRw1.out,HOK1.out⟩,by first|rfl|(simp [RF.er];done),HSY.out,HCY.out⟩
theorem rdrNum_any (R:Nat) (v:Value) (l:List UInt8) (s:Int×Int) (w:World) (h:SrcAt w R v s) (hv:RdB w (·<R) v l):
  Calls Tryz.prog 166 #[.pointer (some ⟨R,0,none⟩)] w (OneE (fun x:Int=>.int .i64 x) isT id R v (rdI l s) w):=by
 have K:=srcInt_any R v l s w h hv
 clear h hv
 go_enter Tryz.func166,Tryz.ntmps166
 go_wp2_with fail
 (with_reducible refine K.mono ?_)
 rintro _ w1 ⟨rfl,hs,hc⟩
 go_wp2_with fail
 go_ret
 exact ⟨_,rfl,trivial,rfl,hs,hc⟩
theorem rdrNam_any (R:Nat) (v:Value) (l:List UInt8) (s:Int×Int) (w:World) (h:SrcAt w R v s) (hv:RdB w (·<R) v l):
  Calls Tryz.prog 68 #[.pointer (some ⟨R,0,none⟩)] w (OneE (fun x:ByteArray=>.string x) isT id R v (rdT l s) w):=by
 have K:=srcText_any R v l s w h hv
 clear h hv
 go_enter Tryz.func68,Tryz.ntmps68
 go_wp2_with fail
 (with_reducible refine K.mono ?_)
 rintro _ w1 ⟨rfl,hs,hc⟩
 go_wp2_with fail
 go_ret
 exact ⟨_,rfl,trivial,rfl,hs,hc⟩
theorem rdrFor_any (R:Nat) (v:Value) (l:List UInt8) (s:Int×Int) (w:World) (h:SrcAt w R v s) (hv:RdB w (·<R) v l) (hl:l.length≤10000000000):
  Calls Tryz.prog 216 #[.pointer (some ⟨R,0,none⟩)] w (OneE (fun x:RFor=>.agg x.enc.toArray) RFor.is RFor.er R v (rdFor l s) w):=by
 rcases h1:rdL l (rdI l) s with ⟨xs1,s1⟩
 rcases h2:rdT l s1 with ⟨n2,s2⟩
 have hd:rdFor l s=((⟨none,0,xs1,n2⟩:RFor),s2):=by unfold rdFor;simp only [h1,h2]
 rw [hd]
 obtain ⟨W,hW⟩:∃W,W=w.alloc (.cells #[.slice none 0 0,.string ⟨#[]⟩] 278):=⟨_,rfl⟩
 have hR:=h.lt
 have hbW:Below w.heap.size w W:=by rw [hW];exact Below.of_alloc _
 have hWs:W.heap.size=w.heap.size+1:=by rw [hW];simp
 have hQ:W.heap[w.heap.size]? =some (.cells #[.slice none 0 0,.string ⟨#[]⟩] 278 (0,0)):=by rw [hW];exact heap_alloc_new _ _
 have hS0:SrcAt W.drew R v s:=(h.below hbW).below (Below.refl _ _).drew
 have hC0:Chg (·=R) W W.drew:=(Chg.refl _ _).drew
 have hvW:∀V,Chg (·=R) W V→RdB V (·<R) v l:=fun V hV=>Rd.keep hv (fun b (hb:b<R)=>(hV.block b (by omega) (by omega)).trans (hbW.block b (by omega)))
 have K1:∀V,SrcAt V R v s→Chg (·=R) W V→Calls Tryz.prog 165 #[.pointer (some ⟨R,0,none⟩),.func (.func 166) #[] #[]] V (GetE 1 intE isT id R v (xs1,s1) V):=fun V hs hV=>by
  have k:=getInt_any R v l (rdI l) 166 (entF Tryz.func166) s V hs (hvW V hV) hl mon_I (fun s U hsU hU=>rdrNum_any R v l s U hsU (hvW U (hV.trans hU (fun _ _ h=>h))))
  rw [h1] at k
  exact k
 have K2:∀V,SrcAt V R v s1→Chg (·=R) W V→Calls Tryz.prog 122 #[.pointer (some ⟨R,0,none⟩)] V fun x w'=>x=.returned (.string n2)∧SrcAt w' R v s2∧Chg (·=R) V w':=fun V hs hV=>by
  have k:=srcText_any R v l s1 V hs (hvW V hV)
  rw [h2] at k
  exact k
 have HQ:=hI0 hQ
 have HbW:=hI0 hbW
 clear h hv hd hvW hQ hbW h1 h2
 go_enter Tryz.func216,Tryz.ntmps216
 go_wp2_with fail
 rw [←hW]
 clear hW
 refine wp_region_noPanic ?_
 refine wp_region_held_drew (S:=(fun _:World=>True)) (by kernel_rfl) ?_ (fun hHeld=>?_)
 ·trivial
 refine hT 0 3 hHeld ?_
 simp only [aP]
 refine hT 2 5 hHeld ?_
 simp only [aP]
 refine hT 3 6 hHeld ?_
 simp only [aP]
 refine hT 4 7 hHeld ?_
 simp only [aP]
 refine hC 1 4 ?_
 (with_reducible refine (K1 _ hS0 hC0).mono ?_)
 rintro _ v1 ⟨u1,Q1,rfl,hU1,hI1,hE1,hS1,hD1⟩
 rw [List.map_id] at hE1
 obtain ⟨A1,c1,rfl⟩:=rdE_slice hU1
 have HU1:=hI0 hU1
 have HI1:=hI0 hI1
 have HE1:=hI0 hE1
 clear hU1 hI1 hE1
 have hC1:Chg (·=R) W v1:=hC0.trans hD1 (fun _ _ h=>h)
 refine ⟨_,rfl,keepAnd ?_ (fun hNew=>?_)⟩
 ·trivial
 clear hHeld
 have hHeld:=hNew
 clear hNew
 simp only [aP]
 refine hC 5 8 ?_
 (with_reducible refine (K2 _ hS1 hC1).mono ?_)
 rintro _ v2 ⟨rfl,hS2,hD2⟩
 have hC2:Chg (·=R) W v2:=hC1.trans hD2 (fun _ _ h=>h)
 refine ⟨_,rfl,keepAnd ?_ (fun hNew=>?_)⟩
 ·trivial
 clear hHeld
 have hHeld:=hNew
 clear hNew
 simp only [aP]
 refine hT 6 9 hHeld ?_
 simp only [aP]
 have hNew:(fun _:World=>True) (((v2.setCell ⟨w.heap.size,0,none⟩ (.slice A1 Q1.length c1)).setCell ⟨w.heap.size,1,none⟩ (.string n2))):=by trivial
 refine heldSkipRun 7 none (w':=((v2.setCell ⟨w.heap.size,0,none⟩ (.slice A1 Q1.length c1)).setCell ⟨w.heap.size,1,none⟩ (.string n2))) rfl rfl (by kernel_rfl) (by rfl) ?_ hNew ?_
 ·have hQn:v2.heap[w.heap.size]? =some (.cells #[.slice none 0 0,.string ⟨#[]⟩] 278 (0,0)):=(hC2.block w.heap.size (by omega) (by omega)).trans HQ.out;have p0:v2.cell? ⟨w.heap.size,0,none⟩=some (.slice none 0 0):=cW0 v2 _ 0 _ _ _ hQn;have p1:v2.cell? ⟨w.heap.size,1,none⟩=some (.string ⟨#[]⟩):=cW0 v2 _ 1 _ _ _ hQn;have g0:v2.frozen? ⟨w.heap.size,0,none⟩=false:=fW0 v2 _ 0 _ _ hQn;have g1:v2.frozen? ⟨w.heap.size,1,none⟩=false:=fW0 v2 _ 1 _ _ hQn;go_simp<;>with_reducible rfl
 clear hHeld
 have hHeld:=hNew
 clear hNew
 simp only [Act.put]
 refine wpAnyH_done (by kernel_rfl) ?_ _
 refine NoPanic.normal ?_
 clear hHeld
 have hQn:v2.heap[w.heap.size]? =some (.cells #[.slice none 0 0,.string ⟨#[]⟩] 278 (0,0)):=(hC2.block w.heap.size (by omega) (by omega)).trans HQ.out
 have hY9:=set2_at hQn (.slice A1 Q1.length c1) (.string n2)
 have hYc:=set2_chg v2 w.heap.size (.slice A1 Q1.length c1) (.string n2)
 generalize ((v2.setCell ⟨w.heap.size,0,none⟩ (.slice A1 Q1.length c1)).setCell ⟨w.heap.size,1,none⟩ (.string n2))=Y at *
 have p0:Y.cell? ⟨w.heap.size,0,none⟩=some (.slice A1 Q1.length c1):=cW0 Y _ 0 _ _ _ hY9
 have p1:Y.cell? ⟨w.heap.size,1,none⟩=some (.string n2):=cW0 Y _ 1 _ _ _ hY9
 have hzY:=hYc.size
 have hz1:=hD1.size
 have hz2:=hD2.size
 have hzc0:=hC0.size
 have hk1:=fr_keep (v:=W.drew) ((Chg.refl (·=R) v1).trans hD2 (fun _ _ h=>h)) hYc (by have:=hC0.size;omega) (by have:=hC0.size;omega)
 have hw1:=fr_wide (w:=w) (v:=W.drew) (v':=v1) (Y:=Y) (by have:=hC0.size;omega) (by omega)
 have hRw1:RdE 1 intE Y (fun b=>w.heap.size≤b∧b<Y.heap.size) (.slice A1 Q1.length c1) Q1:=Rd.wide (Rd.keep HU1.out hk1) hw1
 have hRi1:∀p∈Q1,isT Y (fun b=>w.heap.size≤b∧b<Y.heap.size) p:=fun p hp=>isK_T.wide (isK_T.keep (HI1.out p hp) hk1) hw1
 have hSY:SrcAt Y R v s2:=(hYc.block R (by have:=hS2.lt;exact this) (by show R≠w.heap.size;omega)).trans hS2
 have hCY:Chg (·=R) w Y:=((Chg.of_below HbW.out _).trans hC2 (fun _ _ h=>h)).trans hYc (fun i hi (h:i=w.heap.size)=>by omega)
 have HSY:=hI0 hSY
 have HCY:=hI0 hCY
 have HRw1:=hI0 hRw1
 have HRi1:=hI0 hRi1
 clear hSY hCY hQn hY9 hYc hS0 hC0 hS1 hC1 hD1 hz1 hS2 hC2 hD2 hz2 hk1 hw1 hRw1 hRi1
 go_wp2_with fail
 exact bodyPost_ret (v:=.agg #[.slice A1 Q1.length c1,.string n2]) (by simp [results,Tryz.results216,go_sem,p0,p1]) rfl ⟨⟨A1,c1,Q1,n2⟩,rfl,HRw1.out,by first|rfl|(simp [RFor.er,HE1.out];done),HSY.out,HCY.out⟩
theorem rdrDel_any (R:Nat) (v:Value) (l:List UInt8) (s:Int×Int) (w:World) (h:SrcAt w R v s) (hv:RdB w (·<R) v l) (hl:l.length≤10000000000):
  Calls Tryz.prog 64 #[.pointer (some ⟨R,0,none⟩)] w (OneE (fun x:RDl=>.agg x.enc.toArray) delIs RDl.er R v (rdDel l s) w):=by
 rcases h1:rdT l s with ⟨n1,s1⟩
 rcases h2:rdL l (rdI l) s1 with ⟨xs2,s2⟩
 rcases h3:rdL l (rdFct l) s2 with ⟨xs3,s3⟩
 have hd:rdDel l s=((⟨n1,none,0,xs2,none,0,xs3⟩:RDl),s3):=by unfold rdDel;simp only [h1,h2,h3]
 rw [hd]
 obtain ⟨W,hW⟩:∃W,W=w.alloc (.cells #[.string ⟨#[]⟩,.slice none 0 0,.slice none 0 0] 63):=⟨_,rfl⟩
 have hR:=h.lt
 have hbW:Below w.heap.size w W:=by rw [hW];exact Below.of_alloc _
 have hWs:W.heap.size=w.heap.size+1:=by rw [hW];simp
 have hQ:W.heap[w.heap.size]? =some (.cells #[.string ⟨#[]⟩,.slice none 0 0,.slice none 0 0] 63 (0,0)):=by rw [hW];exact heap_alloc_new _ _
 have hS0:SrcAt W R v s:=h.below hbW
 have hC0:Chg (·=R) W W:=Chg.refl _ _
 have hvW:∀V,Chg (·=R) W V→RdB V (·<R) v l:=fun V hV=>Rd.keep hv (fun b (hb:b<R)=>(hV.block b (by omega) (by omega)).trans (hbW.block b (by omega)))
 have K1:∀V,SrcAt V R v s→Chg (·=R) W V→Calls Tryz.prog 122 #[.pointer (some ⟨R,0,none⟩)] V fun x w'=>x=.returned (.string n1)∧SrcAt w' R v s1∧Chg (·=R) V w':=fun V hs hV=>by
  have k:=srcText_any R v l s V hs (hvW V hV)
  rw [h1] at k
  exact k
 have K2:∀V,SrcAt V R v s1→Chg (·=R) W V→Calls Tryz.prog 165 #[.pointer (some ⟨R,0,none⟩),.func (.func 166) #[] #[]] V (GetE 1 intE isT id R v (xs2,s2) V):=fun V hs hV=>by
  have k:=getInt_any R v l (rdI l) 166 (entF Tryz.func166) s1 V hs (hvW V hV) hl mon_I (fun s U hsU hU=>rdrNum_any R v l s U hsU (hvW U (hV.trans hU (fun _ _ h=>h))))
  rw [h2] at k
  exact k
 have K3:∀V,SrcAt V R v s2→Chg (·=R) W V→Calls Tryz.prog 167 #[.pointer (some ⟨R,0,none⟩),.func (.func 168) #[] #[]] V (GetE 3 RF.enc RF.is RF.er R v (xs3,s3) V):=fun V hs hV=>by
  have k:=getFct_any R v l (rdFct l) 168 (entF Tryz.func168) s2 V hs (hvW V hV) hl mon_Fct (fun s U hsU hU=>rdrFct_any R v l s U hsU (hvW U (hV.trans hU (fun _ _ h=>h))))
  rw [h3] at k
  exact k
 have HQ:=hI0 hQ
 have HbW:=hI0 hbW
 clear h hv hd hvW hQ hbW h1 h2 h3
 go_enter Tryz.func64,Tryz.ntmps64
 go_wp2_with fail
 try rw [←hW]
 clear hW
 (with_reducible refine (K1 _ hS0 hC0).mono ?_)
 rintro _ v1 ⟨rfl,hS1,hD1⟩
 have hC1:Chg (·=R) W v1:=hC0.trans hD1 (fun _ _ h=>h)
 go_wp2_with fail
 (with_reducible refine (K2 _ hS1 hC1).mono ?_)
 rintro _ v2 ⟨u2,Q2,rfl,hU2,hI2,hE2,hS2,hD2⟩
 rw [List.map_id] at hE2
 obtain ⟨A2,c2,rfl⟩:=rdE_slice hU2
 have HU2:=hI0 hU2
 have HI2:=hI0 hI2
 have HE2:=hI0 hE2
 clear hU2 hI2 hE2
 have hC2:Chg (·=R) W v2:=hC1.trans hD2 (fun _ _ h=>h)
 go_wp2_with fail
 (with_reducible refine (K3 _ hS2 hC2).mono ?_)
 rintro _ v3 ⟨u3,Q3,rfl,hU3,hI3,hE3,hS3,hD3⟩
 obtain ⟨A3,c3,rfl⟩:=rdE_slice hU3
 have HU3:=hI0 hU3
 have HI3:=hI0 hI3
 have HE3:=hI0 hE3
 clear hU3 hI3 hE3
 have hC3:Chg (·=R) W v3:=hC2.trans hD3 (fun _ _ h=>h)
 have hQn:v3.heap[w.heap.size]? =some (.cells #[.string ⟨#[]⟩,.slice none 0 0,.slice none 0 0] 63 (0,0)):=(hC3.block w.heap.size (by omega) (by omega)).trans HQ.out
 have p0:v3.cell? ⟨w.heap.size,0,none⟩=some (.string ⟨#[]⟩):=cW0 v3 _ 0 _ _ _ hQn
 have p1:v3.cell? ⟨w.heap.size,1,none⟩=some (.slice none 0 0):=cW0 v3 _ 1 _ _ _ hQn
 have p2:v3.cell? ⟨w.heap.size,2,none⟩=some (.slice none 0 0):=cW0 v3 _ 2 _ _ _ hQn
 have g0:v3.frozen? ⟨w.heap.size,0,none⟩=false:=fW0 v3 _ 0 _ _ hQn
 have g1:v3.frozen? ⟨w.heap.size,1,none⟩=false:=fW0 v3 _ 1 _ _ hQn
 have g2:v3.frozen? ⟨w.heap.size,2,none⟩=false:=fW0 v3 _ 2 _ _ hQn
 go_wp2_with fail
 have hY9:=set3_at hQn (.string n1) (.slice A2 Q2.length c2) (.slice A3 Q3.length c3)
 have hYc:=set3_chg v3 w.heap.size (.string n1) (.slice A2 Q2.length c2) (.slice A3 Q3.length c3)
 clear p0 g0 p1 g1 p2 g2
 generalize (((v3.setCell ⟨w.heap.size,0,none⟩ (.string n1)).setCell ⟨w.heap.size,1,none⟩ (.slice A2 Q2.length c2)).setCell ⟨w.heap.size,2,none⟩ (.slice A3 Q3.length c3))=Y at *
 have p0:Y.cell? ⟨w.heap.size,0,none⟩=some (.string n1):=cW0 Y _ 0 _ _ _ hY9
 have p1:Y.cell? ⟨w.heap.size,1,none⟩=some (.slice A2 Q2.length c2):=cW0 Y _ 1 _ _ _ hY9
 have p2:Y.cell? ⟨w.heap.size,2,none⟩=some (.slice A3 Q3.length c3):=cW0 Y _ 2 _ _ _ hY9
 have hzY:=hYc.size
 have hz1:=hD1.size
 have hz2:=hD2.size
 have hz3:=hD3.size
 have hzc0:=hC0.size
 have hk2:=fr_keep (v:=v1) ((Chg.refl (·=R) v2).trans hD3 (fun _ _ h=>h)) hYc (by have:=hC1.size;omega) (by have:=hC1.size;omega)
 have hw2:=fr_wide (w:=w) (v:=v1) (v':=v2) (Y:=Y) (by have:=hC1.size;omega) (by omega)
 have hRw2:RdE 1 intE Y (fun b=>w.heap.size≤b∧b<Y.heap.size) (.slice A2 Q2.length c2) Q2:=Rd.wide (Rd.keep HU2.out hk2) hw2
 have hRi2:∀p∈Q2,isT Y (fun b=>w.heap.size≤b∧b<Y.heap.size) p:=fun p hp=>isK_T.wide (isK_T.keep (HI2.out p hp) hk2) hw2
 have hk3:=fr_keep (v:=v2) (Chg.refl (·=R) v3) hYc (by have:=hC2.size;omega) (by have:=hC2.size;omega)
 have hw3:=fr_wide (w:=w) (v:=v2) (v':=v3) (Y:=Y) (by have:=hC2.size;omega) (by omega)
 have hRw3:RdE 3 RF.enc Y (fun b=>w.heap.size≤b∧b<Y.heap.size) (.slice A3 Q3.length c3) Q3:=Rd.wide (Rd.keep HU3.out hk3) hw3
 have hRi3:∀p∈Q3,RF.is Y (fun b=>w.heap.size≤b∧b<Y.heap.size) p:=fun p hp=>isK_F.wide (isK_F.keep (HI3.out p hp) hk3) hw3
 have hSY:SrcAt Y R v s3:=(hYc.block R (by have:=hS3.lt;exact this) (by show R≠w.heap.size;omega)).trans hS3
 have hCY:Chg (·=R) w Y:=((Chg.of_below HbW.out _).trans hC3 (fun _ _ h=>h)).trans hYc (fun i hi (h:i=w.heap.size)=>by omega)
 have HSY:=hI0 hSY
 have HCY:=hI0 hCY
 have HRw2:=hI0 hRw2
 have HRi2:=hI0 hRi2
 have HRw3:=hI0 hRw3
 have HRi3:=hI0 hRi3
 clear hSY hCY hQn hY9 hYc hS0 hC0 hS1 hC1 hD1 hz1 hS2 hC2 hD2 hz2 hS3 hC3 hD3 hz3 hk2 hw2 hRw2 hRi2 hk3 hw3 hRw3 hRi3
 exact bodyPost_ret (v:=.agg #[.string n1,.slice A2 Q2.length c2,.slice A3 Q3.length c3]) (by simp [results,Tryz.results64,go_sem,p0,p1,p2]) rfl ⟨⟨n1,A2,c2,Q2,A3,c3,Q3⟩,rfl,⟨HRw2.out,HRw3.out,HRi3.out⟩,by first|rfl|(simp [RDl.er,HE2.out,HE3.out];done),HSY.out,HCY.out⟩
end Go.Proofs.YtbfdegkickjbpaaGreat
