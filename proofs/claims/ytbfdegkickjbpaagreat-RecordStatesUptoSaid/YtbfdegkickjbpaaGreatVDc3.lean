/-
 Dc3
-/
import Derived.Test.YtbfdegkickjbpaaGreatVDc2
namespace Go.Proofs.YtbfdegkickjbpaaGreat
open Go.Proofs.Tryz
set_option maxRecDepth 99999
set_option maxHeartbeats 0
theorem zq10 {P:Prop} (i:Nat) (h:Tg i→P:=by
 intro zT10
 rcases h1:rdT l s with ⟨n1,s1⟩
 first
  |guard_hyp zT10:Tg 3;rcases h2:rdI l s1 with ⟨n2,s2⟩
   have hd:rdPol l s=((⟨n1,n2⟩:Pol),s2):=by unfold rdPol;simp only [h1,h2]
  |guard_hyp zT10:Tg 2;rcases h2:rdI l s1 with ⟨n2,s2⟩
   have hd:rdHor l s=((⟨n1,n2⟩:Hor),s2):=by unfold rdHor;simp only [h1,h2]
  |guard_hyp zT10:Tg 1;rcases h2:rdI l s1 with ⟨n2,s2⟩
   rcases h3:rdBool l s2 with ⟨n3,s3⟩
   have hd:rdCol l s=((⟨n1,n2,n3⟩:RCol),s3):=by unfold rdCol;simp only [h1,h2,h3]
  |rcases h2:rdT l s1 with ⟨n2,s2⟩
   rcases h3:rdP l s2 with ⟨⟨f3,t3⟩,s3⟩
   rcases h4:rdP l s3 with ⟨⟨f4,t4⟩,s4⟩
   have hd:rdHld l s=((⟨n1,n2,f3,t3,f4,t4⟩:Hld),s4):=by unfold rdHld;simp only [h1,h2,h3,h4]
 rw [hd]
 first
  |guard_hyp zT10:Tg 3;obtain ⟨W,hW⟩:=eN0 (w.alloc (.cells #[.string ⟨#[]⟩,.int .i64 0] 117))
  |guard_hyp zT10:Tg 2;obtain ⟨W,hW⟩:=eN0 (w.alloc (.cells #[.string ⟨#[]⟩,.int .i64 0] 122))
  |guard_hyp zT10:Tg 1;obtain ⟨W,hW⟩:=eN0 (w.alloc (.cells #[.string ⟨#[]⟩,.int .i64 0,.bool false] 77))
  |obtain ⟨W,hW⟩:=eN0 (w.alloc (.cells #[.string ⟨#[]⟩,.string ⟨#[]⟩,.int .i64 0,.int .i64 0,.int .i64 0,.int .i64 0] 109))
 have hR:=h.lt
 have hbW:=bN0 hW
 have hWs:=sN0 hW
 have hQ:=hN0 hW
 have hS0:SrcAt W.drew R v s:=(h.below hbW).below (Below.refl _ _).drew
 have hC0:Chg (·=R) W W.drew:=(Chg.refl _ _).drew
 have hvW:∀V,Chg (·=R) W V→RdB V (·<R) v l:=fun V hV=>Rd.keep hv (fun b (hb:b<R)=>(hV.block b (by omega) (by omega)).trans (hbW.block b (by omega)))
 have K1:∀V,SrcAt V R v s→Chg (·=R) W V→Calls prog 122 #[.pointer (some ⟨R,0,none⟩)] V fun x w'=>x=.returned (.string n1)∧SrcAt w' R v s1∧Chg (·=R) V w':=fun V hs hV=>by
  have k:=srcText_any R v l s V hs (hvW V hV)
  rw [h1] at k
  exact k
 first
  |guard_hyp zT10:Tg 1;have K2:∀V,SrcAt V R v s1→Chg (·=R) W V→Calls prog 60 #[.pointer (some ⟨R,0,none⟩)] V fun x w'=>x=.returned (.int .i64 n2)∧SrcAt w' R v s2∧Chg (·=R) V w':=fun V hs hV=>by
    exact zq115
   have K3:∀V,SrcAt V R v s2→Chg (·=R) W V→Calls prog 220 #[.pointer (some ⟨R,0,none⟩)] V fun x w'=>x=.returned (.bool n3)∧SrcAt w' R v s3∧Chg (·=R) V w':=fun V hs hV=>by
    have k:=srcBool_any R v l s2 V hs (hvW V hV)
    rw [h3] at k
    exact k
  |guard_hyp zT10:Tg 0;have K2:∀V,SrcAt V R v s1→Chg (·=R) W V→Calls prog 122 #[.pointer (some ⟨R,0,none⟩)] V fun x w'=>x=.returned (.string n2)∧SrcAt w' R v s2∧Chg (·=R) V w':=fun V hs hV=>by
    have k:=srcText_any R v l s1 V hs (hvW V hV)
    rw [h2] at k
    exact k
   have K3:∀V,SrcAt V R v s2→Chg (·=R) W V→Calls prog 169 #[.pointer (some ⟨R,0,none⟩)] V fun x w'=>x=.returned (.agg #[.int .i64 f3,.int .i64 t3])∧SrcAt w' R v s3∧Chg (·=R) V w':=fun V hs hV=>by
    have k:=srcPeriod_any R v l s2 V hs (hvW V hV)
    rw [h3] at k
    exact k
   have K4:∀V,SrcAt V R v s3→Chg (·=R) W V→Calls prog 169 #[.pointer (some ⟨R,0,none⟩)] V fun x w'=>x=.returned (.agg #[.int .i64 f4,.int .i64 t4])∧SrcAt w' R v s4∧Chg (·=R) V w':=fun V hs hV=>by
    have k:=srcPeriod_any R v l s3 V hs (hvW V hV)
    rw [h4] at k
    exact k
  |have K2:∀V,SrcAt V R v s1→Chg (·=R) W V→Calls prog 60 #[.pointer (some ⟨R,0,none⟩)] V fun x w'=>x=.returned (.int .i64 n2)∧SrcAt w' R v s2∧Chg (·=R) V w':=fun V hs hV=>by
    exact zq115
 have HQ:=hI0 hQ
 have HbW:=hI0 hbW
 first
  |guard_hyp zT10:Tg 1;clear h hv hd hvW hQ hbW h1 h2 h3
  |guard_hyp zT10:Tg 0;clear h hv hd hvW hQ hbW h1 h2 h3 h4
  |clear h hv hd hvW hQ hbW h1 h2
 go_in
 go_wp2_with fail
 rw [←hW]
 clear hW
 refine wp_region_noPanic ?_
 refine wp_region_held_drew (S:=(fun _:World=>True)) (by kernel_rfl) ?_ (fun zh=>?_)
 ·trivial
 refine hT 0 3 ?_
 refine hT 1 4 ?_
 refine hT 2 5 ?_
 refine hT 4 7 ?_
 refine hT 5 8 ?_
 refine hT 6 9 ?_
 first
  |done
  |first|guard_hyp zT10:Tg 2|guard_hyp zT10:Tg 3
  |refine hT 8 11 ?_
   refine hT 9 12 ?_
   refine hT 10 13 ?_
   first
    |done
    |guard_hyp zT10:Tg 1
    |refine hT 12 15 ?_
     refine hT 13 16 ?_
     refine hT 14 17 ?_
 refine hC 3 6 ?_
 (with_reducible refine (K1 _ hS0 hC0).mono ?_)
 rintro _ v1 ⟨rfl,hS1,hD1⟩
 have hC1:Chg (·=R) W v1:=hC0.trans hD1 (fun _ _ h=>h)
 refine ⟨_,rfl,keepAnd ?_ (fun hNew=>?_)⟩
 ·trivial
 clear zh
 have zh:=hNew
 clear hNew
 simp only [aP]
 refine hC 7 10 ?_
 (with_reducible refine (K2 _ hS1 hC1).mono ?_)
 rintro _ v2 ⟨rfl,hS2,hD2⟩
 have hC2:Chg (·=R) W v2:=hC1.trans hD2 (fun _ _ h=>h)
 refine ⟨_,rfl,keepAnd ?_ (fun hNew=>?_)⟩
 ·trivial
 clear zh
 have zh:=hNew
 clear hNew
 simp only [aP]
 first
  |first|guard_hyp zT10:Tg 2|guard_hyp zT10:Tg 3
   refine hT 8 11 ?_
   have hNew:(fun _:World=>True) (((v2.setCell ⟨w.heap.size,0,none⟩ (.string n1)).setCell ⟨w.heap.size,1,none⟩ (.int .i64 n2))):=by trivial
   refine heldSkipRun 9 none (w':=((v2.setCell ⟨w.heap.size,0,none⟩ (.string n1)).setCell ⟨w.heap.size,1,none⟩ (.int .i64 n2))) rfl rfl (by kernel_rfl) (by rfl) ?_ hNew ?_
  |refine hC 11 14 ?_
   (with_reducible refine (K3 _ hS2 hC2).mono ?_)
   rintro _ v3 ⟨rfl,hS3,hD3⟩
   have hC3:Chg (·=R) W v3:=hC2.trans hD3 (fun _ _ h=>h)
   refine ⟨_,rfl,keepAnd ?_ (fun hNew=>?_)⟩
   ·trivial
   clear zh
   have zh:=hNew
   clear hNew
   simp only [aP]
   first
    |guard_hyp zT10:Tg 1;refine hT 12 15 ?_
     have hNew:(fun _:World=>True) ((((v3.setCell ⟨w.heap.size,0,none⟩ (.string n1)).setCell ⟨w.heap.size,1,none⟩ (.int .i64 n2)).setCell ⟨w.heap.size,2,none⟩ (.bool n3))):=by trivial
     refine heldSkipRun 13 none (w':=(((v3.setCell ⟨w.heap.size,0,none⟩ (.string n1)).setCell ⟨w.heap.size,1,none⟩ (.int .i64 n2)).setCell ⟨w.heap.size,2,none⟩ (.bool n3))) rfl rfl (by kernel_rfl) (by rfl) ?_ hNew ?_
    |refine hC 15 18 ?_
     (with_reducible refine (K4 _ hS3 hC3).mono ?_)
     rintro _ v4 ⟨rfl,hS4,hD4⟩
     have hC4:Chg (·=R) W v4:=hC3.trans hD4 (fun _ _ h=>h)
     refine ⟨_,rfl,keepAnd ?_ (fun hNew=>?_)⟩
     ·trivial
     clear zh
     have zh:=hNew
     clear hNew
     simp only [aP]
     refine hT 16 19 ?_
     refine hT 17 20 ?_
     have hNew:(fun _:World=>True) (((((((v4.setCell ⟨w.heap.size,0,none⟩ (.string n1)).setCell ⟨w.heap.size,1,none⟩ (.string n2)).setCell ⟨w.heap.size,2,none⟩ (.int .i64 f3)).setCell ⟨w.heap.size,3,none⟩ (.int .i64 t3)).setCell ⟨w.heap.size,4,none⟩ (.int .i64 f4)).setCell ⟨w.heap.size,5,none⟩ (.int .i64 t4))):=by trivial
     refine heldSkipRun 18 none (w':=((((((v4.setCell ⟨w.heap.size,0,none⟩ (.string n1)).setCell ⟨w.heap.size,1,none⟩ (.string n2)).setCell ⟨w.heap.size,2,none⟩ (.int .i64 f3)).setCell ⟨w.heap.size,3,none⟩ (.int .i64 t3)).setCell ⟨w.heap.size,4,none⟩ (.int .i64 f4)).setCell ⟨w.heap.size,5,none⟩ (.int .i64 t4))) rfl rfl (by kernel_rfl) (by rfl) ?_ hNew ?_
 ·first
   |guard_hyp zT10:Tg 3;have hQn:v2.heap[w.heap.size]? =some (.cells #[.string ⟨#[]⟩,.int .i64 0] 117 (0,0)):=(hC2.block w.heap.size (by omega) (by omega)).trans HQ.out;have p0:v2.cell? ⟨w.heap.size,0,none⟩=some (.string ⟨#[]⟩):=cW0 v2 _ 0 _ _ _ hQn;have p1:v2.cell? ⟨w.heap.size,1,none⟩=some (.int .i64 0):=cW0 v2 _ 1 _ _ _ hQn;have g0:v2.frozen? ⟨w.heap.size,0,none⟩=false:=fW0 v2 _ 0 _ _ hQn;have g1:v2.frozen? ⟨w.heap.size,1,none⟩=false:=fW0 v2 _ 1 _ _ hQn;go_simp<;>with_reducible rfl
   |guard_hyp zT10:Tg 2;have hQn:v2.heap[w.heap.size]? =some (.cells #[.string ⟨#[]⟩,.int .i64 0] 122 (0,0)):=(hC2.block w.heap.size (by omega) (by omega)).trans HQ.out;have p0:v2.cell? ⟨w.heap.size,0,none⟩=some (.string ⟨#[]⟩):=cW0 v2 _ 0 _ _ _ hQn;have p1:v2.cell? ⟨w.heap.size,1,none⟩=some (.int .i64 0):=cW0 v2 _ 1 _ _ _ hQn;have g0:v2.frozen? ⟨w.heap.size,0,none⟩=false:=fW0 v2 _ 0 _ _ hQn;have g1:v2.frozen? ⟨w.heap.size,1,none⟩=false:=fW0 v2 _ 1 _ _ hQn;go_simp<;>with_reducible rfl
   |guard_hyp zT10:Tg 1;have hQn:v3.heap[w.heap.size]? =some (.cells #[.string ⟨#[]⟩,.int .i64 0,.bool false] 77 (0,0)):=(hC3.block w.heap.size (by omega) (by omega)).trans HQ.out;have p0:v3.cell? ⟨w.heap.size,0,none⟩=some (.string ⟨#[]⟩):=cW0 v3 _ 0 _ _ _ hQn;have p1:v3.cell? ⟨w.heap.size,1,none⟩=some (.int .i64 0):=cW0 v3 _ 1 _ _ _ hQn;have p2:v3.cell? ⟨w.heap.size,2,none⟩=some (.bool false):=cW0 v3 _ 2 _ _ _ hQn;have g0:v3.frozen? ⟨w.heap.size,0,none⟩=false:=fW0 v3 _ 0 _ _ hQn;have g1:v3.frozen? ⟨w.heap.size,1,none⟩=false:=fW0 v3 _ 1 _ _ hQn;have g2:v3.frozen? ⟨w.heap.size,2,none⟩=false:=fW0 v3 _ 2 _ _ hQn;go_simp<;>with_reducible rfl
   |have hQn:v4.heap[w.heap.size]? =some (.cells #[.string ⟨#[]⟩,.string ⟨#[]⟩,.int .i64 0,.int .i64 0,.int .i64 0,.int .i64 0] 109 (0,0)):=(hC4.block w.heap.size (by omega) (by omega)).trans HQ.out;have p0:v4.cell? ⟨w.heap.size,0,none⟩=some (.string ⟨#[]⟩):=cW0 v4 _ 0 _ _ _ hQn;have p1:v4.cell? ⟨w.heap.size,1,none⟩=some (.string ⟨#[]⟩):=cW0 v4 _ 1 _ _ _ hQn;have p2:v4.cell? ⟨w.heap.size,2,none⟩=some (.int .i64 0):=cW0 v4 _ 2 _ _ _ hQn;have p3:v4.cell? ⟨w.heap.size,3,none⟩=some (.int .i64 0):=cW0 v4 _ 3 _ _ _ hQn;have p4:v4.cell? ⟨w.heap.size,4,none⟩=some (.int .i64 0):=cW0 v4 _ 4 _ _ _ hQn;have p5:v4.cell? ⟨w.heap.size,5,none⟩=some (.int .i64 0):=cW0 v4 _ 5 _ _ _ hQn;have g0:v4.frozen? ⟨w.heap.size,0,none⟩=false:=fW0 v4 _ 0 _ _ hQn;have g1:v4.frozen? ⟨w.heap.size,1,none⟩=false:=fW0 v4 _ 1 _ _ hQn;have g2:v4.frozen? ⟨w.heap.size,2,none⟩=false:=fW0 v4 _ 2 _ _ hQn;have g3:v4.frozen? ⟨w.heap.size,3,none⟩=false:=fW0 v4 _ 3 _ _ hQn;have g4:v4.frozen? ⟨w.heap.size,4,none⟩=false:=fW0 v4 _ 4 _ _ hQn;have g5:v4.frozen? ⟨w.heap.size,5,none⟩=false:=fW0 v4 _ 5 _ _ hQn;go_simp<;>with_reducible rfl
 clear zh
 have zh:=hNew
 clear hNew
 simp only [Act.put]
 refine rD0 ?_
 clear zh
 first
  |guard_hyp zT10:Tg 3;have hQn:v2.heap[w.heap.size]? =some (.cells #[.string ⟨#[]⟩,.int .i64 0] 117 (0,0)):=(hC2.block w.heap.size (by omega) (by omega)).trans HQ.out
   have hY9:=set2_at hQn (.string n1) (.int .i64 n2)
   have hYc:=set2_chg v2 w.heap.size (.string n1) (.int .i64 n2)
   generalize ((v2.setCell ⟨w.heap.size,0,none⟩ (.string n1)).setCell ⟨w.heap.size,1,none⟩ (.int .i64 n2))=Y at *
   obtain ⟨p0,p1⟩:=cX2 hY9
  |guard_hyp zT10:Tg 2;have hQn:v2.heap[w.heap.size]? =some (.cells #[.string ⟨#[]⟩,.int .i64 0] 122 (0,0)):=(hC2.block w.heap.size (by omega) (by omega)).trans HQ.out
   have hY9:=set2_at hQn (.string n1) (.int .i64 n2)
   have hYc:=set2_chg v2 w.heap.size (.string n1) (.int .i64 n2)
   generalize ((v2.setCell ⟨w.heap.size,0,none⟩ (.string n1)).setCell ⟨w.heap.size,1,none⟩ (.int .i64 n2))=Y at *
   obtain ⟨p0,p1⟩:=cX2 hY9
  |guard_hyp zT10:Tg 1;have hQn:v3.heap[w.heap.size]? =some (.cells #[.string ⟨#[]⟩,.int .i64 0,.bool false] 77 (0,0)):=(hC3.block w.heap.size (by omega) (by omega)).trans HQ.out
   have hY9:=set3_at hQn (.string n1) (.int .i64 n2) (.bool n3)
   have hYc:=set3_chg v3 w.heap.size (.string n1) (.int .i64 n2) (.bool n3)
   generalize (((v3.setCell ⟨w.heap.size,0,none⟩ (.string n1)).setCell ⟨w.heap.size,1,none⟩ (.int .i64 n2)).setCell ⟨w.heap.size,2,none⟩ (.bool n3))=Y at *
   obtain ⟨p0,p1,p2⟩:=cX3 hY9
  |have hQn:v4.heap[w.heap.size]? =some (.cells #[.string ⟨#[]⟩,.string ⟨#[]⟩,.int .i64 0,.int .i64 0,.int .i64 0,.int .i64 0] 109 (0,0)):=(hC4.block w.heap.size (by omega) (by omega)).trans HQ.out
   have hY9:=set6_at hQn (.string n1) (.string n2) (.int .i64 f3) (.int .i64 t3) (.int .i64 f4) (.int .i64 t4)
   have hYc:=set6_chg v4 w.heap.size (.string n1) (.string n2) (.int .i64 f3) (.int .i64 t3) (.int .i64 f4) (.int .i64 t4)
   generalize ((((((v4.setCell ⟨w.heap.size,0,none⟩ (.string n1)).setCell ⟨w.heap.size,1,none⟩ (.string n2)).setCell ⟨w.heap.size,2,none⟩ (.int .i64 f3)).setCell ⟨w.heap.size,3,none⟩ (.int .i64 t3)).setCell ⟨w.heap.size,4,none⟩ (.int .i64 f4)).setCell ⟨w.heap.size,5,none⟩ (.int .i64 t4))=Y at *
   obtain ⟨p0,p1,p2,p3,p4,p5⟩:=cX6 hY9
 have hzY:=hYc.size
 have hz1:=hD1.size
 have hz2:=hD2.size
 first
  |done
  |first|guard_hyp zT10:Tg 2|guard_hyp zT10:Tg 3
  |have hz3:=hD3.size
   first
    |done
    |guard_hyp zT10:Tg 1
    |have hz4:=hD4.size
 have hzc0:=hC0.size
 first
  |guard_hyp zT10:Tg 1;have hSY:SrcAt Y R v s3:=(hYc.block R (by have:=hS3.lt;exact this) zi12).trans hS3
   have hCY:Chg (·=R) w Y:=((Chg.of_below HbW.out _).trans hC3 (fun _ _ h=>h)).trans hYc (fun i hi (h:i=w.heap.size)=>by omega)
  |guard_hyp zT10:Tg 0;have hSY:SrcAt Y R v s4:=(hYc.block R (by have:=hS4.lt;exact this) zi12).trans hS4
   have hCY:Chg (·=R) w Y:=((Chg.of_below HbW.out _).trans hC4 (fun _ _ h=>h)).trans hYc (fun i hi (h:i=w.heap.size)=>by omega)
  |have hSY:SrcAt Y R v s2:=(hYc.block R zi36 zi12).trans hS2
   have hCY:Chg (·=R) w Y:=((Chg.of_below HbW.out _).trans hC2 (fun _ _ h=>h)).trans hYc (fun i hi (h:i=w.heap.size)=>by omega)
 have HSY:=hI0 hSY
 have HCY:=hI0 hCY
 first
  |guard_hyp zT10:Tg 1;clear hSY hCY hQn hY9 hYc hS0 hC0 hS1 hC1 hD1 hz1 hS2 hC2 hD2 hz2 hS3 hC3 hD3 hz3
  |guard_hyp zT10:Tg 0;clear hSY hCY hQn hY9 hYc hS0 hC0 hS1 hC1 hD1 hz1 hS2 hC2 hD2 hz2 hS3 hC3 hD3 hz3 hS4 hC4 hD4 hz4
  |clear hSY hCY hQn hY9 hYc hS0 hC0 hS1 hC1 hD1 hz1 hS2 hC2 hD2 hz2
 go_wp2_with fail
 first
  |guard_hyp zT10:Tg 3;exact bodyPost_ret (v:=.agg #[.string n1,.int .i64 n2]) (by simp [results,results70,go_sem,p0,p1]) rfl ⟨⟨n1,n2⟩,rfl,trivial,by first|rfl|(simp [id];done),HSY.out,HCY.out⟩
  |guard_hyp zT10:Tg 2;exact bodyPost_ret (v:=.agg #[.string n1,.int .i64 n2]) (by simp [results,results72,go_sem,p0,p1]) rfl ⟨⟨n1,n2⟩,rfl,trivial,by first|rfl|(simp [id];done),HSY.out,HCY.out⟩
  |guard_hyp zT10:Tg 1;exact bodyPost_ret (v:=.agg #[.string n1,.int .i64 n2,.bool n3]) (by simp [results,results163,go_sem,p0,p1,p2]) rfl ⟨⟨n1,n2,n3⟩,rfl,trivial,by first|rfl|(simp [id];done),HSY.out,HCY.out⟩
  |exact bodyPost_ret (v:=.agg #[.string n1,.string n2,.int .i64 f3,.int .i64 t3,.int .i64 f4,.int .i64 t4]) (by simp [results,results66,go_sem,p0,p1,p2,p3,p4,p5]) rfl ⟨⟨n1,n2,f3,t3,f4,t4⟩,rfl,trivial,by first|rfl|(simp [id];done),HSY.out,HCY.out⟩) : P := h ⟨⟩
theorem zq17 {P:Prop} (i:Nat) (h:Tg i→P:=by
 intro zT17
 rcases h1:rdT l s with ⟨n1,s1⟩
 first
  |guard_hyp zT17:Tg 1;rcases h2:rdL l (rdVerP l) s1 with ⟨xs2,s2⟩
   have hd:rdTv l s=((⟨n1,none,0,xs2⟩:RTv),s2):=by unfold rdTv;simp only [h1,h2]
  |rcases h2:rdL l (rdI l) s1 with ⟨xs2,s2⟩
   rcases h3:rdL l (rdFct l) s2 with ⟨xs3,s3⟩
   have hd:rdDel l s=((⟨n1,none,0,xs2,none,0,xs3⟩:RDl),s3):=by unfold rdDel;simp only [h1,h2,h3]
 rw [hd]
 first
  |guard_hyp zT17:Tg 1;obtain ⟨W,hW⟩:=eN0 (w.alloc (.cells #[.string ⟨#[]⟩,.slice none 0 0] 165))
  |obtain ⟨W,hW⟩:=eN0 (w.alloc (.cells #[.string ⟨#[]⟩,.slice none 0 0,.slice none 0 0] 63))
 have hR:=h.lt
 have hbW:=bN0 hW
 have hWs:=sN0 hW
 have hQ:=hN0 hW
 have hS0:SrcAt W R v s:=h.below hbW
 have hC0:Chg (·=R) W W:=Chg.refl _ _
 have hvW:∀V,Chg (·=R) W V→RdB V (·<R) v l:=fun V hV=>Rd.keep hv (fun b (hb:b<R)=>(hV.block b (by omega) (by omega)).trans (hbW.block b (by omega)))
 have K1:∀V,SrcAt V R v s→Chg (·=R) W V→Calls prog 122 #[.pointer (some ⟨R,0,none⟩)] V fun x w'=>x=.returned (.string n1)∧SrcAt w' R v s1∧Chg (·=R) V w':=fun V hs hV=>by
  have k:=srcText_any R v l s V hs (hvW V hV)
  rw [h1] at k
  exact k
 first
  |guard_hyp zT17:Tg 1;have K2:∀V,SrcAt V R v s1→Chg (·=R) W V→Calls prog 123 #[.pointer (some ⟨R,0,none⟩),.func (.func 124) #[] #[]] V (GetE 9 encVP verIs verEr R v (xs2,s2) V):=fun V hs hV=>by
    have k:=getVer_any R v l (rdVerP l) 124 (entF func124) s1 V hs (hvW V hV) hl mon_VerP (fun s U hsU hU=>rdrVer_any R v l s U hsU (hvW U (hV.trans hU (fun _ _ h=>h))))
    rw [h2] at k
    exact k
  |have K2:∀V,SrcAt V R v s1→Chg (·=R) W V→Calls prog 165 #[.pointer (some ⟨R,0,none⟩),.func (.func 166) #[] #[]] V (GetE 1 intE isT id R v (xs2,s2) V):=fun V hs hV=>by
    have k:=getInt_any R v l (rdI l) 166 (entF func166) s1 V hs (hvW V hV) hl mon_I (fun s U hsU hU=>rdrNum_any R v l s U hsU (hvW U (hV.trans hU (fun _ _ h=>h))))
    rw [h2] at k
    exact k
   have K3:∀V,SrcAt V R v s2→Chg (·=R) W V→Calls prog 167 #[.pointer (some ⟨R,0,none⟩),.func (.func 168) #[] #[]] V (GetE 3 RF.enc RF.is RF.er R v (xs3,s3) V):=fun V hs hV=>by
    have k:=getFct_any R v l (rdFct l) 168 (entF func168) s2 V hs (hvW V hV) hl mon_Fct (fun s U hsU hU=>rdrFct_any R v l s U hsU (hvW U (hV.trans hU (fun _ _ h=>h))))
    rw [h3] at k
    exact k
 have HQ:=hI0 hQ
 have HbW:=hI0 hbW
 first
  |guard_hyp zT17:Tg 1;clear h hv hd hvW hQ hbW h1 h2
  |clear h hv hd hvW hQ hbW h1 h2 h3
 go_in
 go_wp2_with fail
 try rw [←hW]
 clear hW
 (with_reducible refine (K1 _ hS0 hC0).mono ?_)
 rintro _ v1 ⟨rfl,hS1,hD1⟩
 have hC1:Chg (·=R) W v1:=hC0.trans hD1 (fun _ _ h=>h)
 go_wp2_with fail
 (with_reducible refine (K2 _ hS1 hC1).mono ?_)
 rintro _ v2 ⟨u2,Q2,rfl,hU2,hI2,hE2,hS2,hD2⟩
 first
  |done
  |guard_hyp zT17:Tg 1
  |rw [List.map_id] at hE2
 obtain ⟨A2,c2,rfl⟩:=rdE_slice hU2
 have HU2:=hI0 hU2
 have HI2:=hI0 hI2
 have HE2:=hI0 hE2
 clear hU2 hI2 hE2
 have hC2:Chg (·=R) W v2:=hC1.trans hD2 (fun _ _ h=>h)
 first
  |done
  |guard_hyp zT17:Tg 1;have hQn:v2.heap[w.heap.size]? =some (.cells #[.string ⟨#[]⟩,.slice none 0 0] 165 (0,0)):=(hC2.block w.heap.size (by omega) (by omega)).trans HQ.out
   obtain ⟨p0,p1⟩:=cX2 hQn
   have g0:v2.frozen? ⟨w.heap.size,0,none⟩=false:=fW0 v2 _ 0 _ _ hQn
   have g1:v2.frozen? ⟨w.heap.size,1,none⟩=false:=fW0 v2 _ 1 _ _ hQn
  |skip
 go_wp2_with fail
 first
  |guard_hyp zT17:Tg 1;have hY9:=set2_at hQn (.string n1) (.slice A2 Q2.length c2)
   have hYc:=set2_chg v2 w.heap.size (.string n1) (.slice A2 Q2.length c2)
   clear p0 g0 p1 g1
   generalize ((v2.setCell ⟨w.heap.size,0,none⟩ (.string n1)).setCell ⟨w.heap.size,1,none⟩ (.slice A2 Q2.length c2))=Y at *
   obtain ⟨p0,p1⟩:=cX2 hY9
  |(with_reducible refine (K3 _ hS2 hC2).mono ?_)
   rintro _ v3 ⟨u3,Q3,rfl,hU3,hI3,hE3,hS3,hD3⟩
   obtain ⟨A3,c3,rfl⟩:=rdE_slice hU3
   have HU3:=hI0 hU3
   have HI3:=hI0 hI3
   have HE3:=hI0 hE3
   clear hU3 hI3 hE3
   have hC3:Chg (·=R) W v3:=hC2.trans hD3 (fun _ _ h=>h)
   have hQn:v3.heap[w.heap.size]? =some (.cells #[.string ⟨#[]⟩,.slice none 0 0,.slice none 0 0] 63 (0,0)):=(hC3.block w.heap.size (by omega) (by omega)).trans HQ.out
   obtain ⟨p0,p1,p2⟩:=cX3 hQn
   have g0:v3.frozen? ⟨w.heap.size,0,none⟩=false:=fW0 v3 _ 0 _ _ hQn
   have g1:v3.frozen? ⟨w.heap.size,1,none⟩=false:=fW0 v3 _ 1 _ _ hQn
   have g2:v3.frozen? ⟨w.heap.size,2,none⟩=false:=fW0 v3 _ 2 _ _ hQn
   go_wp2_with fail
   have hY9:=set3_at hQn (.string n1) (.slice A2 Q2.length c2) (.slice A3 Q3.length c3)
   have hYc:=set3_chg v3 w.heap.size (.string n1) (.slice A2 Q2.length c2) (.slice A3 Q3.length c3)
   clear p0 g0 p1 g1 p2 g2
   generalize (((v3.setCell ⟨w.heap.size,0,none⟩ (.string n1)).setCell ⟨w.heap.size,1,none⟩ (.slice A2 Q2.length c2)).setCell ⟨w.heap.size,2,none⟩ (.slice A3 Q3.length c3))=Y at *
   obtain ⟨p0,p1,p2⟩:=cX3 hY9
 have hzY:=hYc.size
 have hz1:=hD1.size
 have hz2:=hD2.size
 first
  |done
  |guard_hyp zT17:Tg 1
  |have hz3:=hD3.size
 have hzc0:=hC0.size
 first
  |guard_hyp zT17:Tg 1;have hk2:=fr_keep (v:=v1) (Chg.refl (·=R) v2) hYc (by have:=hC1.size;omega) (by have:=hC1.size;omega)
  |have hk2:=fr_keep (v:=v1) ((Chg.refl (·=R) v2).trans hD3 (fun _ _ h=>h)) hYc (by have:=hC1.size;omega) (by have:=hC1.size;omega)
 have hw2:=fr_wide (w:=w) (v:=v1) (v':=v2) (Y:=Y) (by have:=hC1.size;omega) (by omega)
 first
  |guard_hyp zT17:Tg 1;have hRw2:RdE 9 encVP Y (fun b=>w.heap.size≤b∧b<Y.heap.size) (.slice A2 Q2.length c2) Q2:=Rd.wide (Rd.keep HU2.out hk2) hw2
   have hRi2:∀p∈Q2,verIs Y (fun b=>w.heap.size≤b∧b<Y.heap.size) p:=fun p hp=>isK_V.wide (isK_V.keep (HI2.out p hp) hk2) hw2
   have hSY:SrcAt Y R v s2:=(hYc.block R zi36 zi12).trans hS2
   have hCY:Chg (·=R) w Y:=((Chg.of_below HbW.out _).trans hC2 (fun _ _ h=>h)).trans hYc (fun i hi (h:i=w.heap.size)=>by omega)
  |have hRw2:RdE 1 intE Y (fun b=>w.heap.size≤b∧b<Y.heap.size) (.slice A2 Q2.length c2) Q2:=Rd.wide (Rd.keep HU2.out hk2) hw2
   have hRi2:∀p∈Q2,isT Y (fun b=>w.heap.size≤b∧b<Y.heap.size) p:=fun p hp=>isK_T.wide (isK_T.keep (HI2.out p hp) hk2) hw2
   have hk3:=fr_keep (v:=v2) (Chg.refl (·=R) v3) hYc (by have:=hC2.size;omega) (by have:=hC2.size;omega)
   have hw3:=fr_wide (w:=w) (v:=v2) (v':=v3) (Y:=Y) (by have:=hC2.size;omega) (by omega)
   have hRw3:RdE 3 RF.enc Y (fun b=>w.heap.size≤b∧b<Y.heap.size) (.slice A3 Q3.length c3) Q3:=Rd.wide (Rd.keep HU3.out hk3) hw3
   have hRi3:∀p∈Q3,RF.is Y (fun b=>w.heap.size≤b∧b<Y.heap.size) p:=fun p hp=>isK_F.wide (isK_F.keep (HI3.out p hp) hk3) hw3
   have hSY:SrcAt Y R v s3:=(hYc.block R (by have:=hS3.lt;exact this) zi12).trans hS3
   have hCY:Chg (·=R) w Y:=((Chg.of_below HbW.out _).trans hC3 (fun _ _ h=>h)).trans hYc (fun i hi (h:i=w.heap.size)=>by omega)
 have HSY:=hI0 hSY
 have HCY:=hI0 hCY
 have HRw2:=hI0 hRw2
 have HRi2:=hI0 hRi2
 first
  |guard_hyp zT17:Tg 1;clear hSY hCY hQn hY9 hYc hS0 hC0 hS1 hC1 hD1 hz1 hS2 hC2 hD2 hz2 hk2 hw2 hRw2 hRi2
   exact bodyPost_ret (v:=.agg #[.string n1,.slice A2 Q2.length c2]) (by simp [results,results121,go_sem,p0,p1]) rfl ⟨⟨n1,A2,c2,Q2⟩,rfl,⟨HRw2.out,HRi2.out⟩,by first|rfl|(simp [RTv.er,HE2.out];done),HSY.out,HCY.out⟩
  |have HRw3:=hI0 hRw3
   have HRi3:=hI0 hRi3
   clear hSY hCY hQn hY9 hYc hS0 hC0 hS1 hC1 hD1 hz1 hS2 hC2 hD2 hz2 hS3 hC3 hD3 hz3 hk2 hw2 hRw2 hRi2 hk3 hw3 hRw3 hRi3
   exact bodyPost_ret (v:=.agg #[.string n1,.slice A2 Q2.length c2,.slice A3 Q3.length c3]) (by simp [results,results64,go_sem,p0,p1,p2]) rfl ⟨⟨n1,A2,c2,Q2,A3,c3,Q3⟩,rfl,⟨HRw2.out,HRw3.out,HRi3.out⟩,by first|rfl|(simp [RDl.er,HE2.out,HE3.out];done),HSY.out,HCY.out⟩) : P := h ⟨⟩
theorem zq23 {P:Prop} (i:Nat) (h:Tg i→P:=by
 intro zT23
 obtain ⟨W,hW⟩:=eN0 (w.alloc (.cells #[.int .i64 0,.int .i64 0,.int .i64 0,.int .i64 0,.string ⟨#[]⟩,.string ⟨#[]⟩,.slice none 0 0] 212))
 have hR:=h.lt
 have hbW:=bN0 hW
 have hWs:=sN0 hW
 have hQ:=hN0 hW
 have K:=KR W (h.below hbW) (Rd.keep hv (fun b (hb:b<R)=>hbW.block b (by omega)))
 first
  |done
  |guard_hyp zT23:Tg 1
  |have lc:W.cell? ⟨LB,0,none⟩=some (.int .i64 lv):=(World.cell?_of_block (hbW.block LB hLB)).trans hL
   have lc2:(w.alloc (.cells #[.int .i64 0,.int .i64 0,.int .i64 0,.int .i64 0,.string ⟨#[]⟩,.string ⟨#[]⟩,.slice none 0 0] 212)).cell? ⟨LB,0,none⟩=some (.int .i64 lv):=by rw [←hW];exact lc
 have HQ:=hI0 hQ
 have HbW:=hI0 hbW
 first
  |guard_hyp zT23:Tg 1;obtain ⟨res,hres⟩:=eN0 (rdX l 24 s)
  |obtain ⟨res,hres⟩:=eN0 (rdX l d s)
 rw [←hres] at K ⊢
 clear h hv KR hQ hbW hres
 go_in
 go_wp2_with fail
 rw [←hW]
 clear hW
 (with_reducible refine K.mono ?_)
 rintro e v1 ⟨x,he,hI,hE,hS,hC⟩
 obtain ⟨xo,xi,⟨x1,x2,x3⟩,xn,xA,xc,xas⟩:=x
 have he:e=.returned (.agg #[.int .i64 xo,.int .i64 xi,.int .i64 x1,.int .i64 x2,.string x3,.string xn,.slice xA xas.length xc]):=he
 subst he
 have hz1:=hC.size
 have hQ1:v1.heap[w.heap.size]? =some (.cells #[.int .i64 0,.int .i64 0,.int .i64 0,.int .i64 0,.string ⟨#[]⟩,.string ⟨#[]⟩,.slice none 0 0] 212 (0,0)):=(hC.block _ (by omega) zi11).trans HQ.out
 obtain ⟨p0,p1,p2,p3,p4,p5,p6⟩:=cX7 hQ1
 have g0:v1.frozen? ⟨w.heap.size,0,none⟩=false:=fW0 v1 _ 0 _ _ hQ1
 have g1:v1.frozen? ⟨w.heap.size,1,none⟩=false:=fW0 v1 _ 1 _ _ hQ1
 have g2:v1.frozen? ⟨w.heap.size,2,none⟩=false:=fW0 v1 _ 2 _ _ hQ1
 have g3:v1.frozen? ⟨w.heap.size,3,none⟩=false:=fW0 v1 _ 3 _ _ hQ1
 have g4:v1.frozen? ⟨w.heap.size,4,none⟩=false:=fW0 v1 _ 4 _ _ hQ1
 have g5:v1.frozen? ⟨w.heap.size,5,none⟩=false:=fW0 v1 _ 5 _ _ hQ1
 have g6:v1.frozen? ⟨w.heap.size,6,none⟩=false:=fW0 v1 _ 6 _ _ hQ1
 have HQ1:=hI0 hQ1
 have HI:=hI0 hI
 have HE:=hI0 hE
 have HS:=hI0 hS
 have HC:=hI0 hC
 clear hQ1 hI hE hS hC K
 go_wp2_with fail
 have hY:=set7_at HQ1.out (.int .i64 xo) (.int .i64 xi) (.int .i64 x1) (.int .i64 x2) (.string x3) (.string xn) (.slice xA xas.length xc)
 have hYc:=set7_chg v1 w.heap.size (.int .i64 xo) (.int .i64 xi) (.int .i64 x1) (.int .i64 x2) (.string x3) (.string xn) (.slice xA xas.length xc)
 clear p0 g0 p1 g1 p2 g2 p3 g3 p4 g4 p5 g5 p6 g6
 generalize (((((((v1.setCell ⟨w.heap.size,0,none⟩ (.int .i64 xo)).setCell ⟨w.heap.size,1,none⟩ (.int .i64 xi)).setCell ⟨w.heap.size,2,none⟩ (.int .i64 x1)).setCell ⟨w.heap.size,3,none⟩ (.int .i64 x2)).setCell ⟨w.heap.size,4,none⟩ (.string x3)).setCell ⟨w.heap.size,5,none⟩ (.string xn)).setCell ⟨w.heap.size,6,none⟩ (.slice xA xas.length xc))=Y at *
 obtain ⟨p0,p1,p2,p3,p4,p5,p6⟩:=cX7 hY
 have hzY:=hYc.size
 have hk:∀b,W.heap.size≤b∧b<v1.heap.size→Y.heap[b]? =v1.heap[b]? :=fun b hb=>hYc.block b hb.2 (by show b≠w.heap.size;omega)
 have hw:∀b,W.heap.size≤b∧b<v1.heap.size→w.heap.size≤b∧b<Y.heap.size:=fun b hb=>⟨by omega,by omega⟩
 have hIY:=isK_X.wide (isK_X.keep HI.out hk) hw
 have hSY:SrcAt Y R v res.2:=(hYc.block R HS.out.lt zi12).trans HS.out
 have hCY:Chg (·=R) w Y:=((Chg.of_below HbW.out _).trans HC.out (fun _ _ h=>h)).trans hYc (fun i hi (h:i=w.heap.size)=>by omega)
 first
  |guard_hyp zT23:Tg 1;exact bodyPost_ret (v:=.agg #[.int .i64 xo,.int .i64 xi,.int .i64 x1,.int .i64 x2,.string x3,.string xn,.slice xA xas.length xc]) (by simp [results,results218,go_sem,p0,p1,p2,p3,p4,p5,p6]) rfl ⟨⟨xo,xi,⟨x1,x2,x3⟩,xn,xA,xc,xas⟩,rfl,hIY,HE.out,hSY,hCY⟩
  |exact bodyPost_ret (v:=.agg #[.int .i64 xo,.int .i64 xi,.int .i64 x1,.int .i64 x2,.string x3,.string xn,.slice xA xas.length xc]) (by simp [results,results244,go_sem,p0,p1,p2,p3,p4,p5,p6]) rfl ⟨⟨xo,xi,⟨x1,x2,x3⟩,xn,xA,xc,xas⟩,rfl,hIY,HE.out,hSY,hCY⟩) : P := h ⟨⟩
theorem zq41 {P:Prop} (i:Nat) (h:Tg i→P:=by
 intro zT41
 have h0:=heap_setCell_same w T 0 _ _ c0 h
 have h1:=heap_setCell_same _ T 1 _ _ c1 h0
 have h2:=heap_setCell_same _ T 2 _ _ c2 h1
 have h3:=heap_setCell_same _ T 3 _ _ c3 h2
 have h4:=heap_setCell_same _ T 4 _ _ c4 h3
 first
  |guard_hyp zT41:Tg 3;simpa using h4
  |have h5:=heap_setCell_same _ T 5 _ _ c5 h4
   first
    |guard_hyp zT41:Tg 2;simpa using h5
    |have h6:=heap_setCell_same _ T 6 _ _ c6 h5
     first
      |guard_hyp zT41:Tg 1;simpa using h6
      |have h7:=heap_setCell_same _ T 7 _ _ c7 h6
       have h8:=heap_setCell_same _ T 8 _ _ c8 h7
       simpa using h8) : P := h ⟨⟩
theorem zq47 {P:Prop} (i:Nat) (h:Tg i→P:=by
 intro zT47
 first
  |guard_hyp zT47:Tg 1;refine fC 3 16 ?_
   (with_reducible refine (K1 _ hS0 hC0).mono ?_)
   rintro _ v1 ⟨rfl,hS1,hD1⟩
   have hC1:Chg (·=R) W v1:=hC0.trans hD1 (fun _ _ h=>h)
   refine ⟨_,rfl,rA0 trivial ?_⟩
   clear zh
   intro zh
   simp only [aP]
   refine fork2 7 17 (by kernel_rfl) ?_ ?_
  |refine wp_region_noPanic ?_
   refine beginT (S:=(fun _:World=>True)) 18 (by kernel_rfl) ?_ (fun zh=>?_)
   ·trivial
   refine tT 0 13 ?_
   refine tT 1 14 ?_
   refine tT 2 15 ?_
   refine tT 4 17 ?_
   refine tT 5 18 ?_
   refine tT 6 19 ?_
   refine tT 8 21 ?_
   refine tT 9 22 ?_
   refine tT 10 23 ?_
   refine tT 12 25 ?_
   refine tT 13 26 ?_
   refine tT 14 27 ?_
   refine fork2 3 17 (by kernel_rfl) ?_ ?_
 ·first
   |guard_hyp zT47:Tg 1;refine fC 7 20 ?_
    (with_reducible refine (K2 _ hS1 hC1).mono ?_)
    rintro _ v2 ⟨rfl,hS2,hD2⟩
    have hC2:Chg (·=R) W v2:=hC1.trans hD2 (fun _ _ h=>h)
   |refine fC 3 16 ?_
    (with_reducible refine (K1 _ hS0 hC0).mono ?_)
    rintro _ v1 ⟨rfl,hS1,hD1⟩
    have hC1:Chg (·=R) W v1:=hC0.trans hD1 (fun _ _ h=>h)
  refine ⟨_,rfl,rA0 trivial ?_⟩
  clear zh
  intro zh
  simp only [aP]
  first
   |guard_hyp zT47:Tg 1;refine fork2 11 17 (by kernel_rfl) ?_ ?_
   |refine fork2 7 17 (by kernel_rfl) ?_ ?_
  ·first
    |guard_hyp zT47:Tg 1;refine fC 11 24 ?_
     (with_reducible refine (K3 _ hS2 hC2).mono ?_)
     rintro _ v3 ⟨rfl,hS3,hD3⟩
     have hC3:Chg (·=R) W v3:=hC2.trans hD3 (fun _ _ h=>h)
    |refine fC 7 20 ?_
     (with_reducible refine (K2 _ hS1 hC1).mono ?_)
     rintro _ v2 ⟨rfl,hS2,hD2⟩
     have hC2:Chg (·=R) W v2:=hC1.trans hD2 (fun _ _ h=>h)
   refine ⟨_,rfl,rA0 trivial ?_⟩
   clear zh
   intro zh
   simp only [aP]
   first
    |guard_hyp zT47:Tg 1;refine fork2 15 17 (by kernel_rfl) ?_ ?_
    |refine fork2 11 17 (by kernel_rfl) ?_ ?_
   ·first
     |guard_hyp zT47:Tg 1;refine fC 15 28 ?_
      (with_reducible refine (K4 _ hS3 hC3).mono ?_)
      rintro _ v4 ⟨rfl,hS4,hD4⟩
      have hC4:Chg (·=R) W v4:=hC3.trans hD4 (fun _ _ h=>h)
     |refine fC 11 24 ?_
      (with_reducible refine (K3 _ hS2 hC2).mono ?_)
      rintro _ v3 ⟨rfl,hS3,hD3⟩
      have hC3:Chg (·=R) W v3:=hC2.trans hD3 (fun _ _ h=>h)
    refine ⟨_,rfl,rA0 trivial ?_⟩
    clear zh
    intro zh
    simp only [aP]
    first
     |guard_hyp zT47:Tg 1;refine tT 16 29 ?_
      refine fork1 17 (by kernel_rfl) ?_
      refine runF 17 (some 5) (v:=.pointer (some ⟨v4.heap.size,0,none⟩)) (w':=v4.alloc (.cells #[.int .i64 0,.int .i64 0,.int .i64 0,.int .i64 0,.string ⟨#[]⟩,.string ⟨#[]⟩,.slice none 0 0] 212)) rfl rfl (by rfl) ?_ ?_
     |refine fork2 15 17 (by kernel_rfl) ?_ ?_
    ·first
      |guard_hyp zT47:Tg 1;go_simp<;>with_reducible rfl
      |refine fC 15 28 ?_
       (with_reducible refine (K4 _ hS3 hC3).mono ?_)
       rintro _ v4 ⟨rfl,hS4,hD4⟩
       have hC4:Chg (·=R) W v4:=hC3.trans hD4 (fun _ _ h=>h)
       refine ⟨_,rfl,rA0 trivial ?_⟩
       clear zh
       intro zh
       simp only [aP]
       refine tT 16 29 ?_
       refine fork1 17 (by kernel_rfl) ?_
       refine runF 17 (some 5) (v:=.pointer (some ⟨v4.heap.size,0,none⟩)) (w':=v4.alloc (.cells #[.int .i64 0,.int .i64 0,.int .i64 0,.int .i64 0,.string ⟨#[]⟩,.string ⟨#[]⟩,.slice none 0 0] 212)) rfl rfl (by rfl) ?_ ?_
       ·go_simp<;>with_reducible rfl
       obtain ⟨T,hTe⟩:=eN0 v4.heap.size
       rw [←hTe]
       obtain ⟨X,hX⟩:=eN0 (v4.alloc (.cells #[.int .i64 0,.int .i64 0,.int .i64 0,.int .i64 0,.string ⟨#[]⟩,.string ⟨#[]⟩,.slice none 0 0] 212))
       rw [←hX]
       have hbX:=bN0 hX
       have hSX:SrcAt X R v s4:=hS4.below hbX
       have hCX:Chg (·=R) W X:=hC4.trans (Chg.of_below hbX _) (fun _ _ h=>h)
       have hTX:X.heap[T]? =some (.cells #[.int .i64 0,.int .i64 0,.int .i64 0,.int .i64 0,.string ⟨#[]⟩,.string ⟨#[]⟩,.slice none 0 0] 212 (0,0)):=by rw [hX,hTe];exact heap_alloc_new _ _
       have hTlX:T<X.heap.size:=by rw [hX,hTe];simp
       have hTW:W.heap.size≤T:=by rw [hTe];exact hC4.size
       clear hX hTe hbX
       refine rA0 trivial ?_
       clear zh
       intro zh
       simp only [aP]
       exact tl T X hTW hTlX hTX hSX hCX
    first
     |guard_hyp zT47:Tg 1;obtain ⟨T,hTe⟩:=eN0 v4.heap.size
      rw [←hTe]
      obtain ⟨X,hX⟩:=eN0 (v4.alloc (.cells #[.int .i64 0,.int .i64 0,.int .i64 0,.int .i64 0,.string ⟨#[]⟩,.string ⟨#[]⟩,.slice none 0 0] 212))
      rw [←hX]
      have hbX:=bN0 hX
      have hSX:SrcAt X R v s4:=hS4.below hbX
      have hCX:Chg (·=R) W X:=hC4.trans (Chg.of_below hbX _) (fun _ _ h=>h)
      have hTX:X.heap[T]? =some (.cells #[.int .i64 0,.int .i64 0,.int .i64 0,.int .i64 0,.string ⟨#[]⟩,.string ⟨#[]⟩,.slice none 0 0] 212 (0,0)):=by rw [hX,hTe];exact heap_alloc_new _ _
      have hTlX:T<X.heap.size:=by rw [hX,hTe];simp
      have hTW:W.heap.size≤T:=by rw [hTe];exact hC4.size
      clear hX hTe hbX
      refine rA0 trivial ?_
      clear zh
      intro zh
      simp only [aP]
      exact tl T X hTW hTlX hTX hSX hCX
     |·exact zq117 1
   ·exact zq117 0
  ·exact zq116 1
 ·exact zq116 0) : P := h ⟨⟩
theorem zq79 {P:Prop} (h:P:=by
 rw [hW]
 exact ((Below.of_alloc (w:=w.alloc (.cells #[.int .i64 lv] 3)) (.cells #[.int .i64 0,.int .i64 0,.int .i64 0,.int .i64 0,.string ⟨#[]⟩,.string ⟨#[]⟩,.slice none 0 0] 212)).block _ (by simp)).trans (heap_alloc_new _ _)) : P := h
theorem zq83 {P:Prop} (h:P:=by
 rw [hW]
 have h:=heap_alloc_new (w.alloc (.cells #[.int .i64 lv] 3)) (.cells #[.int .i64 0,.int .i64 0,.int .i64 0,.int .i64 0,.string ⟨#[]⟩,.string ⟨#[]⟩,.slice none 0 0] 212)
 simpa using h) : P := h
theorem zq115 {P:Prop} (h:P:=by
 have k:=srcInt_any R v l s1 V hs (hvW V hV)
 rw [h2] at k
 exact k) : P := h
theorem zq116 {P:Prop} (i:Nat) (h:Tg i→P:=by
 intro zT116
 first
  |guard_hyp zT116:Tg 1
   first
    |guard_hyp zT47:Tg 1;refine runF 17 (some 5) (v:=.pointer (some ⟨v2.heap.size,0,none⟩)) (w':=v2.alloc (.cells #[.int .i64 0,.int .i64 0,.int .i64 0,.int .i64 0,.string ⟨#[]⟩,.string ⟨#[]⟩,.slice none 0 0] 212)) rfl rfl (by rfl) ?_ ?_
    |refine runF 17 (some 5) (v:=.pointer (some ⟨v1.heap.size,0,none⟩)) (w':=v1.alloc (.cells #[.int .i64 0,.int .i64 0,.int .i64 0,.int .i64 0,.string ⟨#[]⟩,.string ⟨#[]⟩,.slice none 0 0] 212)) rfl rfl (by rfl) ?_ ?_
  |guard_hyp zT47:Tg 1;refine runF 17 (some 5) (v:=.pointer (some ⟨v1.heap.size,0,none⟩)) (w':=v1.alloc (.cells #[.int .i64 0,.int .i64 0,.int .i64 0,.int .i64 0,.string ⟨#[]⟩,.string ⟨#[]⟩,.slice none 0 0] 212)) rfl rfl (by rfl) ?_ ?_
  |refine runF 17 (some 5) (v:=.pointer (some ⟨W.drew.heap.size,0,none⟩)) (w':=W.drew.alloc (.cells #[.int .i64 0,.int .i64 0,.int .i64 0,.int .i64 0,.string ⟨#[]⟩,.string ⟨#[]⟩,.slice none 0 0] 212)) rfl rfl (by rfl) ?_ ?_
 ·go_simp<;>with_reducible rfl
 first
  |guard_hyp zT116:Tg 1
   first
    |guard_hyp zT47:Tg 1;obtain ⟨T,hTe⟩:=eN0 v2.heap.size
    |obtain ⟨T,hTe⟩:=eN0 v1.heap.size
  |guard_hyp zT47:Tg 1;obtain ⟨T,hTe⟩:=eN0 v1.heap.size
  |obtain ⟨T,hTe⟩:=eN0 W.drew.heap.size
 rw [←hTe]
 first
  |guard_hyp zT116:Tg 1
   first
    |guard_hyp zT47:Tg 1;obtain ⟨X,hX⟩:=eN0 (v2.alloc (.cells #[.int .i64 0,.int .i64 0,.int .i64 0,.int .i64 0,.string ⟨#[]⟩,.string ⟨#[]⟩,.slice none 0 0] 212))
    |obtain ⟨X,hX⟩:=eN0 (v1.alloc (.cells #[.int .i64 0,.int .i64 0,.int .i64 0,.int .i64 0,.string ⟨#[]⟩,.string ⟨#[]⟩,.slice none 0 0] 212))
  |guard_hyp zT47:Tg 1;obtain ⟨X,hX⟩:=eN0 (v1.alloc (.cells #[.int .i64 0,.int .i64 0,.int .i64 0,.int .i64 0,.string ⟨#[]⟩,.string ⟨#[]⟩,.slice none 0 0] 212))
  |obtain ⟨X,hX⟩:=eN0 (W.drew.alloc (.cells #[.int .i64 0,.int .i64 0,.int .i64 0,.int .i64 0,.string ⟨#[]⟩,.string ⟨#[]⟩,.slice none 0 0] 212))
 rw [←hX]
 have hbX:=bN0 hX
 first
  |guard_hyp zT116:Tg 1
   first
    |guard_hyp zT47:Tg 1;have hSX:SrcAt X R v s2:=hS2.below hbX
     have hCX:Chg (·=R) W X:=hC2.trans (Chg.of_below hbX _) (fun _ _ h=>h)
    |have hSX:SrcAt X R v s1:=hS1.below hbX
     have hCX:Chg (·=R) W X:=hC1.trans (Chg.of_below hbX _) (fun _ _ h=>h)
  |guard_hyp zT47:Tg 1;have hSX:SrcAt X R v s1:=hS1.below hbX
   have hCX:Chg (·=R) W X:=hC1.trans (Chg.of_below hbX _) (fun _ _ h=>h)
  |have hSX:SrcAt X R v s:=hS0.below hbX
   have hCX:Chg (·=R) W X:=hC0.trans (Chg.of_below hbX _) (fun _ _ h=>h)
 have hTX:X.heap[T]? =some (.cells #[.int .i64 0,.int .i64 0,.int .i64 0,.int .i64 0,.string ⟨#[]⟩,.string ⟨#[]⟩,.slice none 0 0] 212 (0,0)):=by rw [hX,hTe];exact heap_alloc_new _ _
 have hTlX:T<X.heap.size:=by rw [hX,hTe];simp
 first
  |guard_hyp zT116:Tg 1
   first
    |guard_hyp zT47:Tg 1;have hTW:W.heap.size≤T:=by rw [hTe];exact hC2.size
    |have hTW:W.heap.size≤T:=by rw [hTe];exact hC1.size
  |guard_hyp zT47:Tg 1;have hTW:W.heap.size≤T:=by rw [hTe];exact hC1.size
  |have hTW:W.heap.size≤T:=by rw [hTe];exact hC0.size
 clear hX hTe hbX
 refine rA0 trivial ?_
 clear zh
 intro zh
 simp only [aP]
 first
  |guard_hyp zT116:Tg 1
   first
    |done
    |guard_hyp zT47:Tg 1
    |refine fork1 7 (by kernel_rfl) ?_
     refine fC 7 20 ?_
     (with_reducible refine (K2 _ hSX hCX).mono ?_)
     rintro _ v2 ⟨rfl,hS2,hD2⟩
     have hC2:Chg (·=R) W v2:=hCX.trans hD2 (fun _ _ h=>h)
     have hT2:v2.heap[T]? =some (.cells #[.int .i64 0,.int .i64 0,.int .i64 0,.int .i64 0,.string ⟨#[]⟩,.string ⟨#[]⟩,.slice none 0 0] 212 (0,0)):=(hD2.block T hTlX (by show T≠R;omega)).trans hTX
     have hTl2:T<v2.heap.size:=by have:=hD2.size;omega
     refine ⟨_,rfl,rA0 trivial ?_⟩
     clear zh
     intro zh
     simp only [aP]
  |first
    |done
    |guard_hyp zT47:Tg 1
    |refine fork1 3 (by kernel_rfl) ?_
     refine fC 3 16 ?_
     (with_reducible refine (K1 _ hSX hCX).mono ?_)
     rintro _ v1 ⟨rfl,hS1,hD1⟩
     have hC1:Chg (·=R) W v1:=hCX.trans hD1 (fun _ _ h=>h)
     have hT1:v1.heap[T]? =some (.cells #[.int .i64 0,.int .i64 0,.int .i64 0,.int .i64 0,.string ⟨#[]⟩,.string ⟨#[]⟩,.slice none 0 0] 212 (0,0)):=(hD1.block T hTlX (by show T≠R;omega)).trans hTX
     have hTl1:T<v1.heap.size:=by have:=hD1.size;omega
     refine ⟨_,rfl,rA0 trivial ?_⟩
     clear zh
     intro zh
     simp only [aP]
   refine fork1 7 (by kernel_rfl) ?_
   refine fC 7 20 ?_
   first
    |guard_hyp zT47:Tg 1;(with_reducible refine (K2 _ hSX hCX).mono ?_)
    |(with_reducible refine (K2 _ hS1 hC1).mono ?_)
   rintro _ v2 ⟨rfl,hS2,hD2⟩
   first
    |guard_hyp zT47:Tg 1;have hC2:Chg (·=R) W v2:=hCX.trans hD2 (fun _ _ h=>h)
     have hT2:v2.heap[T]? =some (.cells #[.int .i64 0,.int .i64 0,.int .i64 0,.int .i64 0,.string ⟨#[]⟩,.string ⟨#[]⟩,.slice none 0 0] 212 (0,0)):=(hD2.block T hTlX (by show T≠R;omega)).trans hTX
    |have hC2:Chg (·=R) W v2:=hC1.trans hD2 (fun _ _ h=>h)
     have hT2:v2.heap[T]? =some (.cells #[.int .i64 0,.int .i64 0,.int .i64 0,.int .i64 0,.string ⟨#[]⟩,.string ⟨#[]⟩,.slice none 0 0] 212 (0,0)):=(hD2.block T hTl1 (by show T≠R;omega)).trans hT1
   have hTl2:T<v2.heap.size:=by have:=hD2.size;omega
   refine ⟨_,rfl,rA0 trivial ?_⟩
   clear zh
   intro zh
   simp only [aP]
 refine fork1 11 (by kernel_rfl) ?_
 refine fC 11 24 ?_
 first
  |guard_hyp zT116:Tg 1
   first
    |guard_hyp zT47:Tg 1;(with_reducible refine (K3 _ hSX hCX).mono ?_)
    |(with_reducible refine (K3 _ hS2 hC2).mono ?_)
  |(with_reducible refine (K3 _ hS2 hC2).mono ?_)
 rintro _ v3 ⟨rfl,hS3,hD3⟩
 first
  |guard_hyp zT116:Tg 1
   first
    |guard_hyp zT47:Tg 1;have hC3:Chg (·=R) W v3:=hCX.trans hD3 (fun _ _ h=>h)
     have hT3:v3.heap[T]? =some (.cells #[.int .i64 0,.int .i64 0,.int .i64 0,.int .i64 0,.string ⟨#[]⟩,.string ⟨#[]⟩,.slice none 0 0] 212 (0,0)):=(hD3.block T hTlX (by show T≠R;omega)).trans hTX
    |have hC3:Chg (·=R) W v3:=hC2.trans hD3 (fun _ _ h=>h)
     have hT3:v3.heap[T]? =some (.cells #[.int .i64 0,.int .i64 0,.int .i64 0,.int .i64 0,.string ⟨#[]⟩,.string ⟨#[]⟩,.slice none 0 0] 212 (0,0)):=(hD3.block T hTl2 (by show T≠R;omega)).trans hT2
  |have hC3:Chg (·=R) W v3:=hC2.trans hD3 (fun _ _ h=>h)
   have hT3:v3.heap[T]? =some (.cells #[.int .i64 0,.int .i64 0,.int .i64 0,.int .i64 0,.string ⟨#[]⟩,.string ⟨#[]⟩,.slice none 0 0] 212 (0,0)):=(hD3.block T hTl2 (by show T≠R;omega)).trans hT2
 have hTl3:T<v3.heap.size:=by have:=hD3.size;omega
 refine ⟨_,rfl,rA0 trivial ?_⟩
 clear zh
 intro zh
 simp only [aP]
 refine fork1 15 (by kernel_rfl) ?_
 refine fC 15 28 ?_
 (with_reducible refine (K4 _ hS3 hC3).mono ?_)
 rintro _ v4 ⟨rfl,hS4,hD4⟩
 have hC4:Chg (·=R) W v4:=hC3.trans hD4 (fun _ _ h=>h)
 have hT4:v4.heap[T]? =some (.cells #[.int .i64 0,.int .i64 0,.int .i64 0,.int .i64 0,.string ⟨#[]⟩,.string ⟨#[]⟩,.slice none 0 0] 212 (0,0)):=(hD4.block T hTl3 (by show T≠R;omega)).trans hT3
 have hTl4:T<v4.heap.size:=by have:=hD4.size;omega
 refine ⟨_,rfl,rA0 trivial ?_⟩
 clear zh
 intro zh
 simp only [aP]
 refine tT 16 29 ?_
 exact tl T v4 hTW hTl4 hT4 hS4 hC4) : P := h ⟨⟩
theorem zq117 {P:Prop} (i:Nat) (h:Tg i→P:=by
 intro zT117
 first
  |guard_hyp zT117:Tg 1;refine runF 17 (some 5) (v:=.pointer (some ⟨v3.heap.size,0,none⟩)) (w':=v3.alloc (.cells #[.int .i64 0,.int .i64 0,.int .i64 0,.int .i64 0,.string ⟨#[]⟩,.string ⟨#[]⟩,.slice none 0 0] 212)) rfl rfl (by rfl) ?_ ?_
  |guard_hyp zT47:Tg 1;refine runF 17 (some 5) (v:=.pointer (some ⟨v3.heap.size,0,none⟩)) (w':=v3.alloc (.cells #[.int .i64 0,.int .i64 0,.int .i64 0,.int .i64 0,.string ⟨#[]⟩,.string ⟨#[]⟩,.slice none 0 0] 212)) rfl rfl (by rfl) ?_ ?_
  |refine runF 17 (some 5) (v:=.pointer (some ⟨v2.heap.size,0,none⟩)) (w':=v2.alloc (.cells #[.int .i64 0,.int .i64 0,.int .i64 0,.int .i64 0,.string ⟨#[]⟩,.string ⟨#[]⟩,.slice none 0 0] 212)) rfl rfl (by rfl) ?_ ?_
 ·go_simp<;>with_reducible rfl
 first
  |guard_hyp zT117:Tg 1;obtain ⟨T,hTe⟩:=eN0 v3.heap.size
  |guard_hyp zT47:Tg 1;obtain ⟨T,hTe⟩:=eN0 v3.heap.size
  |obtain ⟨T,hTe⟩:=eN0 v2.heap.size
 rw [←hTe]
 first
  |guard_hyp zT117:Tg 1;obtain ⟨X,hX⟩:=eN0 (v3.alloc (.cells #[.int .i64 0,.int .i64 0,.int .i64 0,.int .i64 0,.string ⟨#[]⟩,.string ⟨#[]⟩,.slice none 0 0] 212))
  |guard_hyp zT47:Tg 1;obtain ⟨X,hX⟩:=eN0 (v3.alloc (.cells #[.int .i64 0,.int .i64 0,.int .i64 0,.int .i64 0,.string ⟨#[]⟩,.string ⟨#[]⟩,.slice none 0 0] 212))
  |obtain ⟨X,hX⟩:=eN0 (v2.alloc (.cells #[.int .i64 0,.int .i64 0,.int .i64 0,.int .i64 0,.string ⟨#[]⟩,.string ⟨#[]⟩,.slice none 0 0] 212))
 rw [←hX]
 have hbX:=bN0 hX
 first
  |guard_hyp zT117:Tg 1;have hSX:SrcAt X R v s3:=hS3.below hbX
   have hCX:Chg (·=R) W X:=hC3.trans (Chg.of_below hbX _) (fun _ _ h=>h)
  |guard_hyp zT47:Tg 1;have hSX:SrcAt X R v s3:=hS3.below hbX
   have hCX:Chg (·=R) W X:=hC3.trans (Chg.of_below hbX _) (fun _ _ h=>h)
  |have hSX:SrcAt X R v s2:=hS2.below hbX
   have hCX:Chg (·=R) W X:=hC2.trans (Chg.of_below hbX _) (fun _ _ h=>h)
 have hTX:X.heap[T]? =some (.cells #[.int .i64 0,.int .i64 0,.int .i64 0,.int .i64 0,.string ⟨#[]⟩,.string ⟨#[]⟩,.slice none 0 0] 212 (0,0)):=by rw [hX,hTe];exact heap_alloc_new _ _
 have hTlX:T<X.heap.size:=by rw [hX,hTe];simp
 first
  |guard_hyp zT117:Tg 1;have hTW:W.heap.size≤T:=by rw [hTe];exact hC3.size
  |guard_hyp zT47:Tg 1;have hTW:W.heap.size≤T:=by rw [hTe];exact hC3.size
  |have hTW:W.heap.size≤T:=by rw [hTe];exact hC2.size
 clear hX hTe hbX
 refine rA0 trivial ?_
 clear zh
 intro zh
 simp only [aP]
 first
  |done
  |guard_hyp zT117:Tg 1
  |guard_hyp zT47:Tg 1
  |refine fork1 11 (by kernel_rfl) ?_
   refine fC 11 24 ?_
   (with_reducible refine (K3 _ hSX hCX).mono ?_)
   rintro _ v3 ⟨rfl,hS3,hD3⟩
   have hC3:Chg (·=R) W v3:=hCX.trans hD3 (fun _ _ h=>h)
   have hT3:v3.heap[T]? =some (.cells #[.int .i64 0,.int .i64 0,.int .i64 0,.int .i64 0,.string ⟨#[]⟩,.string ⟨#[]⟩,.slice none 0 0] 212 (0,0)):=(hD3.block T hTlX (by show T≠R;omega)).trans hTX
   have hTl3:T<v3.heap.size:=by have:=hD3.size;omega
   refine ⟨_,rfl,rA0 trivial ?_⟩
   clear zh
   intro zh
   simp only [aP]
 refine fork1 15 (by kernel_rfl) ?_
 refine fC 15 28 ?_
 first
  |guard_hyp zT117:Tg 1;(with_reducible refine (K4 _ hSX hCX).mono ?_)
  |guard_hyp zT47:Tg 1;(with_reducible refine (K4 _ hSX hCX).mono ?_)
  |(with_reducible refine (K4 _ hS3 hC3).mono ?_)
 rintro _ v4 ⟨rfl,hS4,hD4⟩
 first
  |guard_hyp zT117:Tg 1;have hC4:Chg (·=R) W v4:=hCX.trans hD4 (fun _ _ h=>h)
   have hT4:v4.heap[T]? =some (.cells #[.int .i64 0,.int .i64 0,.int .i64 0,.int .i64 0,.string ⟨#[]⟩,.string ⟨#[]⟩,.slice none 0 0] 212 (0,0)):=(hD4.block T hTlX (by show T≠R;omega)).trans hTX
  |guard_hyp zT47:Tg 1;have hC4:Chg (·=R) W v4:=hCX.trans hD4 (fun _ _ h=>h)
   have hT4:v4.heap[T]? =some (.cells #[.int .i64 0,.int .i64 0,.int .i64 0,.int .i64 0,.string ⟨#[]⟩,.string ⟨#[]⟩,.slice none 0 0] 212 (0,0)):=(hD4.block T hTlX (by show T≠R;omega)).trans hTX
  |have hC4:Chg (·=R) W v4:=hC3.trans hD4 (fun _ _ h=>h)
   have hT4:v4.heap[T]? =some (.cells #[.int .i64 0,.int .i64 0,.int .i64 0,.int .i64 0,.string ⟨#[]⟩,.string ⟨#[]⟩,.slice none 0 0] 212 (0,0)):=(hD4.block T hTl3 (by show T≠R;omega)).trans hT3
 have hTl4:T<v4.heap.size:=by have:=hD4.size;omega
 refine ⟨_,rfl,rA0 trivial ?_⟩
 clear zh
 intro zh
 simp only [aP]
 refine tT 16 29 ?_
 exact tl T v4 hTW hTl4 hT4 hS4 hC4) : P := h ⟨⟩
theorem zi12 {P:Prop} (h:P:=by show R≠w.heap.size;omega):P:=h
theorem zi33 {P:Prop} (h:P:=by simp [results,results219,go_sem,p0,p1,p2,p3,p4,p5,p6]):P:=h
theorem zi36 {P:Prop} (h:P:=by have:=hS2.lt;exact this):P:=h
section
open Go.RowKit Go.Lib Go.IntWalk Go.Sort Go.Shelf
theorem set2_at {w:World} {T:Nat} {a0 a1:Value} {e:TypeId} (h:w.heap[T]? =some (.cells #[a0,a1] e (0,0))) (c0 c1:Value):((w.setCell ⟨T,0,none⟩ c0).setCell ⟨T,1,none⟩ c1).heap[T]? =some (.cells #[c0,c1] e (0,0)):=by
 have h0:=heap_setCell_same w T 0 _ _ c0 h
 have h1:=heap_setCell_same _ T 1 _ _ c1 h0
 simpa using h1
theorem set2_chg (w:World) (T:Nat) (c0 c1:Value):Chg (·=T) w ((w.setCell ⟨T,0,none⟩ c0).setCell ⟨T,1,none⟩ c1):=
 ((Chg.refl (·=T) w).setCell (p:=⟨T,0,none⟩) (.inl rfl) c0).setCell (p:=⟨T,1,none⟩) (.inl rfl) c1
theorem set3_at {w:World} {T:Nat} {a0 a1 a2:Value} {e:TypeId} (h:w.heap[T]? =some (.cells #[a0,a1,a2] e (0,0))) (c0 c1 c2:Value):(((w.setCell ⟨T,0,none⟩ c0).setCell ⟨T,1,none⟩ c1).setCell ⟨T,2,none⟩ c2).heap[T]? =some (.cells #[c0,c1,c2] e (0,0)):=by
 have h0:=heap_setCell_same w T 0 _ _ c0 h
 have h1:=heap_setCell_same _ T 1 _ _ c1 h0
 have h2:=heap_setCell_same _ T 2 _ _ c2 h1
 simpa using h2
theorem set3_chg (w:World) (T:Nat) (c0 c1 c2:Value):Chg (·=T) w (((w.setCell ⟨T,0,none⟩ c0).setCell ⟨T,1,none⟩ c1).setCell ⟨T,2,none⟩ c2):=
 (((Chg.refl (·=T) w).setCell (p:=⟨T,0,none⟩) (.inl rfl) c0).setCell (p:=⟨T,1,none⟩) (.inl rfl) c1).setCell (p:=⟨T,2,none⟩) (.inl rfl) c2
theorem set5_at {w:World} {T:Nat} {a0 a1 a2 a3 a4:Value} {e:TypeId} (h:w.heap[T]? =some (.cells #[a0,a1,a2,a3,a4] e (0,0))) (c0 c1 c2 c3 c4:Value):(((((w.setCell ⟨T,0,none⟩ c0).setCell ⟨T,1,none⟩ c1).setCell ⟨T,2,none⟩ c2).setCell ⟨T,3,none⟩ c3).setCell ⟨T,4,none⟩ c4).heap[T]? =some (.cells #[c0,c1,c2,c3,c4] e (0,0)):=by
 exact zq41 3
theorem set5_chg (w:World) (T:Nat) (c0 c1 c2 c3 c4:Value):Chg (·=T) w (((((w.setCell ⟨T,0,none⟩ c0).setCell ⟨T,1,none⟩ c1).setCell ⟨T,2,none⟩ c2).setCell ⟨T,3,none⟩ c3).setCell ⟨T,4,none⟩ c4):=
 (((((Chg.refl (·=T) w).setCell (p:=⟨T,0,none⟩) (.inl rfl) c0).setCell (p:=⟨T,1,none⟩) (.inl rfl) c1).setCell (p:=⟨T,2,none⟩) (.inl rfl) c2).setCell (p:=⟨T,3,none⟩) (.inl rfl) c3).setCell (p:=⟨T,4,none⟩) (.inl rfl) c4
theorem set6_at {w:World} {T:Nat} {a0 a1 a2 a3 a4 a5:Value} {e:TypeId} (h:w.heap[T]? =some (.cells #[a0,a1,a2,a3,a4,a5] e (0,0))) (c0 c1 c2 c3 c4 c5:Value):((((((w.setCell ⟨T,0,none⟩ c0).setCell ⟨T,1,none⟩ c1).setCell ⟨T,2,none⟩ c2).setCell ⟨T,3,none⟩ c3).setCell ⟨T,4,none⟩ c4).setCell ⟨T,5,none⟩ c5).heap[T]? =some (.cells #[c0,c1,c2,c3,c4,c5] e (0,0)):=by
 exact zq41 2
theorem set6_chg (w:World) (T:Nat) (c0 c1 c2 c3 c4 c5:Value):Chg (·=T) w ((((((w.setCell ⟨T,0,none⟩ c0).setCell ⟨T,1,none⟩ c1).setCell ⟨T,2,none⟩ c2).setCell ⟨T,3,none⟩ c3).setCell ⟨T,4,none⟩ c4).setCell ⟨T,5,none⟩ c5):=
 ((((((Chg.refl (·=T) w).setCell (p:=⟨T,0,none⟩) (.inl rfl) c0).setCell (p:=⟨T,1,none⟩) (.inl rfl) c1).setCell (p:=⟨T,2,none⟩) (.inl rfl) c2).setCell (p:=⟨T,3,none⟩) (.inl rfl) c3).setCell (p:=⟨T,4,none⟩) (.inl rfl) c4).setCell (p:=⟨T,5,none⟩) (.inl rfl) c5
theorem set7_at {w:World} {T:Nat} {a0 a1 a2 a3 a4 a5 a6:Value} {e:TypeId} (h:w.heap[T]? =some (.cells #[a0,a1,a2,a3,a4,a5,a6] e (0,0))) (c0 c1 c2 c3 c4 c5 c6:Value):(((((((w.setCell ⟨T,0,none⟩ c0).setCell ⟨T,1,none⟩ c1).setCell ⟨T,2,none⟩ c2).setCell ⟨T,3,none⟩ c3).setCell ⟨T,4,none⟩ c4).setCell ⟨T,5,none⟩ c5).setCell ⟨T,6,none⟩ c6).heap[T]? =some (.cells #[c0,c1,c2,c3,c4,c5,c6] e (0,0)):=by
 exact zq41 1
theorem set7_chg (w:World) (T:Nat) (c0 c1 c2 c3 c4 c5 c6:Value):Chg (·=T) w (((((((w.setCell ⟨T,0,none⟩ c0).setCell ⟨T,1,none⟩ c1).setCell ⟨T,2,none⟩ c2).setCell ⟨T,3,none⟩ c3).setCell ⟨T,4,none⟩ c4).setCell ⟨T,5,none⟩ c5).setCell ⟨T,6,none⟩ c6):=
 (((((((Chg.refl (·=T) w).setCell (p:=⟨T,0,none⟩) (.inl rfl) c0).setCell (p:=⟨T,1,none⟩) (.inl rfl) c1).setCell (p:=⟨T,2,none⟩) (.inl rfl) c2).setCell (p:=⟨T,3,none⟩) (.inl rfl) c3).setCell (p:=⟨T,4,none⟩) (.inl rfl) c4).setCell (p:=⟨T,5,none⟩) (.inl rfl) c5).setCell (p:=⟨T,6,none⟩) (.inl rfl) c6
theorem fr_keep {R T:Nat} {v v' u Y:World} (h1:Chg (·=R) v' u) (h2:Chg (·=T) u Y) (hR:R<v.heap.size) (hT:T<v.heap.size):∀b,v.heap.size≤b∧b<v'.heap.size→Y.heap[b]? =v'.heap[b]? :=
 fun b hb=>(h2.block b (by have:=h1.size;omega) (by omega)).trans (h1.block b hb.2 (by omega))
theorem fr_wide {w v v' Y:World} (h1:w.heap.size≤v.heap.size) (h2:v'.heap.size≤Y.heap.size):∀b,v.heap.size≤b∧b<v'.heap.size→w.heap.size≤b∧b<Y.heap.size:=fun b hb=>⟨by omega,by omega⟩
def delIs (w:World) (F:Nat→Prop) (d:RDl):Prop:=RdE 1 intE w F (.slice d.cA d.cl.length d.cc) d.cl∧RdE 3 RF.enc w F (.slice d.oA d.ops.length d.oc) d.ops∧∀p∈d.ops,p.is w F
theorem isK_D:IsK delIs:=⟨fun h hk=>⟨Rd.keep h.1 hk,Rd.keep h.2.1 hk,fun p hp=>isK_F.keep (h.2.2 p hp) hk⟩,fun h hw=>⟨Rd.wide h.1 hw,Rd.wide h.2.1 hw,fun p hp=>isK_F.wide (h.2.2 p hp) hw⟩⟩
theorem rdrCol_any (R:Nat) (v:Value) (l:List UInt8) (s:Int×Int) (w:World) (h:SrcAt w R v s) (hv:RdB w (·<R) v l):
  Calls prog 163 #[.pointer (some ⟨R,0,none⟩)] w (OneE (fun x:RCol=>.agg x.enc.toArray) isT id R v (rdCol l s) w):=by
 exact zq10 1
theorem rdrHld_any (R:Nat) (v:Value) (l:List UInt8) (s:Int×Int) (w:World) (h:SrcAt w R v s) (hv:RdB w (·<R) v l):
  Calls prog 66 #[.pointer (some ⟨R,0,none⟩)] w (OneE (fun x:Hld=>.agg x.enc.toArray) isT id R v (rdHld l s) w):=by
 exact zq10 0
theorem rdrPol_any (R:Nat) (v:Value) (l:List UInt8) (s:Int×Int) (w:World) (h:SrcAt w R v s) (hv:RdB w (·<R) v l):
  Calls prog 70 #[.pointer (some ⟨R,0,none⟩)] w (OneE (fun x:Pol=>.agg x.enc.toArray) isT id R v (rdPol l s) w):=by
 exact zq10 3
theorem rdrHor_any (R:Nat) (v:Value) (l:List UInt8) (s:Int×Int) (w:World) (h:SrcAt w R v s) (hv:RdB w (·<R) v l):
  Calls prog 72 #[.pointer (some ⟨R,0,none⟩)] w (OneE (fun x:Hor=>.agg x.enc.toArray) isT id R v (rdHor l s) w):=by
 exact zq10 2
theorem rdrFct_any (R:Nat) (v:Value) (l:List UInt8) (s:Int×Int) (w:World) (h:SrcAt w R v s) (hv:RdB w (·<R) v l):
  Calls prog 168 #[.pointer (some ⟨R,0,none⟩)] w (OneE (fun x:RF=>.agg x.enc.toArray) RF.is RF.er R v (rdFct l s) w):=by
 rcases h1:rdR l s with ⟨xs1,s1⟩
 rcases h2:rdP l s1 with ⟨⟨f2,t2⟩,s2⟩
 have hd:rdFct l s=((⟨none,0,0,xs1,f2,t2⟩:RF),s2):=by unfold rdFct;simp only [h1,h2]
 have hok1:∀x∈xs1,goV x:=by
  have e:xs1=(rdR l s).1:=by rw [h1]
  rw [e]
  unfold rdR rdS
  split
  ·intro x hx;cases hx
  ·split<;>exact decR_ok l _
 rw [hd]
 obtain ⟨W,hW⟩:=eN0 (w.alloc (.cells #[.slice none 0 0,.int .i64 0,.int .i64 0] 68))
 have hR:=h.lt
 have hbW:=bN0 hW
 have hWs:=sN0 hW
 have hQ:=hN0 hW
 have hS0:SrcAt W.drew R v s:=(h.below hbW).below (Below.refl _ _).drew
 have hC0:Chg (·=R) W W.drew:=(Chg.refl _ _).drew
 have hvW:∀V,Chg (·=R) W V→RdB V (·<R) v l:=fun V hV=>Rd.keep hv (fun b (hb:b<R)=>(hV.block b (by omega) (by omega)).trans (hbW.block b (by omega)))
 have K1:∀V,SrcAt V R v s→Chg (·=R) W V→Calls prog 191 #[.pointer (some ⟨R,0,none⟩)] V fun x w'=>∃u,x=.returned u∧RdV w' (fun b=>V.heap.size≤b∧b<w'.heap.size) u xs1∧SrcAt w' R v s1∧Chg (·=R) V w':=fun V hs hV=>by
  have k:=srcRow_any R v l s V hs (hvW V hV)
  rw [h1] at k
  exact k
 have K2:∀V,SrcAt V R v s1→Chg (·=R) W V→Calls prog 169 #[.pointer (some ⟨R,0,none⟩)] V fun x w'=>x=.returned (.agg #[.int .i64 f2,.int .i64 t2])∧SrcAt w' R v s2∧Chg (·=R) V w':=fun V hs hV=>by
  have k:=srcPeriod_any R v l s1 V hs (hvW V hV)
  rw [h2] at k
  exact k
 have HQ:=hI0 hQ
 have HbW:=hI0 hbW
 have HOK1:=hI0 hok1
 clear h hv hd hvW hQ hbW h1 h2 hok1
 go_in
 go_wp2_with fail
 rw [←hW]
 clear hW
 refine wp_region_noPanic ?_
 refine wp_region_held_drew (S:=(fun _:World=>True)) (by kernel_rfl) ?_ (fun zh=>?_)
 ·trivial
 refine hT 0 3 ?_
 refine hT 1 4 ?_
 refine hT 2 5 ?_
 refine hT 4 7 ?_
 refine hT 5 8 ?_
 refine hT 6 9 ?_
 refine hC 3 6 ?_
 (with_reducible refine (K1 _ hS0 hC0).mono ?_)
 rintro _ v1 ⟨u1,rfl,hU1,hS1,hD1⟩
 obtain ⟨A1,c1,rfl,_⟩:=Rd.open_ hU1
 have HU1:=hI0 hU1
 clear hU1
 have hC1:Chg (·=R) W v1:=hC0.trans hD1 (fun _ _ h=>h)
 refine ⟨_,rfl,keepAnd ?_ (fun hNew=>?_)⟩
 ·trivial
 clear zh
 have zh:=hNew
 clear hNew
 simp only [aP]
 refine hC 7 10 ?_
 (with_reducible refine (K2 _ hS1 hC1).mono ?_)
 rintro _ v2 ⟨rfl,hS2,hD2⟩
 have hC2:Chg (·=R) W v2:=hC1.trans hD2 (fun _ _ h=>h)
 refine ⟨_,rfl,keepAnd ?_ (fun hNew=>?_)⟩
 ·trivial
 clear zh
 have zh:=hNew
 clear hNew
 simp only [aP]
 refine hT 8 11 ?_
 have hNew:(fun _:World=>True) ((((v2.setCell ⟨w.heap.size,0,none⟩ (.slice A1 xs1.length c1)).setCell ⟨w.heap.size,1,none⟩ (.int .i64 f2)).setCell ⟨w.heap.size,2,none⟩ (.int .i64 t2))):=by trivial
 refine heldSkipRun 9 none (w':=(((v2.setCell ⟨w.heap.size,0,none⟩ (.slice A1 xs1.length c1)).setCell ⟨w.heap.size,1,none⟩ (.int .i64 f2)).setCell ⟨w.heap.size,2,none⟩ (.int .i64 t2))) rfl rfl (by kernel_rfl) (by rfl) ?_ hNew ?_
 ·have hQn:v2.heap[w.heap.size]? =some (.cells #[.slice none 0 0,.int .i64 0,.int .i64 0] 68 (0,0)):=(hC2.block w.heap.size (by omega) (by omega)).trans HQ.out;have p0:v2.cell? ⟨w.heap.size,0,none⟩=some (.slice none 0 0):=cW0 v2 _ 0 _ _ _ hQn;have p1:v2.cell? ⟨w.heap.size,1,none⟩=some (.int .i64 0):=cW0 v2 _ 1 _ _ _ hQn;have p2:v2.cell? ⟨w.heap.size,2,none⟩=some (.int .i64 0):=cW0 v2 _ 2 _ _ _ hQn;have g0:v2.frozen? ⟨w.heap.size,0,none⟩=false:=fW0 v2 _ 0 _ _ hQn;have g1:v2.frozen? ⟨w.heap.size,1,none⟩=false:=fW0 v2 _ 1 _ _ hQn;have g2:v2.frozen? ⟨w.heap.size,2,none⟩=false:=fW0 v2 _ 2 _ _ hQn;go_simp<;>with_reducible rfl
 clear zh
 have zh:=hNew
 clear hNew
 simp only [Act.put]
 refine rD0 ?_
 clear zh
 have hQn:v2.heap[w.heap.size]? =some (.cells #[.slice none 0 0,.int .i64 0,.int .i64 0] 68 (0,0)):=(hC2.block w.heap.size (by omega) (by omega)).trans HQ.out
 have hY9:=set3_at hQn (.slice A1 xs1.length c1) (.int .i64 f2) (.int .i64 t2)
 have hYc:=set3_chg v2 w.heap.size (.slice A1 xs1.length c1) (.int .i64 f2) (.int .i64 t2)
 generalize (((v2.setCell ⟨w.heap.size,0,none⟩ (.slice A1 xs1.length c1)).setCell ⟨w.heap.size,1,none⟩ (.int .i64 f2)).setCell ⟨w.heap.size,2,none⟩ (.int .i64 t2))=Y at *
 obtain ⟨p0,p1,p2⟩:=cX3 hY9
 have hzY:=hYc.size
 have hz1:=hD1.size
 have hz2:=hD2.size
 have hzc0:=hC0.size
 have hk1:=fr_keep (v:=W.drew) ((Chg.refl (·=R) v1).trans hD2 (fun _ _ h=>h)) hYc (by have:=hC0.size;omega) (by have:=hC0.size;omega)
 have hw1:=fr_wide (w:=w) (v:=W.drew) (v':=v1) (Y:=Y) (by have:=hC0.size;omega) (by omega)
 have hRw1:RdV Y (fun b=>w.heap.size≤b∧b<Y.heap.size) (.slice A1 xs1.length c1) xs1:=(Rd.keep HU1.out hk1).wide hw1
 have hSY:SrcAt Y R v s2:=(hYc.block R zi36 zi12).trans hS2
 have hCY:Chg (·=R) w Y:=((Chg.of_below HbW.out _).trans hC2 (fun _ _ h=>h)).trans hYc (fun i hi (h:i=w.heap.size)=>by omega)
 have HSY:=hI0 hSY
 have HCY:=hI0 hCY
 have HRw1:=hI0 hRw1
 clear hSY hCY hQn hY9 hYc hS0 hC0 hS1 hC1 hD1 hz1 hS2 hC2 hD2 hz2 hk1 hw1 hRw1
 go_wp2_with fail
 exact bodyPost_ret (v:=.agg #[.slice A1 xs1.length c1,.int .i64 f2,.int .i64 t2]) (by simp [results,results168,go_sem,p0,p1,p2]) rfl ⟨⟨A1,xs1.length,c1,xs1,f2,t2⟩,rfl,⟨HRw1.out,HOK1.out⟩,by first|rfl|(simp [RF.er];done),HSY.out,HCY.out⟩
theorem rdrNum_any (R:Nat) (v:Value) (l:List UInt8) (s:Int×Int) (w:World) (h:SrcAt w R v s) (hv:RdB w (·<R) v l):
  Calls prog 166 #[.pointer (some ⟨R,0,none⟩)] w (OneE (fun x:Int=>.int .i64 x) isT id R v (rdI l s) w):=by
 have K:=srcInt_any R v l s w h hv
 clear h hv
 go_in
 go_wp2_with fail
 (with_reducible refine K.mono ?_)
 rintro _ w1 ⟨rfl,hs,hc⟩
 go_wp2_with fail
 go_ret
 exact ⟨_,rfl,trivial,rfl,hs,hc⟩
theorem rdrNam_any (R:Nat) (v:Value) (l:List UInt8) (s:Int×Int) (w:World) (h:SrcAt w R v s) (hv:RdB w (·<R) v l):
  Calls prog 68 #[.pointer (some ⟨R,0,none⟩)] w (OneE (fun x:ByteArray=>.string x) isT id R v (rdT l s) w):=by
 have K:=srcText_any R v l s w h hv
 clear h hv
 go_in
 go_wp2_with fail
 (with_reducible refine K.mono ?_)
 rintro _ w1 ⟨rfl,hs,hc⟩
 go_wp2_with fail
 go_ret
 exact ⟨_,rfl,trivial,rfl,hs,hc⟩
theorem rdrFor_any (R:Nat) (v:Value) (l:List UInt8) (s:Int×Int) (w:World) (h:SrcAt w R v s) (hv:RdB w (·<R) v l) (hl:l.length≤10000000000):
  Calls prog 216 #[.pointer (some ⟨R,0,none⟩)] w (OneE (fun x:RFor=>.agg x.enc.toArray) RFor.is RFor.er R v (rdFor l s) w):=by
 rcases h1:rdL l (rdI l) s with ⟨xs1,s1⟩
 rcases h2:rdT l s1 with ⟨n2,s2⟩
 have hd:rdFor l s=((⟨none,0,xs1,n2⟩:RFor),s2):=by unfold rdFor;simp only [h1,h2]
 rw [hd]
 obtain ⟨W,hW⟩:=eN0 (w.alloc (.cells #[.slice none 0 0,.string ⟨#[]⟩] 278))
 have hR:=h.lt
 have hbW:=bN0 hW
 have hWs:=sN0 hW
 have hQ:=hN0 hW
 have hS0:SrcAt W.drew R v s:=(h.below hbW).below (Below.refl _ _).drew
 have hC0:Chg (·=R) W W.drew:=(Chg.refl _ _).drew
 have hvW:∀V,Chg (·=R) W V→RdB V (·<R) v l:=fun V hV=>Rd.keep hv (fun b (hb:b<R)=>(hV.block b (by omega) (by omega)).trans (hbW.block b (by omega)))
 have K1:∀V,SrcAt V R v s→Chg (·=R) W V→Calls prog 165 #[.pointer (some ⟨R,0,none⟩),.func (.func 166) #[] #[]] V (GetE 1 intE isT id R v (xs1,s1) V):=fun V hs hV=>by
  have k:=getInt_any R v l (rdI l) 166 (entF func166) s V hs (hvW V hV) hl mon_I (fun s U hsU hU=>rdrNum_any R v l s U hsU (hvW U (hV.trans hU (fun _ _ h=>h))))
  rw [h1] at k
  exact k
 have K2:∀V,SrcAt V R v s1→Chg (·=R) W V→Calls prog 122 #[.pointer (some ⟨R,0,none⟩)] V fun x w'=>x=.returned (.string n2)∧SrcAt w' R v s2∧Chg (·=R) V w':=fun V hs hV=>by
  have k:=srcText_any R v l s1 V hs (hvW V hV)
  rw [h2] at k
  exact k
 have HQ:=hI0 hQ
 have HbW:=hI0 hbW
 clear h hv hd hvW hQ hbW h1 h2
 go_in
 go_wp2_with fail
 rw [←hW]
 clear hW
 refine wp_region_noPanic ?_
 refine wp_region_held_drew (S:=(fun _:World=>True)) (by kernel_rfl) ?_ (fun zh=>?_)
 ·trivial
 refine hT 0 3 ?_
 refine hT 2 5 ?_
 refine hT 3 6 ?_
 refine hT 4 7 ?_
 refine hC 1 4 ?_
 (with_reducible refine (K1 _ hS0 hC0).mono ?_)
 rintro _ v1 ⟨u1,Q1,rfl,hU1,hI1,hE1,hS1,hD1⟩
 rw [List.map_id] at hE1
 obtain ⟨A1,c1,rfl⟩:=rdE_slice hU1
 have HU1:=hI0 hU1
 have HI1:=hI0 hI1
 have HE1:=hI0 hE1
 clear hU1 hI1 hE1
 have hC1:Chg (·=R) W v1:=hC0.trans hD1 (fun _ _ h=>h)
 refine ⟨_,rfl,keepAnd ?_ (fun hNew=>?_)⟩
 ·trivial
 clear zh
 have zh:=hNew
 clear hNew
 simp only [aP]
 refine hC 5 8 ?_
 (with_reducible refine (K2 _ hS1 hC1).mono ?_)
 rintro _ v2 ⟨rfl,hS2,hD2⟩
 have hC2:Chg (·=R) W v2:=hC1.trans hD2 (fun _ _ h=>h)
 refine ⟨_,rfl,keepAnd ?_ (fun hNew=>?_)⟩
 ·trivial
 clear zh
 have zh:=hNew
 clear hNew
 simp only [aP]
 refine hT 6 9 ?_
 have hNew:(fun _:World=>True) (((v2.setCell ⟨w.heap.size,0,none⟩ (.slice A1 Q1.length c1)).setCell ⟨w.heap.size,1,none⟩ (.string n2))):=by trivial
 refine heldSkipRun 7 none (w':=((v2.setCell ⟨w.heap.size,0,none⟩ (.slice A1 Q1.length c1)).setCell ⟨w.heap.size,1,none⟩ (.string n2))) rfl rfl (by kernel_rfl) (by rfl) ?_ hNew ?_
 ·have hQn:v2.heap[w.heap.size]? =some (.cells #[.slice none 0 0,.string ⟨#[]⟩] 278 (0,0)):=(hC2.block w.heap.size (by omega) (by omega)).trans HQ.out;have p0:v2.cell? ⟨w.heap.size,0,none⟩=some (.slice none 0 0):=cW0 v2 _ 0 _ _ _ hQn;have p1:v2.cell? ⟨w.heap.size,1,none⟩=some (.string ⟨#[]⟩):=cW0 v2 _ 1 _ _ _ hQn;have g0:v2.frozen? ⟨w.heap.size,0,none⟩=false:=fW0 v2 _ 0 _ _ hQn;have g1:v2.frozen? ⟨w.heap.size,1,none⟩=false:=fW0 v2 _ 1 _ _ hQn;go_simp<;>with_reducible rfl
 clear zh
 have zh:=hNew
 clear hNew
 simp only [Act.put]
 refine rD0 ?_
 clear zh
 have hQn:v2.heap[w.heap.size]? =some (.cells #[.slice none 0 0,.string ⟨#[]⟩] 278 (0,0)):=(hC2.block w.heap.size (by omega) (by omega)).trans HQ.out
 have hY9:=set2_at hQn (.slice A1 Q1.length c1) (.string n2)
 have hYc:=set2_chg v2 w.heap.size (.slice A1 Q1.length c1) (.string n2)
 generalize ((v2.setCell ⟨w.heap.size,0,none⟩ (.slice A1 Q1.length c1)).setCell ⟨w.heap.size,1,none⟩ (.string n2))=Y at *
 obtain ⟨p0,p1⟩:=cX2 hY9
 have hzY:=hYc.size
 have hz1:=hD1.size
 have hz2:=hD2.size
 have hzc0:=hC0.size
 have hk1:=fr_keep (v:=W.drew) ((Chg.refl (·=R) v1).trans hD2 (fun _ _ h=>h)) hYc (by have:=hC0.size;omega) (by have:=hC0.size;omega)
 have hw1:=fr_wide (w:=w) (v:=W.drew) (v':=v1) (Y:=Y) (by have:=hC0.size;omega) (by omega)
 have hRw1:RdE 1 intE Y (fun b=>w.heap.size≤b∧b<Y.heap.size) (.slice A1 Q1.length c1) Q1:=Rd.wide (Rd.keep HU1.out hk1) hw1
 have hRi1:∀p∈Q1,isT Y (fun b=>w.heap.size≤b∧b<Y.heap.size) p:=fun p hp=>isK_T.wide (isK_T.keep (HI1.out p hp) hk1) hw1
 have hSY:SrcAt Y R v s2:=(hYc.block R zi36 zi12).trans hS2
 have hCY:Chg (·=R) w Y:=((Chg.of_below HbW.out _).trans hC2 (fun _ _ h=>h)).trans hYc (fun i hi (h:i=w.heap.size)=>by omega)
 have HSY:=hI0 hSY
 have HCY:=hI0 hCY
 have HRw1:=hI0 hRw1
 have HRi1:=hI0 hRi1
 clear hSY hCY hQn hY9 hYc hS0 hC0 hS1 hC1 hD1 hz1 hS2 hC2 hD2 hz2 hk1 hw1 hRw1 hRi1
 go_wp2_with fail
 exact bodyPost_ret (v:=.agg #[.slice A1 Q1.length c1,.string n2]) (by simp [results,results216,go_sem,p0,p1]) rfl ⟨⟨A1,c1,Q1,n2⟩,rfl,HRw1.out,by first|rfl|(simp [RFor.er,HE1.out];done),HSY.out,HCY.out⟩
theorem rdrDel_any (R:Nat) (v:Value) (l:List UInt8) (s:Int×Int) (w:World) (h:SrcAt w R v s) (hv:RdB w (·<R) v l) (hl:l.length≤10000000000):
  Calls prog 64 #[.pointer (some ⟨R,0,none⟩)] w (OneE (fun x:RDl=>.agg x.enc.toArray) delIs RDl.er R v (rdDel l s) w):=by
 exact zq17 0
end
section
open Go.RowKit Go.Lib Go.IntWalk Go.Sort Go.Shelf
theorem decV_err {l:List UInt8} {k:Int} (h:(decV l k).2.2≠0):(decV l k).1=zeroV:=by
 revert h
 unfold decV
 split
 ·intro _;rfl
 ·cases l[k.toNat]? with
  |none=>intro _;rfl
  |some c=>
   simp only
   unfold decV1
   (repeat' split)<;>simp
theorem rdV_goV (l:List UInt8) (s:Int×Int):goV (rdV l s).1:=by
 unfold rdV rdS
 split
 ·simp [goV,zeroV,maxLen,ByteArray.size]
 ·have:goV (decV l s.1).1:=by
   by_cases h:(decV l s.1).2.2=0
   ·rcases hd:decV l s.1 with ⟨x,m,e⟩
    rw [hd] at h
    simp only at h
    subst h
    obtain ⟨_,_,_,_,_,hv⟩:=decV_got hd
    exact validV_goV hv
   ·rw [decV_err h];simp [goV,zeroV,maxLen,ByteArray.size]
  split<;>exact this
theorem rdT_size (l:List UInt8) (s:Int×Int):(rdT l s).1.size≤maxLen:=by
 unfold rdT rdS
 split
 ·simp [maxLen,ByteArray.size]
 ·have:(strB (decT l s.1 200).1).size≤maxLen:=by
   rw [strB_size]
   have:=decT_bd l s.1 200
   unfold maxLen
   rcases this with h|h
   ·have:=h.2.2.2.2;omega
   ·rw [h.2.1];simp
  split<;>exact this
theorem rdrExp0 (R:Nat) (v:Value) (l:List UInt8) (s:Int×Int) (lv:Int) (w:World) (h:SrcAt w R v s) (hlv:24<lv):
  Calls prog 219 #[.pointer (some ⟨R,0,none⟩),.int .i64 lv] w (OneE (fun x:RE=>.agg x.enc.toArray) exAll RE.er R v (rdX l 0 s) w):=by
 obtain ⟨W,hW⟩:=eN0 ((w.alloc (.cells #[.int .i64 lv] 3)).alloc (.cells #[.int .i64 0,.int .i64 0,.int .i64 0,.int .i64 0,.string ⟨#[]⟩,.string ⟨#[]⟩,.slice none 0 0] 212))
 have hR:=h.lt
 have hbW:Bl w W:=by rw [hW];exact (Below.of_alloc _).alloc (by simp) _
 have hWs:W.heap.size=w.heap.size+2:=by rw [hW];simp
 have hL:W.heap[w.heap.size]? =some (.cells #[.int .i64 lv] 3 (0,0)):=by
  exact zq79
 have hQ:W.heap[w.heap.size+1]? =some (.cells #[.int .i64 0,.int .i64 0,.int .i64 0,.int .i64 0,.string ⟨#[]⟩,.string ⟨#[]⟩,.slice none 0 0] 212 (0,0)):=by
  exact zq83
 have hS:SrcAt W R v s:=h.below hbW
 have f2:=fW0 W R 2 _ _ hS
 have c2:=cW1 2 hS rfl
 have lc:=cW1 0 hL rfl
 have hS2:SrcAt (W.setCell ⟨R,2,none⟩ (.int .i64 26)) R v (s.1,26):=hS.set2 26
 have hC2:Chg (·=R) W (W.setCell ⟨R,2,none⟩ (.int .i64 26)):=Chg.setCell (S:=(·=R)) (p:=⟨R,2,none⟩) (Chg.refl _ _) (.inl rfl) _
 have hQ2:(W.setCell ⟨R,2,none⟩ (.int .i64 26)).heap[w.heap.size+1]? =some (.cells #[.int .i64 0,.int .i64 0,.int .i64 0,.int .i64 0,.string ⟨#[]⟩,.string ⟨#[]⟩,.slice none 0 0] 212 (0,0)):=(hC2.block _ (by omega) (by show w.heap.size+1≠R;omega)).trans hQ
 have HS2:=hI0 hS2
 have HC2:=hI0 hC2
 have HQ2:=hI0 hQ2
 have HbW:=hI0 hbW
 go_in
 go_upto_region 1 with (fail)
 rw [←hW]
 clear hW hS hS2 hC2 hQ2 hQ hL hbW h
 go_upto_region 3 with (fail)
 generalize W.setCell ⟨R,2,none⟩ (.int .i64 26)=V at *
 obtain ⟨p0,p1,p2,p3,p4,p5,p6⟩:=cX7 HQ2.out
 have g0:V.frozen? ⟨w.heap.size+1,0,none⟩=false:=fW0 V _ 0 _ _ HQ2.out
 have g1:V.frozen? ⟨w.heap.size+1,1,none⟩=false:=fW0 V _ 1 _ _ HQ2.out
 have g2:V.frozen? ⟨w.heap.size+1,2,none⟩=false:=fW0 V _ 2 _ _ HQ2.out
 have g3:V.frozen? ⟨w.heap.size+1,3,none⟩=false:=fW0 V _ 3 _ _ HQ2.out
 have g4:V.frozen? ⟨w.heap.size+1,4,none⟩=false:=fW0 V _ 4 _ _ HQ2.out
 have g5:V.frozen? ⟨w.heap.size+1,5,none⟩=false:=fW0 V _ 5 _ _ HQ2.out
 have g6:V.frozen? ⟨w.heap.size+1,6,none⟩=false:=fW0 V _ 6 _ _ HQ2.out
 have hY:=set7_at HQ2.out (.int .i64 0) (.int .i64 0) (.int .i64 0) (.int .i64 0) (.string ⟨#[]⟩) (.string ⟨#[]⟩) (.slice none 0 0)
 have hYc:=set7_chg V (w.heap.size+1) (.int .i64 0) (.int .i64 0) (.int .i64 0) (.int .i64 0) (.string ⟨#[]⟩) (.string ⟨#[]⟩) (.slice none 0 0)
 have HY:=hI0 hY
 have HYC:=hI0 hYc
 clear hY hYc
 go_wp2_with fail
 generalize (((((((V.setCell ⟨w.heap.size+1,0,none⟩ (.int .i64 0)).setCell ⟨w.heap.size+1,1,none⟩ (.int .i64 0)).setCell ⟨w.heap.size+1,2,none⟩ (.int .i64 0)).setCell ⟨w.heap.size+1,3,none⟩ (.int .i64 0)).setCell ⟨w.heap.size+1,4,none⟩ (.string ⟨#[]⟩)).setCell ⟨w.heap.size+1,5,none⟩ (.string ⟨#[]⟩)).setCell ⟨w.heap.size+1,6,none⟩ (.slice none 0 0))=Y at *
 clear p0 g0 p1 g1 p2 g2 p3 g3 p4 g4 p5 g5 p6 g6
 obtain ⟨p0,p1,p2,p3,p4,p5,p6⟩:=cX7 HY.out
 have hSY:SrcAt Y R v (s.1,26):=(HYC.out.block R HS2.out.lt (by show R≠w.heap.size+1;omega)).trans HS2.out
 have hCY:Chg (·=R) w Y:=((Chg.of_below HbW.out _).trans HC2.out (fun _ _ h=>h)).trans HYC.out (fun i hi (h:i=w.heap.size+1)=>by omega)
 exact bodyPost_ret (v:=.agg #[.int .i64 0,.int .i64 0,.int .i64 0,.int .i64 0,.string ⟨#[]⟩,.string ⟨#[]⟩,.slice none 0 0]) zi33 rfl ⟨.mk 0 0 zeroV ⟨#[]⟩ none 0 [],rfl,(fun d=>by cases d with|zero=>trivial|succ d=>exact ⟨Rd.nil _ _ _,by simp [goV,zeroV,maxLen,ByteArray.size],by simp [maxLen,ByteArray.size],fun a ha=>by cases ha⟩),by simp [RE.er_mk,rdX],hSY,hCY⟩
theorem rdrClo (R:Nat) (LB:Nat) (lv:Int) (d:Nat) (v:Value) (l:List UInt8) (s:Int×Int) (w:World) (h:SrcAt w R v s) (hv:RdB w (·<R) v l) (hL:w.cell? ⟨LB,0,none⟩=some (.int .i64 lv)) (hLB:LB<w.heap.size) (hlv:lv≤24) (hlv0:0≤lv)
  (KR:∀V,SrcAt V R v s→RdB V (·<R) v l→Calls prog 219 #[.pointer (some ⟨R,0,none⟩),.int .i64 (lv+1)] V (OneE (fun x:RE=>.agg x.enc.toArray) exAll RE.er R v (rdX l d s) V)):
  Calls prog 244 #[.pointer (some ⟨R,0,none⟩),.pointer (some ⟨LB,0,none⟩)] w (OneE (fun x:RE=>.agg x.enc.toArray) exAll RE.er R v (rdX l d s) w):=by
 exact zq23 0
theorem rdrTop (R:Nat) (v:Value) (l:List UInt8) (s:Int×Int) (w:World) (h:SrcAt w R v s) (hv:RdB w (·<R) v l)
  (KR:∀V,SrcAt V R v s→RdB V (·<R) v l→Calls prog 219 #[.pointer (some ⟨R,0,none⟩),.int .i64 (1)] V (OneE (fun x:RE=>.agg x.enc.toArray) exAll RE.er R v (rdX l 24 s) V)):
  Calls prog 218 #[.pointer (some ⟨R,0,none⟩)] w (OneE (fun x:RE=>.agg x.enc.toArray) exAll RE.er R v (rdX l 24 s) w):=by
 exact zq23 1
theorem rdrExp1 (R:Nat) (v:Value) (l:List UInt8) (s:Int×Int) (lv:Int) (d:Nat) (w:World) (h:SrcAt w R v s) (hv:RdB w (·<R) v l) (hl:l.length≤10000000000) (hlv:lv≤24) (hlv0:0≤lv)
  (KR:∀s V,SrcAt V R v s→RdB V (·<R) v l→Calls prog 219 #[.pointer (some ⟨R,0,none⟩),.int .i64 (lv+1)] V (OneE (fun x:RE=>.agg x.enc.toArray) exAll RE.er R v (rdX l d s) V)):
  Calls prog 219 #[.pointer (some ⟨R,0,none⟩),.int .i64 lv] w (OneE (fun x:RE=>.agg x.enc.toArray) exAll RE.er R v (rdX l (d+1) s) w):=by
 rcases h1:rdI l s with ⟨n1,s1⟩
 rcases h2:rdI l s1 with ⟨n2,s2⟩
 rcases h3:rdV l s2 with ⟨⟨k3,i3,t3⟩,s3⟩
 rcases h4:rdT l s3 with ⟨n4,s4⟩
 rcases h5:rdL l (rdX l d) s4 with ⟨xs5,s5⟩
 have hd:rdX l (d+1) s=(.mk n1 n2 ⟨k3,i3,t3⟩ n4 none 0 xs5,s5):=by simp only [rdX,h1,h2,h3,h4,h5]
 have hg3:goV ⟨k3,i3,t3⟩:=by
  have e:(⟨k3,i3,t3⟩:Val)=(rdV l s2).1:=by rw [h3]
  rw [e];exact rdV_goV l s2
 have hg4:n4.size≤maxLen:=by
  have e:n4=(rdT l s3).1:=by rw [h4]
  rw [e];exact rdT_size l s3
 rw [hd]
 obtain ⟨W,hW⟩:=eN0 ((w.alloc (.cells #[.int .i64 lv] 3)).alloc (.cells #[.int .i64 0,.int .i64 0,.int .i64 0,.int .i64 0,.string ⟨#[]⟩,.string ⟨#[]⟩,.slice none 0 0] 212))
 have hR:=h.lt
 have hbW:Bl w W:=by rw [hW];exact (Below.of_alloc _).alloc (by simp) _
 have hWs:W.heap.size=w.heap.size+2:=by rw [hW];simp
 have hL:W.heap[w.heap.size]? =some (.cells #[.int .i64 lv] 3 (0,0)):=by
  exact zq79
 have hQ:W.heap[w.heap.size+1]? =some (.cells #[.int .i64 0,.int .i64 0,.int .i64 0,.int .i64 0,.string ⟨#[]⟩,.string ⟨#[]⟩,.slice none 0 0] 212 (0,0)):=by
  exact zq83
 have lc:=cW1 0 hL rfl
 have hS0:SrcAt W.drew R v s:=(h.below hbW).below (Below.refl _ _).drew
 have hC0:Chg (·=R) W W.drew:=(Chg.refl _ _).drew
 have hvW:∀V,Chg (·=R) W V→RdB V (·<R) v l:=fun V hV=>Rd.keep hv (fun b (hb:b<R)=>(hV.block b (by omega) (by omega)).trans (hbW.block b (by omega)))
 have K1:∀V,SrcAt V R v s→Chg (·=R) W V→Calls prog 60 #[.pointer (some ⟨R,0,none⟩)] V fun x w'=>x=.returned (.int .i64 n1)∧SrcAt w' R v s1∧Chg (·=R) V w':=fun V hs hV=>by
  have k:=srcInt_any R v l s V hs (hvW V hV)
  rw [h1] at k
  exact k
 have K2:∀V,SrcAt V R v s1→Chg (·=R) W V→Calls prog 60 #[.pointer (some ⟨R,0,none⟩)] V fun x w'=>x=.returned (.int .i64 n2)∧SrcAt w' R v s2∧Chg (·=R) V w':=fun V hs hV=>by
  exact zq115
 have K3:∀V,SrcAt V R v s2→Chg (·=R) W V→Calls prog 164 #[.pointer (some ⟨R,0,none⟩)] V fun x w'=>x=.returned (.agg #[.int .i64 k3,.int .i64 i3,.string t3])∧SrcAt w' R v s3∧Chg (·=R) V w':=fun V hs hV=>by
  have k:=srcValue_any R v l s2 V hs (hvW V hV)
  rw [h3] at k
  exact k
 have K4:∀V,SrcAt V R v s3→Chg (·=R) W V→Calls prog 122 #[.pointer (some ⟨R,0,none⟩)] V fun x w'=>x=.returned (.string n4)∧SrcAt w' R v s4∧Chg (·=R) V w':=fun V hs hV=>by
  have k:=srcText_any R v l s3 V hs (hvW V hV)
  rw [h4] at k
  exact k
 have K5:∀V,SrcAt V R v s4→Chg (·=R) W V→Calls prog 217 #[.pointer (some ⟨R,0,none⟩),.func (.func 244) #[] #[.pointer (some ⟨w.heap.size,0,none⟩)]] V (GetE 7 RE.enc exAll RE.er R v (xs5,s5) V):=fun V hs hV=>by
  have k:=getExpC_any R w.heap.size v l (rdX l d) 244 (entF func244) s4 V hs (hvW V hV) hl (mon_X d) (fun s U hsU hU=>rdrClo R w.heap.size lv d v l s U hsU (hvW U (hV.trans hU (fun _ _ h=>h))) ((World.cell?_of_block (((hV.trans hU (fun _ _ h=>h))).block w.heap.size (by omega) zi11)).trans lc) (by have:=hV.size;have:=hU.size;omega) hlv hlv0 (fun X hsX hvX=>KR s X hsX hvX))
  rw [h5] at k
  exact k
 have HQ:=hI0 hQ
 have HbW:=hI0 hbW
 have hmf:∀(fn:Fn) (first cap:Array Value) (w:World),(Instr.makeFunc fn first cap).run prog w=.ok (.func fn first cap) w:=fun _ _ _ _=>rfl
 clear h hv hd hvW hQ hbW h1 h2 h3 h4 h5 KR
 go_in
 go_upto_region 1 with (fail)
 rw [←hW]
 clear hW
 have hlv2:¬ 24<lv:=by omega
 go_upto_region 4 with (fail)
 refine (fun (tl:∀(T:Nat) (V:World),W.heap.size≤T→T<V.heap.size→V.heap[T]? =some (.cells #[.int .i64 0,.int .i64 0,.int .i64 0,.int .i64 0,.string ⟨#[]⟩,.string ⟨#[]⟩,.slice none 0 0] 212 (0,0))→SrcAt V R v s4→Chg (·=R) W V→(?Rest:Nat→World→Prop) T V)=>?leaves) ?tail
 case leaves=>
  exact zq47 0
 case tail=>
  intro T V hTW hTlV hTV hSV hCV
  refine fork1 18 (by kernel_rfl) ?_
  refine skipRunF 18 none (w':=(((((((V.setCell ⟨T,0,none⟩ (.int .i64 n1)).setCell ⟨T,1,none⟩ (.int .i64 n2)).setCell ⟨T,2,none⟩ (.int .i64 k3)).setCell ⟨T,3,none⟩ (.int .i64 i3)).setCell ⟨T,4,none⟩ (.string t3)).setCell ⟨T,5,none⟩ (.string n4)).setCell ⟨T,6,none⟩ (.slice none 0 0))) rfl rfl (by rfl) ?_ ?_
  ·have p0:V.cell? ⟨T,0,none⟩=some (.int .i64 0):=cW0 V _ 0 _ _ _ hTV;have p1:V.cell? ⟨T,1,none⟩=some (.int .i64 0):=cW0 V _ 1 _ _ _ hTV;have p2:V.cell? ⟨T,2,none⟩=some (.int .i64 0):=cW0 V _ 2 _ _ _ hTV;have p3:V.cell? ⟨T,3,none⟩=some (.int .i64 0):=cW0 V _ 3 _ _ _ hTV;have p4:V.cell? ⟨T,4,none⟩=some (.string ⟨#[]⟩):=cW0 V _ 4 _ _ _ hTV;have p5:V.cell? ⟨T,5,none⟩=some (.string ⟨#[]⟩):=cW0 V _ 5 _ _ _ hTV;have p6:V.cell? ⟨T,6,none⟩=some (.slice none 0 0):=cW0 V _ 6 _ _ _ hTV;have g0:V.frozen? ⟨T,0,none⟩=false:=fW0 V _ 0 _ _ hTV;have g1:V.frozen? ⟨T,1,none⟩=false:=fW0 V _ 1 _ _ hTV;have g2:V.frozen? ⟨T,2,none⟩=false:=fW0 V _ 2 _ _ hTV;have g3:V.frozen? ⟨T,3,none⟩=false:=fW0 V _ 3 _ _ hTV;have g4:V.frozen? ⟨T,4,none⟩=false:=fW0 V _ 4 _ _ hTV;have g5:V.frozen? ⟨T,5,none⟩=false:=fW0 V _ 5 _ _ hTV;have g6:V.frozen? ⟨T,6,none⟩=false:=fW0 V _ 6 _ _ hTV;go_simp<;>with_reducible rfl
  have hTY:=set7_at hTV (.int .i64 n1) (.int .i64 n2) (.int .i64 k3) (.int .i64 i3) (.string t3) (.string n4) (.slice none 0 0)
  have hYc:=set7_chg V T (.int .i64 n1) (.int .i64 n2) (.int .i64 k3) (.int .i64 i3) (.string t3) (.string n4) (.slice none 0 0)
  generalize (((((((V.setCell ⟨T,0,none⟩ (.int .i64 n1)).setCell ⟨T,1,none⟩ (.int .i64 n2)).setCell ⟨T,2,none⟩ (.int .i64 k3)).setCell ⟨T,3,none⟩ (.int .i64 i3)).setCell ⟨T,4,none⟩ (.string t3)).setCell ⟨T,5,none⟩ (.string n4)).setCell ⟨T,6,none⟩ (.slice none 0 0))=Y at *
  have hzY:=hYc.size
  have hCY:Chg (·=R) W Y:=hCV.trans hYc (fun i hi (h:i=T)=>by omega)
  have hSY:SrcAt Y R v s4:=(hYc.block R hSV.lt (by show R≠T;omega)).trans hSV
  have hTl:T<Y.heap.size:=by omega
  clear hYc hTV hSV hCV hTlV
  refine ⟨fun h=>absurd rfl h,?_⟩
  simp only [Act.put]
  refine doneT (by kernel_rfl) ?_ _
  refine NoPanic.normal ?_
  clear K1 K2 K3 K4
  have K5Y:=K5 Y hSY hCY
  have hQY:Y.heap[w.heap.size+1]? =some (.cells #[.int .i64 0,.int .i64 0,.int .i64 0,.int .i64 0,.string ⟨#[]⟩,.string ⟨#[]⟩,.slice none 0 0] 212 (0,0)):=(hCY.block _ (by omega) (by show w.heap.size+1≠R;omega)).trans HQ.out
  have HTY:=hI0 hTY
  have HSY:=hI0 hSY
  have HCY:=hI0 hCY
  have HQY:=hI0 hQY
  clear hTY hSY hCY hQY K5
  go_wp2_with fail
  (with_reducible refine K5Y.mono ?_)
  rintro _ v5 ⟨u5,Q5,rfl,hU5,hI5,hE5,hS5,hD5⟩
  obtain ⟨A5,c5,rfl⟩:=rdE_slice hU5
  have hz5:=hD5.size
  have hT5:v5.heap[T]? =some (.cells #[.int .i64 n1,.int .i64 n2,.int .i64 k3,.int .i64 i3,.string t3,.string n4,.slice none 0 0] 212 (0,0)):=(hD5.block T hTl (by show T≠R;omega)).trans HTY.out
  have hzY:=HCY.out.size
  have hQ5:v5.heap[w.heap.size+1]? =some (.cells #[.int .i64 0,.int .i64 0,.int .i64 0,.int .i64 0,.string ⟨#[]⟩,.string ⟨#[]⟩,.slice none 0 0] 212 (0,0)):=(hD5.block _ (by omega) (by show w.heap.size+1≠R;omega)).trans HQY.out
  obtain ⟨p0,p1,p2,p3,p4,p5,p6⟩:=cX7 hT5
  have g6:v5.frozen? ⟨T,6,none⟩=false:=fW0 v5 _ 6 _ _ hT5
  obtain ⟨q0,q1,q2,q3,q4,q5,q6⟩:=cX7 hQ5
  have z0:v5.frozen? ⟨w.heap.size+1,0,none⟩=false:=fW0 v5 _ 0 _ _ hQ5
  have z1:v5.frozen? ⟨w.heap.size+1,1,none⟩=false:=fW0 v5 _ 1 _ _ hQ5
  have z2:v5.frozen? ⟨w.heap.size+1,2,none⟩=false:=fW0 v5 _ 2 _ _ hQ5
  have z3:v5.frozen? ⟨w.heap.size+1,3,none⟩=false:=fW0 v5 _ 3 _ _ hQ5
  have z4:v5.frozen? ⟨w.heap.size+1,4,none⟩=false:=fW0 v5 _ 4 _ _ hQ5
  have z5:v5.frozen? ⟨w.heap.size+1,5,none⟩=false:=fW0 v5 _ 5 _ _ hQ5
  have z6:v5.frozen? ⟨w.heap.size+1,6,none⟩=false:=fW0 v5 _ 6 _ _ hQ5
  have HU5:=hI0 hU5
  have HI5:=hI0 hI5
  have HE5:=hI0 hE5
  have HS5:=hI0 hS5
  have HD5:=hI0 hD5
  have HQ5:=hI0 hQ5
  have HT5:=hI0 hT5
  clear hU5 hI5 hE5 hS5 hD5 hQ5 hT5 K5Y
  go_upto_region 6 with (fail)
  have hTZ:=heap_setCell_same v5 T 6 _ _ (.slice A5 Q5.length c5) HT5.out
  have hTZ:(v5.setCell ⟨T,6,none⟩ (.slice A5 Q5.length c5)).heap[T]? =some (.cells #[.int .i64 n1,.int .i64 n2,.int .i64 k3,.int .i64 i3,.string t3,.string n4,.slice A5 Q5.length c5] 212 (0,0)):=by simpa using hTZ
  have hZc:Chg (·=T) v5 (v5.setCell ⟨T,6,none⟩ (.slice A5 Q5.length c5)):=Chg.setCell (S:=(·=T)) (p:=⟨T,6,none⟩) (Chg.refl _ _) (.inl rfl) _
  have hQZ:=(hZc.block _ (gL0 HQ5.out) (by show w.heap.size+1≠T;omega)).trans HQ5.out
  have hSZ:SrcAt (v5.setCell ⟨T,6,none⟩ (.slice A5 Q5.length c5)) R v s5:=(hZc.block R HS5.out.lt (by show R≠T;omega)).trans HS5.out
  clear p0 q0 z0 p1 q1 z1 p2 q2 z2 p3 q3 z3 p4 q4 z4 p5 q5 z5 p6 q6 z6 g6
  generalize v5.setCell ⟨T,6,none⟩ (.slice A5 Q5.length c5)=Z at *
  have hzZ:=hZc.size
  obtain ⟨p0,p1,p2,p3,p4,p5,p6⟩:=cX7 hTZ
  obtain ⟨q0,q1,q2,q3,q4,q5,q6⟩:=cX7 hQZ
  have z0:Z.frozen? ⟨w.heap.size+1,0,none⟩=false:=fW0 Z _ 0 _ _ hQZ
  have z1:Z.frozen? ⟨w.heap.size+1,1,none⟩=false:=fW0 Z _ 1 _ _ hQZ
  have z2:Z.frozen? ⟨w.heap.size+1,2,none⟩=false:=fW0 Z _ 2 _ _ hQZ
  have z3:Z.frozen? ⟨w.heap.size+1,3,none⟩=false:=fW0 Z _ 3 _ _ hQZ
  have z4:Z.frozen? ⟨w.heap.size+1,4,none⟩=false:=fW0 Z _ 4 _ _ hQZ
  have z5:Z.frozen? ⟨w.heap.size+1,5,none⟩=false:=fW0 Z _ 5 _ _ hQZ
  have z6:Z.frozen? ⟨w.heap.size+1,6,none⟩=false:=fW0 Z _ 6 _ _ hQZ
  have hE:=set7_at hQZ (.int .i64 n1) (.int .i64 n2) (.int .i64 k3) (.int .i64 i3) (.string t3) (.string n4) (.slice A5 Q5.length c5)
  have hEc:=set7_chg Z (w.heap.size+1) (.int .i64 n1) (.int .i64 n2) (.int .i64 k3) (.int .i64 i3) (.string t3) (.string n4) (.slice A5 Q5.length c5)
  have HE:=hI0 hE
  have HEc:=hI0 hEc
  have HSZ:=hI0 hSZ
  have HZc:=hI0 hZc
  clear hTZ hQZ hE hEc hSZ hZc
  go_wp2_with fail
  clear p0 q0 z0 p1 q1 z1 p2 q2 z2 p3 q3 z3 p4 q4 z4 p5 q5 z5 p6 q6 z6
  generalize (((((((Z.setCell ⟨w.heap.size+1,0,none⟩ (.int .i64 n1)).setCell ⟨w.heap.size+1,1,none⟩ (.int .i64 n2)).setCell ⟨w.heap.size+1,2,none⟩ (.int .i64 k3)).setCell ⟨w.heap.size+1,3,none⟩ (.int .i64 i3)).setCell ⟨w.heap.size+1,4,none⟩ (.string t3)).setCell ⟨w.heap.size+1,5,none⟩ (.string n4)).setCell ⟨w.heap.size+1,6,none⟩ (.slice A5 Q5.length c5))=E at *
  obtain ⟨p0,p1,p2,p3,p4,p5,p6⟩:=cX7 HE.out
  have hzE:=HEc.out.size
  have hk:∀b,Y.heap.size≤b∧b<v5.heap.size→E.heap[b]? =v5.heap[b]? :=fun b hb=>(HEc.out.block b (by omega) (by show b≠w.heap.size+1;omega)).trans (HZc.out.block b hb.2 (by show b≠T;omega))
  have hw:∀b,Y.heap.size≤b∧b<v5.heap.size→w.heap.size≤b∧b<E.heap.size:=fun b hb=>⟨by omega,by omega⟩
  have hU:=Rd.wide (Rd.keep HU5.out hk) hw
  have hI:∀p∈Q5,exAll E (fun b=>w.heap.size≤b∧b<E.heap.size) p:=fun p hp=>isK_X.wide (isK_X.keep (HI5.out p hp) hk) hw
  have hSE:SrcAt E R v s5:=(HEc.out.block R HSZ.out.lt (by show R≠w.heap.size+1;omega)).trans HSZ.out
  have hCE:Chg (·=R) w E:=(((Chg.of_below HbW.out _).trans (HCY.out.trans HD5.out (fun _ _ h=>h)) (fun _ _ h=>h)).trans HZc.out (fun i hi (h:i=T)=>by omega)).trans HEc.out (fun i hi (h:i=w.heap.size+1)=>by omega)
  exact bodyPost_ret (v:=.agg #[.int .i64 n1,.int .i64 n2,.int .i64 k3,.int .i64 i3,.string t3,.string n4,.slice A5 Q5.length c5]) zi33 rfl ⟨.mk n1 n2 ⟨k3,i3,t3⟩ n4 A5 c5 Q5,rfl,(fun d=>by cases d with|zero=>trivial|succ d=>exact ⟨hU,hg3,hg4,fun a ha=>hI a ha d⟩),by rw [RE.er_mk,HE5.out],hSE,hCE⟩
theorem rdrExp_any:∀(d:Nat) (R:Nat) (v:Value) (l:List UInt8) (s:Int×Int) (lv:Int) (w:World),l.length≤10000000000→1≤lv→lv+d=25→SrcAt w R v s→RdB w (·<R) v l→
  Calls prog 219 #[.pointer (some ⟨R,0,none⟩),.int .i64 lv] w (OneE (fun x:RE=>.agg x.enc.toArray) exAll RE.er R v (rdX l d s) w):=by
 intro d
 induction d with
 |zero=>intro R v l s lv w _ _ hlv h _;exact rdrExp0 R v l s lv w h (by omega)
 |succ d ih=>intro R v l s lv w hl h0 hlv h hv;exact rdrExp1 R v l s lv d w h hv hl (by omega) (by omega) (fun s V hs hvV=>ih R v l s (lv+1) V hl (by omega) (by omega) hs hvV)
theorem rdrTop_any (R:Nat) (v:Value) (l:List UInt8) (s:Int×Int) (w:World) (h:SrcAt w R v s) (hv:RdB w (·<R) v l) (hl:l.length≤10000000000):
  Calls prog 218 #[.pointer (some ⟨R,0,none⟩)] w (OneE (fun x:RE=>.agg x.enc.toArray) exAll RE.er R v (rdX l 24 s) w):=
 rdrTop R v l s w h hv (fun V hs hvV=>rdrExp_any 24 R v l s 1 V hl (by omega) (by omega) hs hvV)
end
section
open Go.RowKit Go.Lib Go.IntWalk Go.Sort Go.Shelf
structure RdS (R T H:Nat) (v:Value) (s:Int×Int) (zs cs:Array Value) (t:TypeId) (V:World):Prop where
 src:SrcAt V R v s
 box:V.heap[T]? =some (.cells cs t (0,0))
 res:V.heap[H]? =some (.cells zs t (0,0))
 ne:T≠H∧T≠R∧H≠R
def St3 (R T H:Nat) (a b:World):Prop:=Chg (fun i=>i=R∨i=T∨i=H) a b
section
variable {R T H:Nat} {v:Value} {s s':Int×Int} {zs cs:Array Value} {t:TypeId} {V V' E:World}
theorem St3.trans {a b c:World} (h:St3 R T H a b) (k:St3 R T H b c):St3 R T H a c:=Chg.trans h k (fun _ _ h=>h)
theorem St3.of {a b:World} (h:Chg (·=R) a b):St3 R T H a b:=h.mono (fun _ h=>.inl h)
theorem St3.res {a b:World} (h:Chg (·=H) a b):St3 R T H a b:=h.mono (fun _ h=>.inr (.inr h))
theorem St3.put (V:World) (j:Nat) (u:Value):St3 R T H V (V.setCell ⟨T,j,none⟩ u):=(Chg.refl _ V).setCell (p:=⟨T,j,none⟩) (.inl (.inr (.inl rfl))) u
theorem RdS.lt (h:RdS R T H v s zs cs t V):T<V.heap.size∧H<V.heap.size:=⟨(Array.getElem?_eq_some_iff.1 h.box).1,(Array.getElem?_eq_some_iff.1 h.res).1⟩
theorem RdS.call (h:RdS R T H v s zs cs t V) (hs:SrcAt V' R v s') (hc:Chg (·=R) V V'):RdS R T H v s' zs cs t V':=
 ⟨hs,(hc.block T h.lt.1 h.ne.2.1).trans h.box,(hc.block H h.lt.2 h.ne.2.2).trans h.res,h.ne⟩
theorem RdS.put (h:RdS R T H v s zs cs t V) (j:Nat) (u:Value) {cs':Array Value} (hc:cs.setIfInBounds j u=cs':=by rfl):RdS R T H v s zs cs' t (V.setCell ⟨T,j,none⟩ u):=by
 subst hc
 exact ⟨(heap_setCell_other V ⟨T,j,none⟩ R u (fun e=>h.ne.2.1 e.symm)).trans h.src,heap_setCell_same V T j cs t u h.box,(heap_setCell_other V ⟨T,j,none⟩ H u (fun e=>h.ne.1 e.symm)).trans h.res,h.ne⟩
theorem keep3 {w':World} (hc:St3 R T H V' E) (h1:R<V.heap.size) (h2:H<V.heap.size) (h3:T<V.heap.size∨V'.heap.size≤T) (hw:w'.heap.size≤V.heap.size):
  (∀b,V.heap.size≤b∧b<V'.heap.size→E.heap[b]? =V'.heap[b]?)∧∀b,V.heap.size≤b∧b<V'.heap.size→w'.heap.size≤b∧b<E.heap.size:=
 ⟨fun b hb=>hc.block b hb.2 (by rintro (e|e|e)<;>omega),fun b hb=>⟨by omega,by have:=hc.size;omega⟩⟩
end
def tabIs (w:World) (F:Nat→Prop) (t:RTab):Prop:=RdE 3 RCol.enc w F (.slice t.colA t.cols.length t.colC) t.cols∧RdE 1 intE w F (.slice t.keyA t.key.length t.keyC) t.key∧RdE 2 RFor.enc w F (.slice t.forA t.fors.length t.forC) t.fors∧(∀x∈t.fors,x.is w F)∧RdE 7 RE.enc w F (.slice t.chkA t.chks.length t.chkC) t.chks∧∀x∈t.chks,exAll w F x
theorem isK_Tab:IsK tabIs:=
 ⟨fun h hk=>⟨Rd.keep h.1 hk,Rd.keep h.2.1 hk,Rd.keep h.2.2.1 hk,fun x hx=>isK_For.keep (h.2.2.2.1 x hx) hk,Rd.keep h.2.2.2.2.1 hk,fun x hx=>isK_X.keep (h.2.2.2.2.2 x hx) hk⟩,
  fun h hw=>⟨Rd.wide h.1 hw,Rd.wide h.2.1 hw,Rd.wide h.2.2.1 hw,fun x hx=>isK_For.wide (h.2.2.2.1 x hx) hw,Rd.wide h.2.2.2.2.1 hw,fun x hx=>isK_X.wide (h.2.2.2.2.2 x hx) hw⟩⟩
theorem rdrTab_any (R:Nat) (v:Value) (l:List UInt8) (s:Int×Int) (w:World) (h:SrcAt w R v s) (hv:RdB w (·<R) v l) (hl:l.length≤10000000000):
  Calls prog 162 #[.pointer (some ⟨R,0,none⟩)] w (OneE (fun t:RTab=>.agg t.enc.toArray) tabIs RTab.er R v (rdTab l s) w):=by
 rcases h1:rdT l s with ⟨n1,s1⟩
 rcases h2:rdL l (rdCol l) s1 with ⟨xs2,s2⟩
 rcases h3:rdL l (rdI l) s2 with ⟨xs3,s3⟩
 rcases h4:rdL l (rdFor l) s3 with ⟨xs4,s4⟩
 rcases h5:rdL l (rdX l 24) s4 with ⟨xs5,s5⟩
 have hd:rdTab l s=((⟨n1,none,0,xs2,none,0,xs3,none,0,xs4,none,0,xs5⟩:RTab),s5):=by unfold rdTab;simp only [h1,h2,h3,h4,h5]
 rw [hd]
 obtain ⟨W,hW⟩:=eN0 (w.alloc (.cells #[.string ⟨#[]⟩,.slice none 0 0,.slice none 0 0,.slice none 0 0,.slice none 0 0] 75))
 have hR:=h.lt
 have hbW:=bN0 hW
 have hWs:=sN0 hW
 have hQ:=hN0 hW
 have hS0:SrcAt W R v s:=h.below hbW
 have hC0:Chg (·=R) W W:=Chg.refl _ _
 have hvW:∀V,Chg (·=R) W V→RdB V (·<R) v l:=fun V hV=>Rd.keep hv (fun b (hb:b<R)=>(hV.block b (by omega) (by omega)).trans (hbW.block b (by omega)))
 have K1:∀V,SrcAt V R v s→Chg (·=R) W V→Calls prog 122 #[.pointer (some ⟨R,0,none⟩)] V fun x w'=>x=.returned (.string n1)∧SrcAt w' R v s1∧Chg (·=R) V w':=fun V hs hV=>by
  have k:=srcText_any R v l s V hs (hvW V hV)
  rw [h1] at k
  exact k
 have K2:∀V,SrcAt V R v s1→Chg (·=R) W V→Calls prog 214 #[.pointer (some ⟨R,0,none⟩),.func (.func 163) #[] #[]] V (GetE 3 RCol.enc isT id R v (xs2,s2) V):=fun V hs hV=>by
  have k:=getCol_any R v l (rdCol l) 163 (entF func163) s1 V hs (hvW V hV) hl mon_Col (fun s U hsU hU=>rdrCol_any R v l s U hsU (hvW U (hV.trans hU (fun _ _ h=>h))))
  rw [h2] at k
  exact k
 have K3:∀V,SrcAt V R v s2→Chg (·=R) W V→Calls prog 165 #[.pointer (some ⟨R,0,none⟩),.func (.func 166) #[] #[]] V (GetE 1 intE isT id R v (xs3,s3) V):=fun V hs hV=>by
  have k:=getInt_any R v l (rdI l) 166 (entF func166) s2 V hs (hvW V hV) hl mon_I (fun s U hsU hU=>rdrNum_any R v l s U hsU (hvW U (hV.trans hU (fun _ _ h=>h))))
  rw [h3] at k
  exact k
 have K4:∀V,SrcAt V R v s3→Chg (·=R) W V→Calls prog 215 #[.pointer (some ⟨R,0,none⟩),.func (.func 216) #[] #[]] V (GetE 2 RFor.enc RFor.is RFor.er R v (xs4,s4) V):=fun V hs hV=>by
  have k:=getFor_any R v l (rdFor l) 216 (entF func216) s3 V hs (hvW V hV) hl mon_For (fun s U hsU hU=>rdrFor_any R v l s U hsU (hvW U (hV.trans hU (fun _ _ h=>h))) hl)
  rw [h4] at k
  exact k
 have K5:∀V,SrcAt V R v s4→Chg (·=R) W V→Calls prog 217 #[.pointer (some ⟨R,0,none⟩),.func (.func 218) #[] #[]] V (GetE 7 RE.enc exAll RE.er R v (xs5,s5) V):=fun V hs hV=>by
  have k:=getExp_any R v l (rdX l 24) 218 (entF func218) s4 V hs (hvW V hV) hl (mon_X 24) (fun s U hsU hU=>rdrTop_any R v l s U hsU (hvW U (hV.trans hU (fun _ _ h=>h))) hl)
  rw [h5] at k
  exact k
 have HQ:=hI0 hQ
 have HbW:=hI0 hbW
 clear h hv hd hvW hQ hbW h1 h2 h3 h4 h5
 go_in
 go_wp2_with fail
 try rw [←hW]
 clear hW
 (with_reducible refine (K1 _ hS0 hC0).mono ?_)
 rintro _ v1 ⟨rfl,hS1,hD1⟩
 have hC1:Chg (·=R) W v1:=hC0.trans hD1 (fun _ _ h=>h)
 go_wp2_with fail
 (with_reducible refine (K2 _ hS1 hC1).mono ?_)
 rintro _ v2 ⟨u2,Q2,rfl,hU2,hI2,hE2,hS2,hD2⟩
 rw [List.map_id] at hE2
 obtain ⟨A2,c2,rfl⟩:=rdE_slice hU2
 have HU2:=hI0 hU2
 have HI2:=hI0 hI2
 have HE2:=hI0 hE2
 clear hU2 hI2 hE2
 have hC2:Chg (·=R) W v2:=hC1.trans hD2 (fun _ _ h=>h)
 go_wp2_with fail
 (with_reducible refine (K3 _ hS2 hC2).mono ?_)
 rintro _ v3 ⟨u3,Q3,rfl,hU3,hI3,hE3,hS3,hD3⟩
 rw [List.map_id] at hE3
 obtain ⟨A3,c3,rfl⟩:=rdE_slice hU3
 have HU3:=hI0 hU3
 have HI3:=hI0 hI3
 have HE3:=hI0 hE3
 clear hU3 hI3 hE3
 have hC3:Chg (·=R) W v3:=hC2.trans hD3 (fun _ _ h=>h)
 have hz1:=hC1.size
 have hz2:=hD2.size
 have hz3:=hD3.size
 obtain ⟨T,hTe⟩:=eN0 v3.heap.size
 obtain ⟨X,hX⟩:=eN0 (v3.alloc (.cells #[.string n1,.slice A2 Q2.length c2,.slice A3 Q3.length c3,.slice none 0 0,.slice none 0 0] 75))
 have hbX:=bN0 hX
 have hXs:X.heap.size=T+1:=by rw [hX,hTe];simp
 have hTX:X.heap[T]? =some (.cells #[.string n1,.slice A2 Q2.length c2,.slice A3 Q3.length c3,.slice none 0 0,.slice none 0 0] 75 (0,0)):=by rw [hX,hTe];exact heap_alloc_new _ _
 have hCX:Chg (·=R) W X:=hC3.trans (Chg.of_below hbX _) (fun _ _ h=>h)
 have hr3:RdS R T w.heap.size v s3 #[.string ⟨#[]⟩,.slice none 0 0,.slice none 0 0,.slice none 0 0,.slice none 0 0] #[.string n1,.slice A2 Q2.length c2,.slice A3 Q3.length c3,.slice none 0 0,.slice none 0 0] 75 X:=⟨hS3.below hbX,hTX,(hCX.block _ (by omega) zi11).trans HQ.out,by omega,by omega,by omega⟩
 have HX:=hI0 hX
 have HTE:=hI0 hTe
 clear hX hTe hTX
 go_wp2_with fail
 rw [←HX.out,←HTE.out]
 (with_reducible refine (K4 X hr3.src hCX).mono ?_)
 rintro _ v4 ⟨u4,Q4,rfl,hU4,hI4,hE4,hS4,hD4⟩
 obtain ⟨A4,c4,rfl⟩:=rdE_slice hU4
 have HU4:=hI0 hU4
 have HI4:=hI0 hI4
 have HE4:=hI0 hE4
 clear hU4 hI4 hE4
 have hr4:=hr3.call hS4 hD4
 have hC4:Chg (·=R) W v4:=hCX.trans hD4 (fun _ _ h=>h)
 have hz4:=hD4.size
 have p3:v4.cell? ⟨T,3,none⟩=some (.slice none 0 0):=cW0 v4 _ 3 _ _ _ hr4.box
 have g3:v4.frozen? ⟨T,3,none⟩=false:=fW0 v4 _ 3 _ _ hr4.box
 go_upto_region 3 with (fail)
 clear p3 g3
 have hr5:=hr4.put 3 (.slice A4 Q4.length c4) (cs':=#[.string n1,.slice A2 Q2.length c2,.slice A3 Q3.length c3,.slice A4 Q4.length c4,.slice none 0 0])
 have hy4:=St3.put (R:=R) (T:=T) (H:=w.heap.size) v4 3 (.slice A4 Q4.length c4)
 have hC5:Chg (·=R) W (v4.setCell ⟨T,3,none⟩ (.slice A4 Q4.length c4)):=hC4.setCell (p:=⟨T,3,none⟩) (.inr (by show W.heap.size≤T;have:=HTE.out;omega)) _
 generalize v4.setCell ⟨T,3,none⟩ (.slice A4 Q4.length c4)=Y4 at *
 have hw4:=hy4.size
 go_wp2_with fail
 (with_reducible refine (K5 Y4 hr5.src hC5).mono ?_)
 rintro _ v5 ⟨u5,Q5,rfl,hU5,hI5,hE5,hS5,hD5⟩
 obtain ⟨A5,c5,rfl⟩:=rdE_slice hU5
 have HU5:=hI0 hU5
 have HI5:=hI0 hI5
 have HE5:=hI0 hE5
 clear hU5 hI5 hE5
 have hr6:=hr5.call hS5 hD5
 have hz5:=hD5.size
 have p4:v5.cell? ⟨T,4,none⟩=some (.slice none 0 0):=cW0 v5 _ 4 _ _ _ hr6.box
 have g4:v5.frozen? ⟨T,4,none⟩=false:=fW0 v5 _ 4 _ _ hr6.box
 go_upto_region 4 with (fail)
 clear p4 g4
 have hr7:=hr6.put 4 (.slice A5 Q5.length c5) (cs':=#[.string n1,.slice A2 Q2.length c2,.slice A3 Q3.length c3,.slice A4 Q4.length c4,.slice A5 Q5.length c5])
 have hy5:=St3.put (R:=R) (T:=T) (H:=w.heap.size) v5 4 (.slice A5 Q5.length c5)
 have hC7:Chg (·=R) W (v5.setCell ⟨T,4,none⟩ (.slice A5 Q5.length c5)):=(hC5.trans hD5 (fun _ _ h=>h)).setCell (p:=⟨T,4,none⟩) (.inr (by show W.heap.size≤T;have:=HTE.out;omega)) _
 generalize v5.setCell ⟨T,4,none⟩ (.slice A5 Q5.length c5)=Y5 at *
 have hw5:=hy5.size
 have p0:Y5.cell? ⟨T,0,none⟩=some (.string n1):=cW0 Y5 _ 0 _ _ _ hr7.box
 have p1:Y5.cell? ⟨T,1,none⟩=some (.slice A2 Q2.length c2):=cW0 Y5 _ 1 _ _ _ hr7.box
 have p2:Y5.cell? ⟨T,2,none⟩=some (.slice A3 Q3.length c3):=cW0 Y5 _ 2 _ _ _ hr7.box
 have p3:Y5.cell? ⟨T,3,none⟩=some (.slice A4 Q4.length c4):=cW0 Y5 _ 3 _ _ _ hr7.box
 have p4:Y5.cell? ⟨T,4,none⟩=some (.slice A5 Q5.length c5):=cW0 Y5 _ 4 _ _ _ hr7.box
 have q0:Y5.cell? ⟨w.heap.size,0,none⟩=some (.string ⟨#[]⟩):=cW0 Y5 _ 0 _ _ _ hr7.res
 have q1:Y5.cell? ⟨w.heap.size,1,none⟩=some (.slice none 0 0):=cW0 Y5 _ 1 _ _ _ hr7.res
 have q2:Y5.cell? ⟨w.heap.size,2,none⟩=some (.slice none 0 0):=cW0 Y5 _ 2 _ _ _ hr7.res
 have q3:Y5.cell? ⟨w.heap.size,3,none⟩=some (.slice none 0 0):=cW0 Y5 _ 3 _ _ _ hr7.res
 have q4:Y5.cell? ⟨w.heap.size,4,none⟩=some (.slice none 0 0):=cW0 Y5 _ 4 _ _ _ hr7.res
 have z0:Y5.frozen? ⟨w.heap.size,0,none⟩=false:=fW0 Y5 _ 0 _ _ hr7.res
 have z1:Y5.frozen? ⟨w.heap.size,1,none⟩=false:=fW0 Y5 _ 1 _ _ hr7.res
 have z2:Y5.frozen? ⟨w.heap.size,2,none⟩=false:=fW0 Y5 _ 2 _ _ hr7.res
 have z3:Y5.frozen? ⟨w.heap.size,3,none⟩=false:=fW0 Y5 _ 3 _ _ hr7.res
 have z4:Y5.frozen? ⟨w.heap.size,4,none⟩=false:=fW0 Y5 _ 4 _ _ hr7.res
 have hE:=set5_at hr7.res (.string n1) (.slice A2 Q2.length c2) (.slice A3 Q3.length c3) (.slice A4 Q4.length c4) (.slice A5 Q5.length c5)
 have hEc:=set5_chg Y5 w.heap.size (.string n1) (.slice A2 Q2.length c2) (.slice A3 Q3.length c3) (.slice A4 Q4.length c4) (.slice A5 Q5.length c5)
 have HE:=hI0 hE
 have HEc:=hI0 hEc
 have c5:=(St3.res (R:=R) (T:=T) hEc)
 have c4:=hy4.trans ((St3.of hD5).trans (hy5.trans c5))
 have cX:=(St3.of (T:=T) (H:=w.heap.size) (Chg.of_below (S:=(·=R)) hbX)).trans ((St3.of hD4).trans c4)
 have c2:=(St3.of hD3).trans cX
 have HC2:=hI0 c2
 have HC3:=hI0 cX
 have HC4:=hI0 c4
 have HC5:=hI0 (hy5.trans c5)
 have HC7:=hI0 hC7
 have HR7:=hI0 hr7
 clear hE hEc c5 c4 cX c2 hr3 hr4 hr5 hr6 hr7 hC0 hC1 hC2 hC3 hC4 hC5 hC7 hCX hS0 hS1 hS2 hS3 hS4 hS5 hD1 hD2 hD3 hD4 hD5 hy4 hy5 hbX K1 K2 K3 K4 K5
 go_wp2_with fail
 clear p0 q0 z0 p1 q1 z1 p2 q2 z2 p3 q3 z3 p4 q4 z4
 generalize (((((Y5.setCell ⟨w.heap.size,0,none⟩ (.string n1)).setCell ⟨w.heap.size,1,none⟩ (.slice A2 Q2.length c2)).setCell ⟨w.heap.size,2,none⟩ (.slice A3 Q3.length c3)).setCell ⟨w.heap.size,3,none⟩ (.slice A4 Q4.length c4)).setCell ⟨w.heap.size,4,none⟩ (.slice A5 Q5.length c5))=E at *
 obtain ⟨p0,p1,p2,p3,p4⟩:=cX5 HE.out
 have hT:=HTE.out
 obtain ⟨k2,m2⟩:=keep3 (V:=v1) (w':=w) HC2.out (by omega) (by omega) (by omega) (by omega)
 obtain ⟨k3,m3⟩:=keep3 (V:=v2) (w':=w) HC3.out (by omega) (by omega) (by omega) (by omega)
 obtain ⟨k4,m4⟩:=keep3 (V:=X) (w':=w) HC4.out (by omega) (by omega) (by omega) (by omega)
 obtain ⟨k5,m5⟩:=keep3 (V:=Y4) (w':=w) HC5.out (by omega) (by omega) (by omega) (by omega)
 have hSE:SrcAt E R v s5:=(HEc.out.block R HR7.out.src.lt zi12).trans HR7.out.src
 have hCE:Chg (·=R) w E:=((Chg.of_below HbW.out _).trans HC7.out (fun _ _ h=>h)).trans HEc.out (fun i hi (h:i=w.heap.size)=>by omega)
 exact bodyPost_ret (v:=.agg #[.string n1,.slice A2 Q2.length c2,.slice A3 Q3.length c3,.slice A4 Q4.length c4,.slice A5 Q5.length c5]) (by simp [results,results162,go_sem,p0,p1,p2,p3,p4]) rfl ⟨⟨n1,A2,c2,Q2,A3,c3,Q3,A4,c4,Q4,A5,c5,Q5⟩,rfl,⟨Rd.wide (Rd.keep HU2.out k2) m2,Rd.wide (Rd.keep HU3.out k3) m3,Rd.wide (Rd.keep HU4.out k4) m4,fun x hx=>isK_For.wide (isK_For.keep (HI4.out x hx) k4) m4,Rd.wide (Rd.keep HU5.out k5) m5,fun x hx=>isK_X.wide (isK_X.keep (HI5.out x hx) k5) m5⟩,by simp [RTab.er,HE2.out,HE3.out,HE4.out,HE5.out],hSE,hCE⟩
end
end Go.Proofs.YtbfdegkickjbpaaGreat
