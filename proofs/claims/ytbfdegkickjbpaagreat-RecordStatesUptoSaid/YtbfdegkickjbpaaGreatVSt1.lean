/-
 St1
-/
import Derived.Test.YtbfdegkickjbpaaGreatVDc3
import Derived.Test.YtbfdegkickjbpaaGreatVDc5
import Derived.Test.YtbfdegkickjbpaaGreatVSm2
namespace Go.Proofs.YtbfdegkickjbpaaGreat
open Go.Proofs.Tryz
set_option maxRecDepth 99999
set_option maxHeartbeats 0
open Go.RowKit Go.Lib Go.IntWalk Go.Sort Go.Shelf
theorem zq4 {P:Prop} (i:Nat) (h:Tg i→P:=by
 intro zT4
 rcases h1:rdI l s with ⟨n1,s1⟩
 rcases h2:rdI l s1 with ⟨n2,s2⟩
 first
  |guard_hyp zT4:Tg 1;have hd:rdStm l s=((⟨n1,n2⟩:Stm),s2):=by unfold rdStm;simp only [h1,h2]
  |rcases h3:rdR l s2 with ⟨xs3,s3⟩
   rcases h4:rdP l s3 with ⟨⟨f4,t4⟩,s4⟩
   rcases h5:rdP l s4 with ⟨⟨f5,t5⟩,s5⟩
   rcases h6:rdI l s5 with ⟨n6,s6⟩
   rcases h7:rdI l s6 with ⟨n7,s7⟩
   have hd:rdVerP l s=(rvP ⟨n1,n2,xs3,f4,t4,f5,t5,n6,n7⟩,s7):=by unfold rdVerP rdVer;simp only [h1,h2,h3,h4,h5,h6,h7]
   have hok3:∀x∈xs3,goV x:=by
    have e:xs3=(rdR l s2).1:=by rw [h3]
    rw [e]
    unfold rdR rdS
    split
    ·intro x hx;cases hx
    ·split<;>exact decR_ok l _
 rw [hd]
 first
  |guard_hyp zT4:Tg 1;obtain ⟨W,hW⟩:=eN0 (w.alloc (.cells #[.int .i64 0,.int .i64 0] 180))
  |obtain ⟨W,hW⟩:=eN0 (w.alloc (.cells #[.int .i64 0,.int .i64 0,.slice none 0 0,.int .i64 0,.int .i64 0,.int .i64 0,.int .i64 0,.int .i64 0,.int .i64 0] 167))
 have hR:=h.lt
 have hbW:=bN0 hW
 have hWs:=sN0 hW
 have hQ:=hN0 hW
 have hS0:SrcAt W.drew R v s:=(h.below hbW).below (Below.refl _ _).drew
 have hC0:Chg (·=R) W W.drew:=(Chg.refl _ _).drew
 have hvW:∀V,Chg (·=R) W V→RdB V (·<R) v l:=fun V hV=>Rd.keep hv (fun b (hb:b<R)=>(hV.block b (by omega) (by omega)).trans (hbW.block b (by omega)))
 have K1:∀V,SrcAt V R v s→Chg (·=R) W V→Calls prog 60 #[.pointer (some ⟨R,0,none⟩)] V fun x w'=>x=.returned (.int .i64 n1)∧SrcAt w' R v s1∧Chg (·=R) V w':=fun V hs hV=>by
  have k:=srcInt_any R v l s V hs (hvW V hV)
  rw [h1] at k
  exact k
 have K2:∀V,SrcAt V R v s1→Chg (·=R) W V→Calls prog 60 #[.pointer (some ⟨R,0,none⟩)] V fun x w'=>x=.returned (.int .i64 n2)∧SrcAt w' R v s2∧Chg (·=R) V w':=fun V hs hV=>by
  exact zq115
 first
  |done
  |guard_hyp zT4:Tg 1
  |have K3:∀V,SrcAt V R v s2→Chg (·=R) W V→Calls prog 191 #[.pointer (some ⟨R,0,none⟩)] V fun x w'=>∃u,x=.returned u∧RdV w' (fun b=>V.heap.size≤b∧b<w'.heap.size) u xs3∧SrcAt w' R v s3∧Chg (·=R) V w':=fun V hs hV=>by
    have k:=srcRow_any R v l s2 V hs (hvW V hV)
    rw [h3] at k
    exact k
   have K4:∀V,SrcAt V R v s3→Chg (·=R) W V→Calls prog 169 #[.pointer (some ⟨R,0,none⟩)] V fun x w'=>x=.returned (.agg #[.int .i64 f4,.int .i64 t4])∧SrcAt w' R v s4∧Chg (·=R) V w':=fun V hs hV=>by
    have k:=srcPeriod_any R v l s3 V hs (hvW V hV)
    rw [h4] at k
    exact k
   have K5:∀V,SrcAt V R v s4→Chg (·=R) W V→Calls prog 169 #[.pointer (some ⟨R,0,none⟩)] V fun x w'=>x=.returned (.agg #[.int .i64 f5,.int .i64 t5])∧SrcAt w' R v s5∧Chg (·=R) V w':=fun V hs hV=>by
    have k:=srcPeriod_any R v l s4 V hs (hvW V hV)
    rw [h5] at k
    exact k
   have K6:∀V,SrcAt V R v s5→Chg (·=R) W V→Calls prog 60 #[.pointer (some ⟨R,0,none⟩)] V fun x w'=>x=.returned (.int .i64 n6)∧SrcAt w' R v s6∧Chg (·=R) V w':=fun V hs hV=>by
    have k:=srcInt_any R v l s5 V hs (hvW V hV)
    rw [h6] at k
    exact k
   have K7:∀V,SrcAt V R v s6→Chg (·=R) W V→Calls prog 60 #[.pointer (some ⟨R,0,none⟩)] V fun x w'=>x=.returned (.int .i64 n7)∧SrcAt w' R v s7∧Chg (·=R) V w':=fun V hs hV=>by
    have k:=srcInt_any R v l s6 V hs (hvW V hV)
    rw [h7] at k
    exact k
 have HQ:=hI0 hQ
 have HbW:=hI0 hbW
 first
  |guard_hyp zT4:Tg 1;clear h hv hd hvW hQ hbW h1 h2
  |have HOK3:=hI0 hok3
   clear h hv hd hvW hQ hbW h1 h2 h3 h4 h5 h6 h7 hok3
 go_in
 go_wp2_with fail
 rw [←hW]
 clear hW
 refine wp_region_noPanic ?_
 refine wp_region_held_drew (S:=(fun _:World=>True)) (by kernel_rfl) ?_ (fun zh=>?_)
 ·trivial
 refine hT 0 3 ?_
 refine hT 1 4 ?_
 refine hT 2 5 ?_
 refine hT 4 7 ?_
 refine hT 5 8 ?_
 refine hT 6 9 ?_
 first
  |done
  |guard_hyp zT4:Tg 1
  |refine hT 8 11 ?_
   refine hT 9 12 ?_
   refine hT 10 13 ?_
   refine hT 12 15 ?_
   refine hT 13 16 ?_
   refine hT 14 17 ?_
   refine hT 16 19 ?_
   refine hT 17 20 ?_
   refine hT 18 21 ?_
   refine hT 20 23 ?_
   refine hT 21 24 ?_
   refine hT 22 25 ?_
   refine hT 24 27 ?_
   refine hT 25 28 ?_
   refine hT 26 29 ?_
 refine hC 3 6 ?_
 (with_reducible refine (K1 _ hS0 hC0).mono ?_)
 rintro _ v1 ⟨rfl,hS1,hD1⟩
 have hC1:Chg (·=R) W v1:=hC0.trans hD1 (fun _ _ h=>h)
 refine ⟨_,rfl,keepAnd ?_ (fun hNew=>?_)⟩
 ·trivial
 clear zh
 have zh:=hNew
 clear hNew
 simp only [aP]
 refine hC 7 10 ?_
 (with_reducible refine (K2 _ hS1 hC1).mono ?_)
 rintro _ v2 ⟨rfl,hS2,hD2⟩
 have hC2:Chg (·=R) W v2:=hC1.trans hD2 (fun _ _ h=>h)
 refine ⟨_,rfl,keepAnd ?_ (fun hNew=>?_)⟩
 ·trivial
 clear zh
 have zh:=hNew
 clear hNew
 simp only [aP]
 first
  |guard_hyp zT4:Tg 1;refine hT 8 11 ?_
   have hNew:(fun _:World=>True) (((v2.setCell ⟨w.heap.size,0,none⟩ (.int .i64 n1)).setCell ⟨w.heap.size,1,none⟩ (.int .i64 n2))):=by trivial
   refine heldSkipRun 9 none (w':=((v2.setCell ⟨w.heap.size,0,none⟩ (.int .i64 n1)).setCell ⟨w.heap.size,1,none⟩ (.int .i64 n2))) rfl rfl (by kernel_rfl) (by rfl) ?_ hNew ?_
  |refine hC 11 14 ?_
   (with_reducible refine (K3 _ hS2 hC2).mono ?_)
   rintro _ v3 ⟨u3,rfl,hU3,hS3,hD3⟩
   obtain ⟨A3,c3,rfl,_⟩:=Rd.open_ hU3
   have HU3:=hI0 hU3
   clear hU3
   have hC3:Chg (·=R) W v3:=hC2.trans hD3 (fun _ _ h=>h)
   refine ⟨_,rfl,keepAnd ?_ (fun hNew=>?_)⟩
   ·trivial
   clear zh
   have zh:=hNew
   clear hNew
   simp only [aP]
   refine hC 15 18 ?_
   (with_reducible refine (K4 _ hS3 hC3).mono ?_)
   rintro _ v4 ⟨rfl,hS4,hD4⟩
   have hC4:Chg (·=R) W v4:=hC3.trans hD4 (fun _ _ h=>h)
   refine ⟨_,rfl,keepAnd ?_ (fun hNew=>?_)⟩
   ·trivial
   clear zh
   have zh:=hNew
   clear hNew
   simp only [aP]
   refine hC 19 22 ?_
   (with_reducible refine (K5 _ hS4 hC4).mono ?_)
   rintro _ v5 ⟨rfl,hS5,hD5⟩
   have hC5:Chg (·=R) W v5:=hC4.trans hD5 (fun _ _ h=>h)
   refine ⟨_,rfl,keepAnd ?_ (fun hNew=>?_)⟩
   ·trivial
   clear zh
   have zh:=hNew
   clear hNew
   simp only [aP]
   refine hC 23 26 ?_
   (with_reducible refine (K6 _ hS5 hC5).mono ?_)
   rintro _ v6 ⟨rfl,hS6,hD6⟩
   have hC6:Chg (·=R) W v6:=hC5.trans hD6 (fun _ _ h=>h)
   refine ⟨_,rfl,keepAnd ?_ (fun hNew=>?_)⟩
   ·trivial
   clear zh
   have zh:=hNew
   clear hNew
   simp only [aP]
   refine hC 27 30 ?_
   (with_reducible refine (K7 _ hS6 hC6).mono ?_)
   rintro _ v7 ⟨rfl,hS7,hD7⟩
   have hC7:Chg (·=R) W v7:=hC6.trans hD7 (fun _ _ h=>h)
   refine ⟨_,rfl,keepAnd ?_ (fun hNew=>?_)⟩
   ·trivial
   clear zh
   have zh:=hNew
   clear hNew
   simp only [aP]
   refine hT 28 31 ?_
   have hNew:(fun _:World=>True) ((((((((((v7.setCell ⟨w.heap.size,0,none⟩ (.int .i64 n1)).setCell ⟨w.heap.size,1,none⟩ (.int .i64 n2)).setCell ⟨w.heap.size,2,none⟩ (.slice A3 xs3.length c3)).setCell ⟨w.heap.size,3,none⟩ (.int .i64 f4)).setCell ⟨w.heap.size,4,none⟩ (.int .i64 t4)).setCell ⟨w.heap.size,5,none⟩ (.int .i64 f5)).setCell ⟨w.heap.size,6,none⟩ (.int .i64 t5)).setCell ⟨w.heap.size,7,none⟩ (.int .i64 n6)).setCell ⟨w.heap.size,8,none⟩ (.int .i64 n7))):=by trivial
   refine heldSkipRun 29 none (w':=(((((((((v7.setCell ⟨w.heap.size,0,none⟩ (.int .i64 n1)).setCell ⟨w.heap.size,1,none⟩ (.int .i64 n2)).setCell ⟨w.heap.size,2,none⟩ (.slice A3 xs3.length c3)).setCell ⟨w.heap.size,3,none⟩ (.int .i64 f4)).setCell ⟨w.heap.size,4,none⟩ (.int .i64 t4)).setCell ⟨w.heap.size,5,none⟩ (.int .i64 f5)).setCell ⟨w.heap.size,6,none⟩ (.int .i64 t5)).setCell ⟨w.heap.size,7,none⟩ (.int .i64 n6)).setCell ⟨w.heap.size,8,none⟩ (.int .i64 n7))) rfl rfl (by kernel_rfl) (by rfl) ?_ hNew ?_
 ·first
   |guard_hyp zT4:Tg 1;have hQn:v2.heap[w.heap.size]? =some (.cells #[.int .i64 0,.int .i64 0] 180 (0,0)):=(hC2.block w.heap.size (by omega) (by omega)).trans HQ.out;have p0:v2.cell? ⟨w.heap.size,0,none⟩=some (.int .i64 0):=cW0 v2 _ 0 _ _ _ hQn;have p1:v2.cell? ⟨w.heap.size,1,none⟩=some (.int .i64 0):=cW0 v2 _ 1 _ _ _ hQn;have g0:v2.frozen? ⟨w.heap.size,0,none⟩=false:=fW0 v2 _ 0 _ _ hQn;have g1:v2.frozen? ⟨w.heap.size,1,none⟩=false:=fW0 v2 _ 1 _ _ hQn;go_simp<;>with_reducible rfl
   |have hQn:v7.heap[w.heap.size]? =some (.cells #[.int .i64 0,.int .i64 0,.slice none 0 0,.int .i64 0,.int .i64 0,.int .i64 0,.int .i64 0,.int .i64 0,.int .i64 0] 167 (0,0)):=(hC7.block w.heap.size (by omega) (by omega)).trans HQ.out;have p0:v7.cell? ⟨w.heap.size,0,none⟩=some (.int .i64 0):=cW0 v7 _ 0 _ _ _ hQn;have p1:v7.cell? ⟨w.heap.size,1,none⟩=some (.int .i64 0):=cW0 v7 _ 1 _ _ _ hQn;have p2:v7.cell? ⟨w.heap.size,2,none⟩=some (.slice none 0 0):=cW0 v7 _ 2 _ _ _ hQn;have p3:v7.cell? ⟨w.heap.size,3,none⟩=some (.int .i64 0):=cW0 v7 _ 3 _ _ _ hQn;have p4:v7.cell? ⟨w.heap.size,4,none⟩=some (.int .i64 0):=cW0 v7 _ 4 _ _ _ hQn;have p5:v7.cell? ⟨w.heap.size,5,none⟩=some (.int .i64 0):=cW0 v7 _ 5 _ _ _ hQn;have p6:v7.cell? ⟨w.heap.size,6,none⟩=some (.int .i64 0):=cW0 v7 _ 6 _ _ _ hQn;have p7:v7.cell? ⟨w.heap.size,7,none⟩=some (.int .i64 0):=cW0 v7 _ 7 _ _ _ hQn;have p8:v7.cell? ⟨w.heap.size,8,none⟩=some (.int .i64 0):=cW0 v7 _ 8 _ _ _ hQn;have g0:v7.frozen? ⟨w.heap.size,0,none⟩=false:=fW0 v7 _ 0 _ _ hQn;have g1:v7.frozen? ⟨w.heap.size,1,none⟩=false:=fW0 v7 _ 1 _ _ hQn;have g2:v7.frozen? ⟨w.heap.size,2,none⟩=false:=fW0 v7 _ 2 _ _ hQn;have g3:v7.frozen? ⟨w.heap.size,3,none⟩=false:=fW0 v7 _ 3 _ _ hQn;have g4:v7.frozen? ⟨w.heap.size,4,none⟩=false:=fW0 v7 _ 4 _ _ hQn;have g5:v7.frozen? ⟨w.heap.size,5,none⟩=false:=fW0 v7 _ 5 _ _ hQn;have g6:v7.frozen? ⟨w.heap.size,6,none⟩=false:=fW0 v7 _ 6 _ _ hQn;have g7:v7.frozen? ⟨w.heap.size,7,none⟩=false:=fW0 v7 _ 7 _ _ hQn;have g8:v7.frozen? ⟨w.heap.size,8,none⟩=false:=fW0 v7 _ 8 _ _ hQn;go_simp<;>with_reducible rfl
 clear zh
 have zh:=hNew
 clear hNew
 simp only [Act.put]
 refine rD0 ?_
 clear zh
 first
  |guard_hyp zT4:Tg 1;have hQn:v2.heap[w.heap.size]? =some (.cells #[.int .i64 0,.int .i64 0] 180 (0,0)):=(hC2.block w.heap.size (by omega) (by omega)).trans HQ.out
   have hY9:=set2_at hQn (.int .i64 n1) (.int .i64 n2)
   have hYc:=set2_chg v2 w.heap.size (.int .i64 n1) (.int .i64 n2)
   generalize ((v2.setCell ⟨w.heap.size,0,none⟩ (.int .i64 n1)).setCell ⟨w.heap.size,1,none⟩ (.int .i64 n2))=Y at *
   obtain ⟨p0,p1⟩:=cX2 hY9
  |have hQn:v7.heap[w.heap.size]? =some (.cells #[.int .i64 0,.int .i64 0,.slice none 0 0,.int .i64 0,.int .i64 0,.int .i64 0,.int .i64 0,.int .i64 0,.int .i64 0] 167 (0,0)):=(hC7.block w.heap.size (by omega) (by omega)).trans HQ.out
   have hY9:=set9_at hQn (.int .i64 n1) (.int .i64 n2) (.slice A3 xs3.length c3) (.int .i64 f4) (.int .i64 t4) (.int .i64 f5) (.int .i64 t5) (.int .i64 n6) (.int .i64 n7)
   have hYc:=set9_chg v7 w.heap.size (.int .i64 n1) (.int .i64 n2) (.slice A3 xs3.length c3) (.int .i64 f4) (.int .i64 t4) (.int .i64 f5) (.int .i64 t5) (.int .i64 n6) (.int .i64 n7)
   generalize (((((((((v7.setCell ⟨w.heap.size,0,none⟩ (.int .i64 n1)).setCell ⟨w.heap.size,1,none⟩ (.int .i64 n2)).setCell ⟨w.heap.size,2,none⟩ (.slice A3 xs3.length c3)).setCell ⟨w.heap.size,3,none⟩ (.int .i64 f4)).setCell ⟨w.heap.size,4,none⟩ (.int .i64 t4)).setCell ⟨w.heap.size,5,none⟩ (.int .i64 f5)).setCell ⟨w.heap.size,6,none⟩ (.int .i64 t5)).setCell ⟨w.heap.size,7,none⟩ (.int .i64 n6)).setCell ⟨w.heap.size,8,none⟩ (.int .i64 n7))=Y at *
   obtain ⟨p0,p1,p2,p3,p4,p5,p6,p7,p8⟩:=cX9 hY9
 have hzY:=hYc.size
 have hz1:=hD1.size
 have hz2:=hD2.size
 first
  |done
  |guard_hyp zT4:Tg 1
  |have hz3:=hD3.size
   have hz4:=hD4.size
   have hz5:=hD5.size
   have hz6:=hD6.size
   have hz7:=hD7.size
 have hzc0:=hC0.size
 first
  |guard_hyp zT4:Tg 1;have hSY:SrcAt Y R v s2:=(hYc.block R zi36 zi12).trans hS2
   have hCY:Chg (·=R) w Y:=((Chg.of_below HbW.out _).trans hC2 (fun _ _ h=>h)).trans hYc (fun i hi (h:i=w.heap.size)=>by omega)
  |have hk3:=fr_keep (v:=v2) (((((Chg.refl (·=R) v3).trans hD4 (fun _ _ h=>h)).trans hD5 (fun _ _ h=>h)).trans hD6 (fun _ _ h=>h)).trans hD7 (fun _ _ h=>h)) hYc (by have:=hC2.size;omega) (by have:=hC2.size;omega)
   have hw3:=fr_wide (w:=w) (v:=v2) (v':=v3) (Y:=Y) (by have:=hC2.size;omega) (by omega)
   have hRw3:RdV Y (fun b=>w.heap.size≤b∧b<Y.heap.size) (.slice A3 xs3.length c3) xs3:=(Rd.keep HU3.out hk3).wide hw3
   have hSY:SrcAt Y R v s7:=(hYc.block R (by have:=hS7.lt;exact this) zi12).trans hS7
   have hCY:Chg (·=R) w Y:=((Chg.of_below HbW.out _).trans hC7 (fun _ _ h=>h)).trans hYc (fun i hi (h:i=w.heap.size)=>by omega)
 have HSY:=hI0 hSY
 have HCY:=hI0 hCY
 first
  |guard_hyp zT4:Tg 1;clear hSY hCY hQn hY9 hYc hS0 hC0 hS1 hC1 hD1 hz1 hS2 hC2 hD2 hz2
  |have HRw3:=hI0 hRw3
   clear hSY hCY hQn hY9 hYc hS0 hC0 hS1 hC1 hD1 hz1 hS2 hC2 hD2 hz2 hS3 hC3 hD3 hz3 hS4 hC4 hD4 hz4 hS5 hC5 hD5 hz5 hS6 hC6 hD6 hz6 hS7 hC7 hD7 hz7 hk3 hw3 hRw3
 go_wp2_with fail
 first
  |guard_hyp zT4:Tg 1;exact bodyPost_ret (v:=.agg #[.int .i64 n1,.int .i64 n2]) (by simp [results,results119,go_sem,p0,p1]) rfl ⟨⟨n1,n2⟩,rfl,trivial,by first|rfl|(simp [id];done),HSY.out,HCY.out⟩
  |exact bodyPost_ret (v:=.agg #[.int .i64 n1,.int .i64 n2,.slice A3 xs3.length c3,.int .i64 f4,.int .i64 t4,.int .i64 f5,.int .i64 t5,.int .i64 n6,.int .i64 n7]) (by simp [results,results124,go_sem,p0,p1,p2,p3,p4,p5,p6,p7,p8]) rfl ⟨⟨⟨n1,n2,A3,xs3.length,c3,f4,t4,f5,t5,n6,n7⟩,⟨n1,n2,xs3,f4,t4,f5,t5,n6,n7⟩⟩,rfl,⟨rfl,rfl,rfl,rfl,rfl,rfl,rfl,rfl,HRw3.out,HOK3.out⟩,by first|rfl|(simp [verEr];done),HSY.out,HCY.out⟩) : P := h ⟨⟩
theorem zi21 {P:Prop} (h:P:=by simp [results,results26,go_sem,p0,p1,p2,p3,p4,p5,p6,p7,p8,p9]):P:=h
def rvP (x:Ver):VP:=(⟨x.id,x.sch,none,0,0,x.vf,x.vt,x.sf,x.st,x.by_,x.un⟩,x)
def verEr (p:VP):VP:=rvP p.2
def rdVerP (l:List UInt8) (s:Int×Int):VP×Int×Int:=(rvP (rdVer l s).1,(rdVer l s).2)
def verIs (w:World) (F:Nat→Prop) (p:VP):Prop:=VerIs w F p.1 p.2
theorem isK_V:IsK verIs:=⟨fun h hk=>h.keep hk,fun h hw=>h.wide hw⟩
theorem mon_VerP {l:List UInt8}:Mon l (rdVerP l):=by
 intro s h
 have h6:=mon_I (rdI l (rdP l (rdP l (rdR l (rdI l (rdI l s).2).2).2).2).2).2 h
 have h5:=mon_I (rdP l (rdP l (rdR l (rdI l (rdI l s).2).2).2).2).2 h6.1
 have h4:=mon_P (rdP l (rdR l (rdI l (rdI l s).2).2).2).2 h5.1
 have h3:=mon_P (rdR l (rdI l (rdI l s).2).2).2 h4.1
 have h2:=mon_R (rdI l (rdI l s).2).2 h3.1
 have h1:=mon_I (rdI l s).2 h2.1
 have h0:=mon_I s h1.1
 refine ⟨h0.1,?_,h6.2.2⟩
 show s.1+1≤(rdI l (rdI l (rdP l (rdP l (rdR l (rdI l (rdI l s).2).2).2).2).2).2).2.1
 have g0:=h0.2.1
 have g1:=h1.2.1
 have g2:=h2.2.1
 have g3:=h3.2.1
 have g4:=h4.2.1
 have g5:=h5.2.1
 have g6:=h6.2.1
 omega
theorem set9_at {w:World} {T:Nat} {a0 a1 a2 a3 a4 a5 a6 a7 a8:Value} {e:TypeId} (h:w.heap[T]? =some (.cells #[a0,a1,a2,a3,a4,a5,a6,a7,a8] e (0,0))) (c0 c1 c2 c3 c4 c5 c6 c7 c8:Value):(((((((((w.setCell ⟨T,0,none⟩ c0).setCell ⟨T,1,none⟩ c1).setCell ⟨T,2,none⟩ c2).setCell ⟨T,3,none⟩ c3).setCell ⟨T,4,none⟩ c4).setCell ⟨T,5,none⟩ c5).setCell ⟨T,6,none⟩ c6).setCell ⟨T,7,none⟩ c7).setCell ⟨T,8,none⟩ c8).heap[T]? =some (.cells #[c0,c1,c2,c3,c4,c5,c6,c7,c8] e (0,0)):=by
 exact zq41 0
theorem set9_chg (w:World) (T:Nat) (c0 c1 c2 c3 c4 c5 c6 c7 c8:Value):Chg (·=T) w (((((((((w.setCell ⟨T,0,none⟩ c0).setCell ⟨T,1,none⟩ c1).setCell ⟨T,2,none⟩ c2).setCell ⟨T,3,none⟩ c3).setCell ⟨T,4,none⟩ c4).setCell ⟨T,5,none⟩ c5).setCell ⟨T,6,none⟩ c6).setCell ⟨T,7,none⟩ c7).setCell ⟨T,8,none⟩ c8):=
 (((((((((Chg.refl (·=T) w).setCell (p:=⟨T,0,none⟩) (.inl rfl) c0).setCell (p:=⟨T,1,none⟩) (.inl rfl) c1).setCell (p:=⟨T,2,none⟩) (.inl rfl) c2).setCell (p:=⟨T,3,none⟩) (.inl rfl) c3).setCell (p:=⟨T,4,none⟩) (.inl rfl) c4).setCell (p:=⟨T,5,none⟩) (.inl rfl) c5).setCell (p:=⟨T,6,none⟩) (.inl rfl) c6).setCell (p:=⟨T,7,none⟩) (.inl rfl) c7).setCell (p:=⟨T,8,none⟩) (.inl rfl) c8
theorem rdrVer_any (R:Nat) (v:Value) (l:List UInt8) (s:Int×Int) (w:World) (h:SrcAt w R v s) (hv:RdB w (·<R) v l):
  Calls prog 124 #[.pointer (some ⟨R,0,none⟩)] w (OneE (fun x:VP=>.agg (encVP x).toArray) verIs verEr R v (rdVerP l s) w):=by
 exact zq4 0
theorem info_Ver:(prog.info? 167).map (fun i=>(i.zero,i.size,i.bytes))=some (some (.agg #[.int .i64 0,.int .i64 0,.slice none 0 0,.int .i64 0,.int .i64 0,.int .i64 0,.int .i64 0,.int .i64 0,.int .i64 0]),9,88):=by kernel_rfl
theorem getVer_any (R:Nat) (v:Value) (l:List UInt8) (rd:Int×Int→VP×Int×Int) (f:FuncId) (hf:EntF f) (s:Int×Int) (w:World) (h:SrcAt w R v s) (hv:RdB w (·<R) v l) (hl:l.length≤10000000000) (hmon:Mon l rd)
  (hone:∀s V,SrcAt V R v s→Chg (·=R) w V→Calls prog f #[.pointer (some ⟨R,0,none⟩)] V (OneE (fun x:VP=>.agg (encVP x).toArray) verIs verEr R v (rd s) V)):
  Calls prog 123 #[.pointer (some ⟨R,0,none⟩),.func (.func f) #[] #[]] w (GetE 9 encVP verIs verEr R v (rdL l rd s) w):=by
 exact zq5 1
def RTv.er (p:RTv):RTv:=⟨p.table,none,0,p.vers.map verEr⟩
def RSt.er (c:RSt):RSt:=⟨c.tx,c.time,c.wall,c.next,none,0,c.ents.map REn.er,none,0,c.stms,none,0,c.tabs.map RTv.er,none,0,c.pla,none,0,c.pol,none,0,c.hor⟩
def rdStm (l:List UInt8) (s:Int×Int):Stm×Int×Int:=
 let a:=rdI l s
 let b:=rdI l a.2
 (⟨a.1,b.1⟩,b.2)
def rdTv (l:List UInt8) (s:Int×Int):RTv×Int×Int:=
 let a:=rdT l s
 let b:=rdL l (rdVerP l) a.2
 (⟨a.1,none,0,b.1⟩,b.2)
theorem mon_Stm {l:List UInt8}:Mon l (rdStm l):=by
 intro s h
 have h1:=mon_I (rdI l s).2 h
 have h0:=mon_I s h1.1
 refine ⟨h0.1,?_,h1.2.2⟩
 show s.1+1≤(rdI l (rdI l s).2).2.1
 have g0:=h0.2.1
 have g1:=h1.2.1
 omega
theorem mon_Tv {l:List UInt8}:Mon l (rdTv l):=by
 intro s h
 have h1:=mon_L mon_VerP (rdT l s).2 h
 have h0:=mon_T s h1.1
 refine ⟨h0.1,?_,h1.2.2⟩
 show s.1+1≤(rdL l (rdVerP l) (rdT l s).2).2.1
 have g0:=h0.2.1
 have g1:=h1.2.1
 omega
def tvIs (w:World) (F:Nat→Prop) (p:RTv):Prop:=RdE 9 encVP w F (.slice p.A p.vers.length p.C) p.vers∧∀q∈p.vers,verIs w F q
theorem isK_Tv:IsK tvIs:=⟨fun h hk=>⟨Rd.keep h.1 hk,fun q hq=>isK_V.keep (h.2 q hq) hk⟩,fun h hw=>⟨Rd.wide h.1 hw,fun q hq=>isK_V.wide (h.2 q hq) hw⟩⟩
def rdSt (l:List UInt8) (s:Int×Int):RSt×Int×Int:=
 let a:=rdI l s
 let b:=rdI l a.2
 let c:=rdI l b.2
 let d:=rdI l c.2
 let e:=rdL l (rdEnt l) d.2
 let f:=rdL l (rdStm l) e.2
 let g:=rdL l (rdTv l) f.2
 let h:=rdL l (rdHld l) g.2
 let i:=rdL l (rdPol l) h.2
 let j:=rdL l (rdHor l) i.2
 (⟨a.1,b.1,c.1,d.1,none,0,e.1,none,0,f.1,none,0,g.1,none,0,h.1,none,0,i.1,none,0,j.1⟩,j.2)
def RSt.none_:RSt:=⟨0,0,0,0,none,0,[],none,0,[],none,0,[],none,0,[],none,0,[],none,0,[]⟩
def decSt (l:List UInt8):RSt×Int:=
 if endE (rdSt l (0,0)).2 l.length≠0 then (RSt.none_,endE (rdSt l (0,0)).2 l.length)
 else if stateF (rdSt l (0,0)).1≠0 then (RSt.none_,stateF (rdSt l (0,0)).1)
 else ((rdSt l (0,0)).1,0)
theorem ordF_map {α:Type} {ok:α→Int} {le:α→α→Bool} {la:α→Int} {er:α→α} (h1:∀x,ok (er x)=ok x) (h2:∀x y,le (er x) (er y)=le x y) (h3:∀x,la (er x)=la x):∀(l:List α) (p:Option α),ordF ok le la (p.map er) (l.map er)=ordF ok le la p l
 |[],p=>by cases p<;>rfl
 |x::r,p=>by
  have e:=ordF_map h1 h2 h3 r (some x)
  rw [Option.map_some] at e
  rw [List.map_cons,ordF_cons,ordF_cons,h1,h3,e]
  congr 2
  cases p
  ·rfl
  ·simp only [Option.map_some,plA,h2]
theorem stateF_er (c:RSt):stateF c.er=stateF c:=by
 have e1:entsF (c.ents.map REn.er)=entsF c.ents:=ordF_map (ok:=enE) (le:=fun x y=>decide (x.time<y.time)) (la:=fun _=>0) (er:=REn.er) (fun x=>by unfold enE;rw [REn.er_ok]) (fun _ _=>rfl) (fun _=>rfl) c.ents none
 have e3:tabsF (c.tabs.map RTv.er)=tabsF c.tabs:=ordF_map (ok:=tvE) (le:=fun x y=>bleS x.table y.table) (la:=fun x:RTv=>chkFrom none (x.vers.map (fun p:VP=>p.2))) (er:=RTv.er) (fun _=>rfl) (fun _ _=>rfl) (fun x=>by simp only [RTv.er,List.map_map];rfl) c.tabs none
 unfold stateF
 simp only [RSt.er,e1,e3]
 rfl
def DecSO (l:List UInt8) (w0:World) (e:Ending) (w:World):Prop:=
 ∃c:RSt,e=.returned (.tuple #[.agg c.enc.toArray,.int .i64 (decSt l).2])∧c.er=(decSt l).1∧c.is w (fun b=>w0.heap.size≤b∧b<w.heap.size)∧(∀x∈c.ents,∀e∈x.create.chks,exAll w (fun b=>w0.heap.size≤b∧b<w.heap.size) e)∧Bl w0 w
theorem noneS_is (w:World) (F:Nat→Prop):RSt.none_.is w F:=⟨Rd.nil _ _ _,(fun _ hx=>nomatch hx),Rd.nil _ _ _,Rd.nil _ _ _,(fun _ hx=>nomatch hx),Rd.nil _ _ _,Rd.nil _ _ _,Rd.nil _ _ _⟩
theorem decSt_end {l:List UInt8} {c:RSt} {s:Int×Int} (hc:rdSt l (0,0)=(c,s)) (he:endE s l.length≠0):decSt l=(RSt.none_,endE s l.length):=by unfold decSt;rw [hc,if_pos he]
theorem decSt_chk {l:List UInt8} {c:RSt} {s:Int×Int} (hc:rdSt l (0,0)=(c,s)) (he:endE s l.length=0) (hk:stateF c≠0):decSt l=(RSt.none_,stateF c):=by unfold decSt;rw [hc,if_neg (by simpa using he),if_pos hk]
theorem decSt_ok {l:List UInt8} {c:RSt} {s:Int×Int} (hc:rdSt l (0,0)=(c,s)) (he:endE s l.length=0) (hk:stateF c=0):decSt l=(c,0):=by unfold decSt;rw [hc,if_neg (by simpa using he),if_neg (by simpa using hk)]
theorem RSt.is_kw {w w':World} {F G:Nat→Prop} {c:RSt} (h:c.is w F) (hk:Keeps F w w') (hw:∀b,F b→G b):c.is w' G:=
 ⟨Rd.wide (Rd.keep h.ents hk) hw,fun x hx=>⟨RTab.is_kw (h.entI x hx).create hk hw,(h.entI x hx).few,(h.entI x hx).text⟩,Rd.wide (Rd.keep h.stms hk) hw,Rd.wide (Rd.keep h.tabs hk) hw,fun x hx=>(RdVs.keep (h.tabI x hx) hk).wide hw,
  Rd.wide (Rd.keep h.pla hk) hw,Rd.wide (Rd.keep h.pol hk) hw,Rd.wide (Rd.keep h.hor hk) hw⟩
theorem sz_sta (w:World):(Go.sizeOf 47).run prog w=.ok 10 w:=by simp [go_sem]
theorem ag_sta (w:World):(isAgg 47).run prog w=.ok true w:=by simp [isAgg,go_sem]
theorem rdrStm_any (R:Nat) (v:Value) (l:List UInt8) (s:Int×Int) (w:World) (h:SrcAt w R v s) (hv:RdB w (·<R) v l):
  Calls prog 119 #[.pointer (some ⟨R,0,none⟩)] w (OneE (fun x:Stm=>.agg x.enc.toArray) isT id R v (rdStm l s) w):=by
 exact zq4 1
theorem rdrTv_any (R:Nat) (v:Value) (l:List UInt8) (s:Int×Int) (w:World) (h:SrcAt w R v s) (hv:RdB w (·<R) v l) (hl:l.length≤10000000000):
  Calls prog 121 #[.pointer (some ⟨R,0,none⟩)] w (OneE (fun x:RTv=>.agg x.enc.toArray) tvIs RTv.er R v (rdTv l s) w):=by
 exact zq17 1
theorem info_Stm:(prog.info? 180).map (fun i=>(i.zero,i.size,i.bytes))=some (some (.agg #[.int .i64 0,.int .i64 0]),2,16):=by kernel_rfl
theorem getStm_any (R:Nat) (v:Value) (l:List UInt8) (rd:Int×Int→Stm×Int×Int) (f:FuncId) (hf:EntF f) (s:Int×Int) (w:World) (h:SrcAt w R v s) (hv:RdB w (·<R) v l) (hl:l.length≤10000000000) (hmon:Mon l rd)
  (hone:∀s V,SrcAt V R v s→Chg (·=R) w V→Calls prog f #[.pointer (some ⟨R,0,none⟩)] V (OneE (fun x:Stm=>.agg x.enc.toArray) isT id R v (rd s) V)):
  Calls prog 118 #[.pointer (some ⟨R,0,none⟩),.func (.func f) #[] #[]] w (GetE 2 Stm.enc isT id R v (rdL l rd s) w):=by
 exact zq9 5
theorem info_Tv:(prog.info? 165).map (fun i=>(i.zero,i.size,i.bytes))=some (some (.agg #[.string ⟨#[]⟩,.slice none 0 0]),2,40):=by kernel_rfl
theorem getTv_any (R:Nat) (v:Value) (l:List UInt8) (rd:Int×Int→RTv×Int×Int) (f:FuncId) (hf:EntF f) (s:Int×Int) (w:World) (h:SrcAt w R v s) (hv:RdB w (·<R) v l) (hl:l.length≤10000000000) (hmon:Mon l rd)
  (hone:∀s V,SrcAt V R v s→Chg (·=R) w V→Calls prog f #[.pointer (some ⟨R,0,none⟩)] V (OneE (fun x:RTv=>.agg x.enc.toArray) tvIs RTv.er R v (rd s) V)):
  Calls prog 120 #[.pointer (some ⟨R,0,none⟩),.func (.func f) #[] #[]] w (GetE 2 RTv.enc tvIs RTv.er R v (rdL l rd s) w):=by
 exact zq9 1
theorem decodeState_any (v:Value) (l:List UInt8) (w:World) (hv:RdB w (ltw w) v l) (hl:l.length≤10000000000):
  Calls prog 26 #[v] w (DecSO l w):=by
 exact zq0 1
end Go.Proofs.YtbfdegkickjbpaaGreat
