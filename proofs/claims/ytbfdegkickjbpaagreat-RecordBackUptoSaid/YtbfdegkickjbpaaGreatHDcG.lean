/-
 DcG
-/
import Derived.Test.YtbfdegkickjbpaaGreatHDcF
namespace Go.Proofs.YtbfdegkickjbpaaGreat
set_option maxRecDepth 1000000
set_option maxHeartbeats 32000000
open Go.RowKit Go.Lib Go.IntWalk Go.Sort Go.Shelf
theorem zq11 {P:Prop} (i:Nat) (h:Tg i→P:=by
 intro zT11
 obtain ⟨W,hW⟩:∃W,W=w.alloc (.cells #[.int .i64 0,.int .i64 0,.int .i64 0,.int .i64 0,.string ⟨#[]⟩,.string ⟨#[]⟩,.slice none 0 0] 212):=⟨_,rfl⟩
 have hR:=h.lt
 have hbW:Below w.heap.size w W:=by rw [hW];exact Below.of_alloc _
 have hWs:W.heap.size=w.heap.size+1:=by rw [hW];simp
 have hQ:W.heap[w.heap.size]? =some (.cells #[.int .i64 0,.int .i64 0,.int .i64 0,.int .i64 0,.string ⟨#[]⟩,.string ⟨#[]⟩,.slice none 0 0] 212 (0,0)):=by rw [hW];exact heap_alloc_new _ _
 have K:=KR W (h.below hbW) (Rd.keep hv (fun b (hb:b<R)=>hbW.block b (by omega)))
 first
  |guard_hyp zT11:Tg 1
  |have lc:W.cell? ⟨LB,0,none⟩=some (.int .i64 lv):=(World.cell?_of_block (hbW.block LB hLB)).trans hL
   have lc2:(w.alloc (.cells #[.int .i64 0,.int .i64 0,.int .i64 0,.int .i64 0,.string ⟨#[]⟩,.string ⟨#[]⟩,.slice none 0 0] 212)).cell? ⟨LB,0,none⟩=some (.int .i64 lv):=by rw [←hW];exact lc
 have HQ:=hI0 hQ
 have HbW:=hI0 hbW
 first
  |guard_hyp zT11:Tg 1
   obtain ⟨res,hres⟩:∃r,r=rdX l 24 s:=⟨_,rfl⟩
  |obtain ⟨res,hres⟩:∃r,r=rdX l d s:=⟨_,rfl⟩
 rw [←hres] at K ⊢
 clear h hv KR hQ hbW hres
 first
  |guard_hyp zT11:Tg 1
   go_enter Tryz.func218,Tryz.ntmps218
  |go_enter Tryz.func244,Tryz.ntmps244
 go_wp2_with fail
 rw [←hW]
 clear hW
 (with_reducible refine K.mono ?_)
 rintro e v1 ⟨x,he,hI,hE,hS,hC⟩
 obtain ⟨xo,xi,⟨x1,x2,x3⟩,xn,xA,xc,xas⟩:=x
 have he:e=.returned (.agg #[.int .i64 xo,.int .i64 xi,.int .i64 x1,.int .i64 x2,.string x3,.string xn,.slice xA xas.length xc]):=he
 subst he
 have hz1:=hC.size
 have hQ1:v1.heap[w.heap.size]? =some (.cells #[.int .i64 0,.int .i64 0,.int .i64 0,.int .i64 0,.string ⟨#[]⟩,.string ⟨#[]⟩,.slice none 0 0] 212 (0,0)):=(hC.block _ (by omega) (by show w.heap.size≠R;omega)).trans HQ.out
 have p0:v1.cell? ⟨w.heap.size,0,none⟩=some (.int .i64 0):=cW0 v1 _ 0 _ _ _ hQ1
 have p1:v1.cell? ⟨w.heap.size,1,none⟩=some (.int .i64 0):=cW0 v1 _ 1 _ _ _ hQ1
 have p2:v1.cell? ⟨w.heap.size,2,none⟩=some (.int .i64 0):=cW0 v1 _ 2 _ _ _ hQ1
 have p3:v1.cell? ⟨w.heap.size,3,none⟩=some (.int .i64 0):=cW0 v1 _ 3 _ _ _ hQ1
 have p4:v1.cell? ⟨w.heap.size,4,none⟩=some (.string ⟨#[]⟩):=cW0 v1 _ 4 _ _ _ hQ1
 have p5:v1.cell? ⟨w.heap.size,5,none⟩=some (.string ⟨#[]⟩):=cW0 v1 _ 5 _ _ _ hQ1
 have p6:v1.cell? ⟨w.heap.size,6,none⟩=some (.slice none 0 0):=cW0 v1 _ 6 _ _ _ hQ1
 have g0:v1.frozen? ⟨w.heap.size,0,none⟩=false:=fW0 v1 _ 0 _ _ hQ1
 have g1:v1.frozen? ⟨w.heap.size,1,none⟩=false:=fW0 v1 _ 1 _ _ hQ1
 have g2:v1.frozen? ⟨w.heap.size,2,none⟩=false:=fW0 v1 _ 2 _ _ hQ1
 have g3:v1.frozen? ⟨w.heap.size,3,none⟩=false:=fW0 v1 _ 3 _ _ hQ1
 have g4:v1.frozen? ⟨w.heap.size,4,none⟩=false:=fW0 v1 _ 4 _ _ hQ1
 have g5:v1.frozen? ⟨w.heap.size,5,none⟩=false:=fW0 v1 _ 5 _ _ hQ1
 have g6:v1.frozen? ⟨w.heap.size,6,none⟩=false:=fW0 v1 _ 6 _ _ hQ1
 have HQ1:=hI0 hQ1
 have HI:=hI0 hI
 have HE:=hI0 hE
 have HS:=hI0 hS
 have HC:=hI0 hC
 clear hQ1 hI hE hS hC K
 go_wp2_with fail
 have hY:=set7_at HQ1.out (.int .i64 xo) (.int .i64 xi) (.int .i64 x1) (.int .i64 x2) (.string x3) (.string xn) (.slice xA xas.length xc)
 have hYc:=set7_chg v1 w.heap.size (.int .i64 xo) (.int .i64 xi) (.int .i64 x1) (.int .i64 x2) (.string x3) (.string xn) (.slice xA xas.length xc)
 clear p0 g0 p1 g1 p2 g2 p3 g3 p4 g4 p5 g5 p6 g6
 generalize (((((((v1.setCell ⟨w.heap.size,0,none⟩ (.int .i64 xo)).setCell ⟨w.heap.size,1,none⟩ (.int .i64 xi)).setCell ⟨w.heap.size,2,none⟩ (.int .i64 x1)).setCell ⟨w.heap.size,3,none⟩ (.int .i64 x2)).setCell ⟨w.heap.size,4,none⟩ (.string x3)).setCell ⟨w.heap.size,5,none⟩ (.string xn)).setCell ⟨w.heap.size,6,none⟩ (.slice xA xas.length xc))=Y at *
 have p0:Y.cell? ⟨w.heap.size,0,none⟩=some (.int .i64 xo):=cW0 Y _ 0 _ _ _ hY
 have p1:Y.cell? ⟨w.heap.size,1,none⟩=some (.int .i64 xi):=cW0 Y _ 1 _ _ _ hY
 have p2:Y.cell? ⟨w.heap.size,2,none⟩=some (.int .i64 x1):=cW0 Y _ 2 _ _ _ hY
 have p3:Y.cell? ⟨w.heap.size,3,none⟩=some (.int .i64 x2):=cW0 Y _ 3 _ _ _ hY
 have p4:Y.cell? ⟨w.heap.size,4,none⟩=some (.string x3):=cW0 Y _ 4 _ _ _ hY
 have p5:Y.cell? ⟨w.heap.size,5,none⟩=some (.string xn):=cW0 Y _ 5 _ _ _ hY
 have p6:Y.cell? ⟨w.heap.size,6,none⟩=some (.slice xA xas.length xc):=cW0 Y _ 6 _ _ _ hY
 have hzY:=hYc.size
 have hk:∀b,W.heap.size≤b∧b<v1.heap.size→Y.heap[b]? =v1.heap[b]? :=fun b hb=>hYc.block b hb.2 (by show b≠w.heap.size;omega)
 have hw:∀b,W.heap.size≤b∧b<v1.heap.size→w.heap.size≤b∧b<Y.heap.size:=fun b hb=>⟨by omega,by omega⟩
 have hIY:=isK_X.wide (isK_X.keep HI.out hk) hw
 have hSY:SrcAt Y R v res.2:=(hYc.block R HS.out.lt (by show R≠w.heap.size;omega)).trans HS.out
 have hCY:Chg (·=R) w Y:=((Chg.of_below HbW.out _).trans HC.out (fun _ _ h=>h)).trans hYc (fun i hi (h:i=w.heap.size)=>by omega)
 first
  |guard_hyp zT11:Tg 1
   exact bodyPost_ret (v:=.agg #[.int .i64 xo,.int .i64 xi,.int .i64 x1,.int .i64 x2,.string x3,.string xn,.slice xA xas.length xc]) (by simp [results,Tryz.results218,go_sem,p0,p1,p2,p3,p4,p5,p6]) rfl ⟨⟨xo,xi,⟨x1,x2,x3⟩,xn,xA,xc,xas⟩,rfl,hIY,HE.out,hSY,hCY⟩
  |exact bodyPost_ret (v:=.agg #[.int .i64 xo,.int .i64 xi,.int .i64 x1,.int .i64 x2,.string x3,.string xn,.slice xA xas.length xc]) (by simp [results,Tryz.results244,go_sem,p0,p1,p2,p3,p4,p5,p6]) rfl ⟨⟨xo,xi,⟨x1,x2,x3⟩,xn,xA,xc,xas⟩,rfl,hIY,HE.out,hSY,hCY⟩) : P := h ⟨⟩
theorem zq26 {P:Prop} (i:Nat) (h:Tg i→P:=by
 intro zT26
 refine wp_region_noPanic ?_
 refine beginT (S:=(fun _:World=>True)) 18 (by kernel_rfl) ?_ (fun hHeld=>?_)
 ·trivial
 first
  |guard_hyp zT26:Tg 1
   refine tT 0 16 hHeld ?_
  |refine tT 0 13 hHeld ?_
 simp only [aP]
 first
  |guard_hyp zT26:Tg 1
   refine tT 1 17 hHeld ?_
  |refine tT 1 14 hHeld ?_
 simp only [aP]
 first
  |guard_hyp zT26:Tg 1
   refine tT 2 18 hHeld ?_
  |refine tT 2 15 hHeld ?_
 simp only [aP]
 first
  |guard_hyp zT26:Tg 1
   refine tT 4 20 hHeld ?_
  |refine tT 4 17 hHeld ?_
 simp only [aP]
 first
  |guard_hyp zT26:Tg 1
   refine tT 5 21 hHeld ?_
  |refine tT 5 18 hHeld ?_
 simp only [aP]
 first
  |guard_hyp zT26:Tg 1
   refine tT 6 22 hHeld ?_
  |refine tT 6 19 hHeld ?_
 simp only [aP]
 first
  |guard_hyp zT26:Tg 1
   refine tT 8 24 hHeld ?_
  |refine tT 8 21 hHeld ?_
 simp only [aP]
 first
  |guard_hyp zT26:Tg 1
   refine tT 9 25 hHeld ?_
  |refine tT 9 22 hHeld ?_
 simp only [aP]
 first
  |guard_hyp zT26:Tg 1
   refine tT 10 26 hHeld ?_
  |refine tT 10 23 hHeld ?_
 simp only [aP]
 first
  |guard_hyp zT26:Tg 1
   refine tT 12 28 hHeld ?_
  |refine tT 12 25 hHeld ?_
 simp only [aP]
 first
  |guard_hyp zT26:Tg 1
   refine tT 13 29 hHeld ?_
  |refine tT 13 26 hHeld ?_
 simp only [aP]
 first
  |guard_hyp zT26:Tg 1
   refine tT 14 30 hHeld ?_
  |refine tT 14 27 hHeld ?_
 simp only [aP]
 refine fork2 3 17 (by kernel_rfl) ?_ ?_
 ·first
   |guard_hyp zT26:Tg 1
    refine fC 3 19 ?_
   |refine fC 3 16 ?_
  (with_reducible refine (K1 _ hS0 hC0).mono ?_)
  first
   |guard_hyp zT26:Tg 1
    rintro _ v1_ ⟨rfl,hS1,hD1⟩
    have hC1:Chg (·=R) W v1_:=hC0.trans hD1 (fun _ _ h=>h)
   |rintro _ v1 ⟨rfl,hS1,hD1⟩
    have hC1:Chg (·=R) W v1:=hC0.trans hD1 (fun _ _ h=>h)
  refine ⟨_,rfl,?_⟩
  refine keepAnd ?_ (fun hNew=>?_)
  ·intro _;trivial
  have hNew:=hNew (by decide)
  clear hHeld
  have hHeld:=hNew
  clear hNew
  simp only [aP]
  refine fork2 7 17 (by kernel_rfl) ?_ ?_
  ·first
    |guard_hyp zT26:Tg 1
     refine fC 7 23 ?_
    |refine fC 7 20 ?_
   (with_reducible refine (K2 _ hS1 hC1).mono ?_)
   first
    |guard_hyp zT26:Tg 1
     rintro _ v2_ ⟨rfl,hS2,hD2⟩
     have hC2:Chg (·=R) W v2_:=hC1.trans hD2 (fun _ _ h=>h)
    |rintro _ v2 ⟨rfl,hS2,hD2⟩
     have hC2:Chg (·=R) W v2:=hC1.trans hD2 (fun _ _ h=>h)
   refine ⟨_,rfl,?_⟩
   refine keepAnd ?_ (fun hNew=>?_)
   ·intro _;trivial
   have hNew:=hNew (by decide)
   clear hHeld
   have hHeld:=hNew
   clear hNew
   simp only [aP]
   refine fork2 11 17 (by kernel_rfl) ?_ ?_
   ·first
     |guard_hyp zT26:Tg 1
      refine fC 11 27 ?_
     |refine fC 11 24 ?_
    (with_reducible refine (K3 _ hS2 hC2).mono ?_)
    first
     |guard_hyp zT26:Tg 1
      rintro _ v3_ ⟨rfl,hS3,hD3⟩
      have hC3:Chg (·=R) W v3_:=hC2.trans hD3 (fun _ _ h=>h)
     |rintro _ v3 ⟨rfl,hS3,hD3⟩
      have hC3:Chg (·=R) W v3:=hC2.trans hD3 (fun _ _ h=>h)
    refine ⟨_,rfl,?_⟩
    refine keepAnd ?_ (fun hNew=>?_)
    ·intro _;trivial
    have hNew:=hNew (by decide)
    clear hHeld
    have hHeld:=hNew
    clear hNew
    simp only [aP]
    refine fork2 15 17 (by kernel_rfl) ?_ ?_
    ·first
      |guard_hyp zT26:Tg 1
       refine fC 15 31 ?_
      |refine fC 15 28 ?_
     (with_reducible refine (K4 _ hS3 hC3).mono ?_)
     first
      |guard_hyp zT26:Tg 1
       rintro _ v4_ ⟨rfl,hS4,hD4⟩
       have hC4:Chg (·=R) W v4_:=hC3.trans hD4 (fun _ _ h=>h)
      |rintro _ v4 ⟨rfl,hS4,hD4⟩
       have hC4:Chg (·=R) W v4:=hC3.trans hD4 (fun _ _ h=>h)
     refine ⟨_,rfl,?_⟩
     refine keepAnd ?_ (fun hNew=>?_)
     ·intro _;trivial
     have hNew:=hNew (by decide)
     clear hHeld
     have hHeld:=hNew
     clear hNew
     simp only [aP]
     first
      |guard_hyp zT26:Tg 1
       refine tT 16 32 hHeld ?_
      |refine tT 16 29 hHeld ?_
     simp only [aP]
     refine fork1 17 (by kernel_rfl) ?_
     first
      |guard_hyp zT26:Tg 1
       refine runF 17 (some 5) (v:=.pointer (some ⟨v4_.heap.size,0,none⟩)) (w':=v4_.alloc (.cells #[.int .i64 0,.int .i64 0,.int .i64 0,.int .i64 0,.slice none 0 0,.slice none 0 0,.slice none 0 0,.slice none 0 0,.slice none 0 0,.slice none 0 0] 29)) rfl rfl (by rfl) ?_ ?_
      |refine runF 17 (some 5) (v:=.pointer (some ⟨v4.heap.size,0,none⟩)) (w':=v4.alloc (.cells #[.int .i64 0,.int .i64 0,.int .i64 0,.int .i64 0,.string ⟨#[]⟩,.string ⟨#[]⟩,.slice none 0 0] 212)) rfl rfl (by rfl) ?_ ?_
     ·go_simp<;>with_reducible rfl
     first
      |guard_hyp zT26:Tg 1
       obtain ⟨T,hTe⟩:∃T,T=v4_.heap.size:=⟨_,rfl⟩
      |obtain ⟨T,hTe⟩:∃T,T=v4.heap.size:=⟨_,rfl⟩
     rw [←hTe]
     first
      |guard_hyp zT26:Tg 1
       obtain ⟨X,hX⟩:∃X,X=v4_.alloc (.cells #[.int .i64 0,.int .i64 0,.int .i64 0,.int .i64 0,.slice none 0 0,.slice none 0 0,.slice none 0 0,.slice none 0 0,.slice none 0 0,.slice none 0 0] 29):=⟨_,rfl⟩
      |obtain ⟨X,hX⟩:∃X,X=v4.alloc (.cells #[.int .i64 0,.int .i64 0,.int .i64 0,.int .i64 0,.string ⟨#[]⟩,.string ⟨#[]⟩,.slice none 0 0] 212):=⟨_,rfl⟩
     rw [←hX]
     first
      |guard_hyp zT26:Tg 1
       have hbX:Below v4_.heap.size v4_ X:=by rw [hX];exact Below.of_alloc _
      |have hbX:Below v4.heap.size v4 X:=by rw [hX];exact Below.of_alloc _
     have hSX:SrcAt X R v s4:=hS4.below hbX
     have hCX:Chg (·=R) W X:=hC4.trans (Chg.of_below hbX _) (fun _ _ h=>h)
     first
      |guard_hyp zT26:Tg 1
       have hTX:X.heap[T]? =some (.cells #[.int .i64 0,.int .i64 0,.int .i64 0,.int .i64 0,.slice none 0 0,.slice none 0 0,.slice none 0 0,.slice none 0 0,.slice none 0 0,.slice none 0 0] 29 (0,0)):=by rw [hX,hTe];exact heap_alloc_new _ _
      |have hTX:X.heap[T]? =some (.cells #[.int .i64 0,.int .i64 0,.int .i64 0,.int .i64 0,.string ⟨#[]⟩,.string ⟨#[]⟩,.slice none 0 0] 212 (0,0)):=by rw [hX,hTe];exact heap_alloc_new _ _
     have hTlX:T<X.heap.size:=by rw [hX,hTe];simp
     have hTW:W.heap.size≤T:=by rw [hTe];exact hC4.size
     clear hX hTe hbX
     refine keepAnd ?_ (fun hNew=>?_)
     ·intro _;trivial
     have hNew:=hNew (by decide)
     clear hHeld
     have hHeld:=hNew
     clear hNew
     simp only [aP]
     exact tl T X hTW hTlX hTX hSX hCX
    ·first
      |guard_hyp zT26:Tg 1
       refine runF 17 (some 5) (v:=.pointer (some ⟨v3_.heap.size,0,none⟩)) (w':=v3_.alloc (.cells #[.int .i64 0,.int .i64 0,.int .i64 0,.int .i64 0,.slice none 0 0,.slice none 0 0,.slice none 0 0,.slice none 0 0,.slice none 0 0,.slice none 0 0] 29)) rfl rfl (by rfl) ?_ ?_
      |refine runF 17 (some 5) (v:=.pointer (some ⟨v3.heap.size,0,none⟩)) (w':=v3.alloc (.cells #[.int .i64 0,.int .i64 0,.int .i64 0,.int .i64 0,.string ⟨#[]⟩,.string ⟨#[]⟩,.slice none 0 0] 212)) rfl rfl (by rfl) ?_ ?_
     ·go_simp<;>with_reducible rfl
     first
      |guard_hyp zT26:Tg 1
       obtain ⟨T,hTe⟩:∃T,T=v3_.heap.size:=⟨_,rfl⟩
      |obtain ⟨T,hTe⟩:∃T,T=v3.heap.size:=⟨_,rfl⟩
     rw [←hTe]
     first
      |guard_hyp zT26:Tg 1
       obtain ⟨X,hX⟩:∃X,X=v3_.alloc (.cells #[.int .i64 0,.int .i64 0,.int .i64 0,.int .i64 0,.slice none 0 0,.slice none 0 0,.slice none 0 0,.slice none 0 0,.slice none 0 0,.slice none 0 0] 29):=⟨_,rfl⟩
      |obtain ⟨X,hX⟩:∃X,X=v3.alloc (.cells #[.int .i64 0,.int .i64 0,.int .i64 0,.int .i64 0,.string ⟨#[]⟩,.string ⟨#[]⟩,.slice none 0 0] 212):=⟨_,rfl⟩
     rw [←hX]
     first
      |guard_hyp zT26:Tg 1
       have hbX:Below v3_.heap.size v3_ X:=by rw [hX];exact Below.of_alloc _
      |have hbX:Below v3.heap.size v3 X:=by rw [hX];exact Below.of_alloc _
     have hSX:SrcAt X R v s3:=hS3.below hbX
     have hCX:Chg (·=R) W X:=hC3.trans (Chg.of_below hbX _) (fun _ _ h=>h)
     first
      |guard_hyp zT26:Tg 1
       have hTX:X.heap[T]? =some (.cells #[.int .i64 0,.int .i64 0,.int .i64 0,.int .i64 0,.slice none 0 0,.slice none 0 0,.slice none 0 0,.slice none 0 0,.slice none 0 0,.slice none 0 0] 29 (0,0)):=by rw [hX,hTe];exact heap_alloc_new _ _
      |have hTX:X.heap[T]? =some (.cells #[.int .i64 0,.int .i64 0,.int .i64 0,.int .i64 0,.string ⟨#[]⟩,.string ⟨#[]⟩,.slice none 0 0] 212 (0,0)):=by rw [hX,hTe];exact heap_alloc_new _ _
     have hTlX:T<X.heap.size:=by rw [hX,hTe];simp
     have hTW:W.heap.size≤T:=by rw [hTe];exact hC3.size
     clear hX hTe hbX
     refine keepAnd ?_ (fun hNew=>?_)
     ·intro _;trivial
     have hNew:=hNew (by decide)
     clear hHeld
     have hHeld:=hNew
     clear hNew
     simp only [aP]
     refine fork1 15 (by kernel_rfl) ?_
     first
      |guard_hyp zT26:Tg 1
       refine fC 15 31 ?_
      |refine fC 15 28 ?_
     (with_reducible refine (K4 _ hSX hCX).mono ?_)
     first
      |guard_hyp zT26:Tg 1
       rintro _ v4_ ⟨rfl,hS4,hD4⟩
       have hC4:Chg (·=R) W v4_:=hCX.trans hD4 (fun _ _ h=>h)
       have hT4:=(hD4.block T hTlX (by show T≠R;omega)).trans hTX
       have hTl4:T<v4_.heap.size:=by have:=hD4.size;omega
      |rintro _ v4 ⟨rfl,hS4,hD4⟩
       have hC4:Chg (·=R) W v4:=hCX.trans hD4 (fun _ _ h=>h)
       have hT4:v4.heap[T]? =some (.cells #[.int .i64 0,.int .i64 0,.int .i64 0,.int .i64 0,.string ⟨#[]⟩,.string ⟨#[]⟩,.slice none 0 0] 212 (0,0)):=(hD4.block T hTlX (by show T≠R;omega)).trans hTX
       have hTl4:T<v4.heap.size:=by have:=hD4.size;omega
     refine ⟨_,rfl,?_⟩
     refine keepAnd ?_ (fun hNew=>?_)
     ·intro _;trivial
     have hNew:=hNew (by decide)
     clear hHeld
     have hHeld:=hNew
     clear hNew
     simp only [aP]
     first
      |guard_hyp zT26:Tg 1
       refine tT 16 32 hHeld ?_
      |refine tT 16 29 hHeld ?_
     simp only [aP]
     first
      |guard_hyp zT26:Tg 1
       exact tl T v4_ hTW hTl4 hT4 hS4 hC4
      |exact tl T v4 hTW hTl4 hT4 hS4 hC4
   ·first
     |guard_hyp zT26:Tg 1
      refine runF 17 (some 5) (v:=.pointer (some ⟨v2_.heap.size,0,none⟩)) (w':=v2_.alloc (.cells #[.int .i64 0,.int .i64 0,.int .i64 0,.int .i64 0,.slice none 0 0,.slice none 0 0,.slice none 0 0,.slice none 0 0,.slice none 0 0,.slice none 0 0] 29)) rfl rfl (by rfl) ?_ ?_
     |refine runF 17 (some 5) (v:=.pointer (some ⟨v2.heap.size,0,none⟩)) (w':=v2.alloc (.cells #[.int .i64 0,.int .i64 0,.int .i64 0,.int .i64 0,.string ⟨#[]⟩,.string ⟨#[]⟩,.slice none 0 0] 212)) rfl rfl (by rfl) ?_ ?_
    ·go_simp<;>with_reducible rfl
    first
     |guard_hyp zT26:Tg 1
      obtain ⟨T,hTe⟩:∃T,T=v2_.heap.size:=⟨_,rfl⟩
     |obtain ⟨T,hTe⟩:∃T,T=v2.heap.size:=⟨_,rfl⟩
    rw [←hTe]
    first
     |guard_hyp zT26:Tg 1
      obtain ⟨X,hX⟩:∃X,X=v2_.alloc (.cells #[.int .i64 0,.int .i64 0,.int .i64 0,.int .i64 0,.slice none 0 0,.slice none 0 0,.slice none 0 0,.slice none 0 0,.slice none 0 0,.slice none 0 0] 29):=⟨_,rfl⟩
     |obtain ⟨X,hX⟩:∃X,X=v2.alloc (.cells #[.int .i64 0,.int .i64 0,.int .i64 0,.int .i64 0,.string ⟨#[]⟩,.string ⟨#[]⟩,.slice none 0 0] 212):=⟨_,rfl⟩
    rw [←hX]
    first
     |guard_hyp zT26:Tg 1
      have hbX:Below v2_.heap.size v2_ X:=by rw [hX];exact Below.of_alloc _
     |have hbX:Below v2.heap.size v2 X:=by rw [hX];exact Below.of_alloc _
    have hSX:SrcAt X R v s2:=hS2.below hbX
    have hCX:Chg (·=R) W X:=hC2.trans (Chg.of_below hbX _) (fun _ _ h=>h)
    first
     |guard_hyp zT26:Tg 1
      have hTX:X.heap[T]? =some (.cells #[.int .i64 0,.int .i64 0,.int .i64 0,.int .i64 0,.slice none 0 0,.slice none 0 0,.slice none 0 0,.slice none 0 0,.slice none 0 0,.slice none 0 0] 29 (0,0)):=by rw [hX,hTe];exact heap_alloc_new _ _
     |have hTX:X.heap[T]? =some (.cells #[.int .i64 0,.int .i64 0,.int .i64 0,.int .i64 0,.string ⟨#[]⟩,.string ⟨#[]⟩,.slice none 0 0] 212 (0,0)):=by rw [hX,hTe];exact heap_alloc_new _ _
    have hTlX:T<X.heap.size:=by rw [hX,hTe];simp
    have hTW:W.heap.size≤T:=by rw [hTe];exact hC2.size
    clear hX hTe hbX
    refine keepAnd ?_ (fun hNew=>?_)
    ·intro _;trivial
    have hNew:=hNew (by decide)
    clear hHeld
    have hHeld:=hNew
    clear hNew
    simp only [aP]
    refine fork1 11 (by kernel_rfl) ?_
    first
     |guard_hyp zT26:Tg 1
      refine fC 11 27 ?_
     |refine fC 11 24 ?_
    (with_reducible refine (K3 _ hSX hCX).mono ?_)
    first
     |guard_hyp zT26:Tg 1
      rintro _ v3_ ⟨rfl,hS3,hD3⟩
      have hC3:Chg (·=R) W v3_:=hCX.trans hD3 (fun _ _ h=>h)
      have hT3:=(hD3.block T hTlX (by show T≠R;omega)).trans hTX
      have hTl3:T<v3_.heap.size:=by have:=hD3.size;omega
     |rintro _ v3 ⟨rfl,hS3,hD3⟩
      have hC3:Chg (·=R) W v3:=hCX.trans hD3 (fun _ _ h=>h)
      have hT3:v3.heap[T]? =some (.cells #[.int .i64 0,.int .i64 0,.int .i64 0,.int .i64 0,.string ⟨#[]⟩,.string ⟨#[]⟩,.slice none 0 0] 212 (0,0)):=(hD3.block T hTlX (by show T≠R;omega)).trans hTX
      have hTl3:T<v3.heap.size:=by have:=hD3.size;omega
    refine ⟨_,rfl,?_⟩
    refine keepAnd ?_ (fun hNew=>?_)
    ·intro _;trivial
    have hNew:=hNew (by decide)
    clear hHeld
    have hHeld:=hNew
    clear hNew
    simp only [aP]
    refine fork1 15 (by kernel_rfl) ?_
    first
     |guard_hyp zT26:Tg 1
      refine fC 15 31 ?_
     |refine fC 15 28 ?_
    (with_reducible refine (K4 _ hS3 hC3).mono ?_)
    first
     |guard_hyp zT26:Tg 1
      rintro _ v4_ ⟨rfl,hS4,hD4⟩
      have hC4:Chg (·=R) W v4_:=hC3.trans hD4 (fun _ _ h=>h)
      have hT4:=(hD4.block T hTl3 (by show T≠R;omega)).trans hT3
      have hTl4:T<v4_.heap.size:=by have:=hD4.size;omega
     |rintro _ v4 ⟨rfl,hS4,hD4⟩
      have hC4:Chg (·=R) W v4:=hC3.trans hD4 (fun _ _ h=>h)
      have hT4:v4.heap[T]? =some (.cells #[.int .i64 0,.int .i64 0,.int .i64 0,.int .i64 0,.string ⟨#[]⟩,.string ⟨#[]⟩,.slice none 0 0] 212 (0,0)):=(hD4.block T hTl3 (by show T≠R;omega)).trans hT3
      have hTl4:T<v4.heap.size:=by have:=hD4.size;omega
    refine ⟨_,rfl,?_⟩
    refine keepAnd ?_ (fun hNew=>?_)
    ·intro _;trivial
    have hNew:=hNew (by decide)
    clear hHeld
    have hHeld:=hNew
    clear hNew
    simp only [aP]
    first
     |guard_hyp zT26:Tg 1
      refine tT 16 32 hHeld ?_
     |refine tT 16 29 hHeld ?_
    simp only [aP]
    first
     |guard_hyp zT26:Tg 1
      exact tl T v4_ hTW hTl4 hT4 hS4 hC4
     |exact tl T v4 hTW hTl4 hT4 hS4 hC4
  ·first
    |guard_hyp zT26:Tg 1
     refine runF 17 (some 5) (v:=.pointer (some ⟨v1_.heap.size,0,none⟩)) (w':=v1_.alloc (.cells #[.int .i64 0,.int .i64 0,.int .i64 0,.int .i64 0,.slice none 0 0,.slice none 0 0,.slice none 0 0,.slice none 0 0,.slice none 0 0,.slice none 0 0] 29)) rfl rfl (by rfl) ?_ ?_
    |refine runF 17 (some 5) (v:=.pointer (some ⟨v1.heap.size,0,none⟩)) (w':=v1.alloc (.cells #[.int .i64 0,.int .i64 0,.int .i64 0,.int .i64 0,.string ⟨#[]⟩,.string ⟨#[]⟩,.slice none 0 0] 212)) rfl rfl (by rfl) ?_ ?_
   ·go_simp<;>with_reducible rfl
   first
    |guard_hyp zT26:Tg 1
     obtain ⟨T,hTe⟩:∃T,T=v1_.heap.size:=⟨_,rfl⟩
    |obtain ⟨T,hTe⟩:∃T,T=v1.heap.size:=⟨_,rfl⟩
   rw [←hTe]
   first
    |guard_hyp zT26:Tg 1
     obtain ⟨X,hX⟩:∃X,X=v1_.alloc (.cells #[.int .i64 0,.int .i64 0,.int .i64 0,.int .i64 0,.slice none 0 0,.slice none 0 0,.slice none 0 0,.slice none 0 0,.slice none 0 0,.slice none 0 0] 29):=⟨_,rfl⟩
    |obtain ⟨X,hX⟩:∃X,X=v1.alloc (.cells #[.int .i64 0,.int .i64 0,.int .i64 0,.int .i64 0,.string ⟨#[]⟩,.string ⟨#[]⟩,.slice none 0 0] 212):=⟨_,rfl⟩
   rw [←hX]
   first
    |guard_hyp zT26:Tg 1
     have hbX:Below v1_.heap.size v1_ X:=by rw [hX];exact Below.of_alloc _
    |have hbX:Below v1.heap.size v1 X:=by rw [hX];exact Below.of_alloc _
   have hSX:SrcAt X R v s1:=hS1.below hbX
   have hCX:Chg (·=R) W X:=hC1.trans (Chg.of_below hbX _) (fun _ _ h=>h)
   first
    |guard_hyp zT26:Tg 1
     have hTX:X.heap[T]? =some (.cells #[.int .i64 0,.int .i64 0,.int .i64 0,.int .i64 0,.slice none 0 0,.slice none 0 0,.slice none 0 0,.slice none 0 0,.slice none 0 0,.slice none 0 0] 29 (0,0)):=by rw [hX,hTe];exact heap_alloc_new _ _
    |have hTX:X.heap[T]? =some (.cells #[.int .i64 0,.int .i64 0,.int .i64 0,.int .i64 0,.string ⟨#[]⟩,.string ⟨#[]⟩,.slice none 0 0] 212 (0,0)):=by rw [hX,hTe];exact heap_alloc_new _ _
   have hTlX:T<X.heap.size:=by rw [hX,hTe];simp
   have hTW:W.heap.size≤T:=by rw [hTe];exact hC1.size
   clear hX hTe hbX
   refine keepAnd ?_ (fun hNew=>?_)
   ·intro _;trivial
   have hNew:=hNew (by decide)
   clear hHeld
   have hHeld:=hNew
   clear hNew
   simp only [aP]
   refine fork1 7 (by kernel_rfl) ?_
   first
    |guard_hyp zT26:Tg 1
     refine fC 7 23 ?_
    |refine fC 7 20 ?_
   (with_reducible refine (K2 _ hSX hCX).mono ?_)
   first
    |guard_hyp zT26:Tg 1
     rintro _ v2_ ⟨rfl,hS2,hD2⟩
     have hC2:Chg (·=R) W v2_:=hCX.trans hD2 (fun _ _ h=>h)
     have hT2:=(hD2.block T hTlX (by show T≠R;omega)).trans hTX
     have hTl2:T<v2_.heap.size:=by have:=hD2.size;omega
    |rintro _ v2 ⟨rfl,hS2,hD2⟩
     have hC2:Chg (·=R) W v2:=hCX.trans hD2 (fun _ _ h=>h)
     have hT2:v2.heap[T]? =some (.cells #[.int .i64 0,.int .i64 0,.int .i64 0,.int .i64 0,.string ⟨#[]⟩,.string ⟨#[]⟩,.slice none 0 0] 212 (0,0)):=(hD2.block T hTlX (by show T≠R;omega)).trans hTX
     have hTl2:T<v2.heap.size:=by have:=hD2.size;omega
   refine ⟨_,rfl,?_⟩
   refine keepAnd ?_ (fun hNew=>?_)
   ·intro _;trivial
   have hNew:=hNew (by decide)
   clear hHeld
   have hHeld:=hNew
   clear hNew
   simp only [aP]
   refine fork1 11 (by kernel_rfl) ?_
   first
    |guard_hyp zT26:Tg 1
     refine fC 11 27 ?_
    |refine fC 11 24 ?_
   (with_reducible refine (K3 _ hS2 hC2).mono ?_)
   first
    |guard_hyp zT26:Tg 1
     rintro _ v3_ ⟨rfl,hS3,hD3⟩
     have hC3:Chg (·=R) W v3_:=hC2.trans hD3 (fun _ _ h=>h)
     have hT3:=(hD3.block T hTl2 (by show T≠R;omega)).trans hT2
     have hTl3:T<v3_.heap.size:=by have:=hD3.size;omega
    |rintro _ v3 ⟨rfl,hS3,hD3⟩
     have hC3:Chg (·=R) W v3:=hC2.trans hD3 (fun _ _ h=>h)
     have hT3:v3.heap[T]? =some (.cells #[.int .i64 0,.int .i64 0,.int .i64 0,.int .i64 0,.string ⟨#[]⟩,.string ⟨#[]⟩,.slice none 0 0] 212 (0,0)):=(hD3.block T hTl2 (by show T≠R;omega)).trans hT2
     have hTl3:T<v3.heap.size:=by have:=hD3.size;omega
   refine ⟨_,rfl,?_⟩
   refine keepAnd ?_ (fun hNew=>?_)
   ·intro _;trivial
   have hNew:=hNew (by decide)
   clear hHeld
   have hHeld:=hNew
   clear hNew
   simp only [aP]
   refine fork1 15 (by kernel_rfl) ?_
   first
    |guard_hyp zT26:Tg 1
     refine fC 15 31 ?_
    |refine fC 15 28 ?_
   (with_reducible refine (K4 _ hS3 hC3).mono ?_)
   first
    |guard_hyp zT26:Tg 1
     rintro _ v4_ ⟨rfl,hS4,hD4⟩
     have hC4:Chg (·=R) W v4_:=hC3.trans hD4 (fun _ _ h=>h)
     have hT4:=(hD4.block T hTl3 (by show T≠R;omega)).trans hT3
     have hTl4:T<v4_.heap.size:=by have:=hD4.size;omega
    |rintro _ v4 ⟨rfl,hS4,hD4⟩
     have hC4:Chg (·=R) W v4:=hC3.trans hD4 (fun _ _ h=>h)
     have hT4:v4.heap[T]? =some (.cells #[.int .i64 0,.int .i64 0,.int .i64 0,.int .i64 0,.string ⟨#[]⟩,.string ⟨#[]⟩,.slice none 0 0] 212 (0,0)):=(hD4.block T hTl3 (by show T≠R;omega)).trans hT3
     have hTl4:T<v4.heap.size:=by have:=hD4.size;omega
   refine ⟨_,rfl,?_⟩
   refine keepAnd ?_ (fun hNew=>?_)
   ·intro _;trivial
   have hNew:=hNew (by decide)
   clear hHeld
   have hHeld:=hNew
   clear hNew
   simp only [aP]
   first
    |guard_hyp zT26:Tg 1
     refine tT 16 32 hHeld ?_
    |refine tT 16 29 hHeld ?_
   simp only [aP]
   first
    |guard_hyp zT26:Tg 1
     exact tl T v4_ hTW hTl4 hT4 hS4 hC4
    |exact tl T v4 hTW hTl4 hT4 hS4 hC4
 ·first
   |guard_hyp zT26:Tg 1
    refine runF 17 (some 5) (v:=.pointer (some ⟨W.drew.heap.size,0,none⟩)) (w':=W.drew.alloc (.cells #[.int .i64 0,.int .i64 0,.int .i64 0,.int .i64 0,.slice none 0 0,.slice none 0 0,.slice none 0 0,.slice none 0 0,.slice none 0 0,.slice none 0 0] 29)) rfl rfl (by rfl) ?_ ?_
   |refine runF 17 (some 5) (v:=.pointer (some ⟨W.drew.heap.size,0,none⟩)) (w':=W.drew.alloc (.cells #[.int .i64 0,.int .i64 0,.int .i64 0,.int .i64 0,.string ⟨#[]⟩,.string ⟨#[]⟩,.slice none 0 0] 212)) rfl rfl (by rfl) ?_ ?_
  ·go_simp<;>with_reducible rfl
  obtain ⟨T,hTe⟩:∃T,T=W.drew.heap.size:=⟨_,rfl⟩
  rw [←hTe]
  first
   |guard_hyp zT26:Tg 1
    obtain ⟨X,hX⟩:∃X,X=W.drew.alloc (.cells #[.int .i64 0,.int .i64 0,.int .i64 0,.int .i64 0,.slice none 0 0,.slice none 0 0,.slice none 0 0,.slice none 0 0,.slice none 0 0,.slice none 0 0] 29):=⟨_,rfl⟩
   |obtain ⟨X,hX⟩:∃X,X=W.drew.alloc (.cells #[.int .i64 0,.int .i64 0,.int .i64 0,.int .i64 0,.string ⟨#[]⟩,.string ⟨#[]⟩,.slice none 0 0] 212):=⟨_,rfl⟩
  rw [←hX]
  have hbX:Below W.drew.heap.size W.drew X:=by rw [hX];exact Below.of_alloc _
  first
   |guard_hyp zT26:Tg 1
    have hSX:SrcAt X R v (0,0):=hS0.below hbX
   |have hSX:SrcAt X R v s:=hS0.below hbX
  have hCX:Chg (·=R) W X:=hC0.trans (Chg.of_below hbX _) (fun _ _ h=>h)
  first
   |guard_hyp zT26:Tg 1
    have hTX:X.heap[T]? =some (.cells #[.int .i64 0,.int .i64 0,.int .i64 0,.int .i64 0,.slice none 0 0,.slice none 0 0,.slice none 0 0,.slice none 0 0,.slice none 0 0,.slice none 0 0] 29 (0,0)):=by rw [hX,hTe];exact heap_alloc_new _ _
   |have hTX:X.heap[T]? =some (.cells #[.int .i64 0,.int .i64 0,.int .i64 0,.int .i64 0,.string ⟨#[]⟩,.string ⟨#[]⟩,.slice none 0 0] 212 (0,0)):=by rw [hX,hTe];exact heap_alloc_new _ _
  have hTlX:T<X.heap.size:=by rw [hX,hTe];simp
  have hTW:W.heap.size≤T:=by rw [hTe];exact hC0.size
  clear hX hTe hbX
  refine keepAnd ?_ (fun hNew=>?_)
  ·intro _;trivial
  have hNew:=hNew (by decide)
  clear hHeld
  have hHeld:=hNew
  clear hNew
  simp only [aP]
  refine fork1 3 (by kernel_rfl) ?_
  first
   |guard_hyp zT26:Tg 1
    refine fC 3 19 ?_
   |refine fC 3 16 ?_
  (with_reducible refine (K1 _ hSX hCX).mono ?_)
  first
   |guard_hyp zT26:Tg 1
    rintro _ v1_ ⟨rfl,hS1,hD1⟩
    have hC1:Chg (·=R) W v1_:=hCX.trans hD1 (fun _ _ h=>h)
    have hT1:=(hD1.block T hTlX (by show T≠R;omega)).trans hTX
    have hTl1:T<v1_.heap.size:=by have:=hD1.size;omega
   |rintro _ v1 ⟨rfl,hS1,hD1⟩
    have hC1:Chg (·=R) W v1:=hCX.trans hD1 (fun _ _ h=>h)
    have hT1:v1.heap[T]? =some (.cells #[.int .i64 0,.int .i64 0,.int .i64 0,.int .i64 0,.string ⟨#[]⟩,.string ⟨#[]⟩,.slice none 0 0] 212 (0,0)):=(hD1.block T hTlX (by show T≠R;omega)).trans hTX
    have hTl1:T<v1.heap.size:=by have:=hD1.size;omega
  refine ⟨_,rfl,?_⟩
  refine keepAnd ?_ (fun hNew=>?_)
  ·intro _;trivial
  have hNew:=hNew (by decide)
  clear hHeld
  have hHeld:=hNew
  clear hNew
  simp only [aP]
  refine fork1 7 (by kernel_rfl) ?_
  first
   |guard_hyp zT26:Tg 1
    refine fC 7 23 ?_
   |refine fC 7 20 ?_
  (with_reducible refine (K2 _ hS1 hC1).mono ?_)
  first
   |guard_hyp zT26:Tg 1
    rintro _ v2_ ⟨rfl,hS2,hD2⟩
    have hC2:Chg (·=R) W v2_:=hC1.trans hD2 (fun _ _ h=>h)
    have hT2:=(hD2.block T hTl1 (by show T≠R;omega)).trans hT1
    have hTl2:T<v2_.heap.size:=by have:=hD2.size;omega
   |rintro _ v2 ⟨rfl,hS2,hD2⟩
    have hC2:Chg (·=R) W v2:=hC1.trans hD2 (fun _ _ h=>h)
    have hT2:v2.heap[T]? =some (.cells #[.int .i64 0,.int .i64 0,.int .i64 0,.int .i64 0,.string ⟨#[]⟩,.string ⟨#[]⟩,.slice none 0 0] 212 (0,0)):=(hD2.block T hTl1 (by show T≠R;omega)).trans hT1
    have hTl2:T<v2.heap.size:=by have:=hD2.size;omega
  refine ⟨_,rfl,?_⟩
  refine keepAnd ?_ (fun hNew=>?_)
  ·intro _;trivial
  have hNew:=hNew (by decide)
  clear hHeld
  have hHeld:=hNew
  clear hNew
  simp only [aP]
  refine fork1 11 (by kernel_rfl) ?_
  first
   |guard_hyp zT26:Tg 1
    refine fC 11 27 ?_
   |refine fC 11 24 ?_
  (with_reducible refine (K3 _ hS2 hC2).mono ?_)
  first
   |guard_hyp zT26:Tg 1
    rintro _ v3_ ⟨rfl,hS3,hD3⟩
    have hC3:Chg (·=R) W v3_:=hC2.trans hD3 (fun _ _ h=>h)
    have hT3:=(hD3.block T hTl2 (by show T≠R;omega)).trans hT2
    have hTl3:T<v3_.heap.size:=by have:=hD3.size;omega
   |rintro _ v3 ⟨rfl,hS3,hD3⟩
    have hC3:Chg (·=R) W v3:=hC2.trans hD3 (fun _ _ h=>h)
    have hT3:v3.heap[T]? =some (.cells #[.int .i64 0,.int .i64 0,.int .i64 0,.int .i64 0,.string ⟨#[]⟩,.string ⟨#[]⟩,.slice none 0 0] 212 (0,0)):=(hD3.block T hTl2 (by show T≠R;omega)).trans hT2
    have hTl3:T<v3.heap.size:=by have:=hD3.size;omega
  refine ⟨_,rfl,?_⟩
  refine keepAnd ?_ (fun hNew=>?_)
  ·intro _;trivial
  have hNew:=hNew (by decide)
  clear hHeld
  have hHeld:=hNew
  clear hNew
  simp only [aP]
  refine fork1 15 (by kernel_rfl) ?_
  first
   |guard_hyp zT26:Tg 1
    refine fC 15 31 ?_
   |refine fC 15 28 ?_
  (with_reducible refine (K4 _ hS3 hC3).mono ?_)
  first
   |guard_hyp zT26:Tg 1
    rintro _ v4_ ⟨rfl,hS4,hD4⟩
    have hC4:Chg (·=R) W v4_:=hC3.trans hD4 (fun _ _ h=>h)
    have hT4:=(hD4.block T hTl3 (by show T≠R;omega)).trans hT3
    have hTl4:T<v4_.heap.size:=by have:=hD4.size;omega
   |rintro _ v4 ⟨rfl,hS4,hD4⟩
    have hC4:Chg (·=R) W v4:=hC3.trans hD4 (fun _ _ h=>h)
    have hT4:v4.heap[T]? =some (.cells #[.int .i64 0,.int .i64 0,.int .i64 0,.int .i64 0,.string ⟨#[]⟩,.string ⟨#[]⟩,.slice none 0 0] 212 (0,0)):=(hD4.block T hTl3 (by show T≠R;omega)).trans hT3
    have hTl4:T<v4.heap.size:=by have:=hD4.size;omega
  refine ⟨_,rfl,?_⟩
  refine keepAnd ?_ (fun hNew=>?_)
  ·intro _;trivial
  have hNew:=hNew (by decide)
  clear hHeld
  have hHeld:=hNew
  clear hNew
  simp only [aP]
  first
   |guard_hyp zT26:Tg 1
    refine tT 16 32 hHeld ?_
   |refine tT 16 29 hHeld ?_
  simp only [aP]
  first
   |guard_hyp zT26:Tg 1
    exact tl T v4_ hTW hTl4 hT4 hS4 hC4
   |exact tl T v4 hTW hTl4 hT4 hS4 hC4) : P := h ⟨⟩
theorem zq54 {P:Prop} (h:P:=by
 rw [hW]
 exact ((Below.of_alloc (w:=w.alloc (.cells #[.int .i64 lv] 3)) (.cells #[.int .i64 0,.int .i64 0,.int .i64 0,.int .i64 0,.string ⟨#[]⟩,.string ⟨#[]⟩,.slice none 0 0] 212)).block _ (by simp)).trans (heap_alloc_new _ _)) : P := h
theorem zq58 {P:Prop} (h:P:=by
 rw [hW]
 have h:=heap_alloc_new (w.alloc (.cells #[.int .i64 lv] 3)) (.cells #[.int .i64 0,.int .i64 0,.int .i64 0,.int .i64 0,.string ⟨#[]⟩,.string ⟨#[]⟩,.slice none 0 0] 212)
 simpa using h) : P := h
theorem decV_err {l:List UInt8} {k:Int} (h:(decV l k).2.2≠0):(decV l k).1=zeroV:=by
 revert h
 unfold decV
 split
 ·intro _;rfl
 ·cases l[k.toNat]? with
  |none=>intro _;rfl
  |some c=>
   simp only
   unfold decV1
   (repeat' split)<;>simp
theorem rdV_goV (l:List UInt8) (s:Int×Int):goV (rdV l s).1:=by
 unfold rdV rdS
 split
 ·simp [goV,zeroV,maxLen,ByteArray.size]
 ·have:goV (decV l s.1).1:=by
   by_cases h:(decV l s.1).2.2=0
   ·rcases hd:decV l s.1 with ⟨x,m,e⟩
    rw [hd] at h
    simp only at h
    subst h
    obtain ⟨_,_,_,_,_,hv⟩:=decV_got hd
    exact validV_goV hv
   ·rw [decV_err h];simp [goV,zeroV,maxLen,ByteArray.size]
  split<;>exact this
theorem rdT_size (l:List UInt8) (s:Int×Int):(rdT l s).1.size≤maxLen:=by
 unfold rdT rdS
 split
 ·simp [maxLen,ByteArray.size]
 ·have:(strB (decT l s.1 200).1).size≤maxLen:=by
   rw [strB_size]
   have:=decT_bd l s.1 200
   unfold maxLen
   rcases this with h|h
   ·have:=h.2.2.2.2;omega
   ·rw [h.2.1];simp
  split<;>exact this
theorem rdrExp0 (R:Nat) (v:Value) (l:List UInt8) (s:Int×Int) (lv:Int) (w:World) (h:SrcAt w R v s) (hlv:24<lv):
  Calls Tryz.prog 219 #[.pointer (some ⟨R,0,none⟩),.int .i64 lv] w (OneE (fun x:RE=>.agg x.enc.toArray) exAll RE.er R v (rdX l 0 s) w):=by
 obtain ⟨W,hW⟩:∃W,W=(w.alloc (.cells #[.int .i64 lv] 3)).alloc (.cells #[.int .i64 0,.int .i64 0,.int .i64 0,.int .i64 0,.string ⟨#[]⟩,.string ⟨#[]⟩,.slice none 0 0] 212):=⟨_,rfl⟩
 have hR:=h.lt
 have hbW:Below w.heap.size w W:=by rw [hW];exact (Below.of_alloc _).alloc (by simp) _
 have hWs:W.heap.size=w.heap.size+2:=by rw [hW];simp
 have hL:W.heap[w.heap.size]? =some (.cells #[.int .i64 lv] 3 (0,0)):=by
  exact zq54
 have hQ:W.heap[w.heap.size+1]? =some (.cells #[.int .i64 0,.int .i64 0,.int .i64 0,.int .i64 0,.string ⟨#[]⟩,.string ⟨#[]⟩,.slice none 0 0] 212 (0,0)):=by
  exact zq58
 have hS:SrcAt W R v s:=h.below hbW
 have f2:W.frozen? ⟨R,2,none⟩=false:=fW0 W R 2 _ _ hS
 have c2:W.cell? ⟨R,2,none⟩=some (.int .i64 s.2):=cW0 W R 2 _ _ _ hS
 have lc:W.cell? ⟨w.heap.size,0,none⟩=some (.int .i64 lv):=cW0 W _ 0 _ _ _ hL
 have hS2:SrcAt (W.setCell ⟨R,2,none⟩ (.int .i64 26)) R v (s.1,26):=hS.set2 26
 have hC2:Chg (·=R) W (W.setCell ⟨R,2,none⟩ (.int .i64 26)):=Chg.setCell (S:=(·=R)) (p:=⟨R,2,none⟩) (Chg.refl _ _) (.inl rfl) _
 have hQ2:(W.setCell ⟨R,2,none⟩ (.int .i64 26)).heap[w.heap.size+1]? =some (.cells #[.int .i64 0,.int .i64 0,.int .i64 0,.int .i64 0,.string ⟨#[]⟩,.string ⟨#[]⟩,.slice none 0 0] 212 (0,0)):=(hC2.block _ (by omega) (by show w.heap.size+1≠R;omega)).trans hQ
 have HS2:=hI0 hS2
 have HC2:=hI0 hC2
 have HQ2:=hI0 hQ2
 have HbW:=hI0 hbW
 go_enter Tryz.func219,Tryz.ntmps219
 go_upto_region 1 with (fail)
 rw [←hW]
 clear hW hS hS2 hC2 hQ2 hQ hL hbW h
 go_upto_region 3 with (fail)
 generalize W.setCell ⟨R,2,none⟩ (.int .i64 26)=V at *
 have p0:V.cell? ⟨w.heap.size+1,0,none⟩=some (.int .i64 0):=cW0 V _ 0 _ _ _ HQ2.out
 have p1:V.cell? ⟨w.heap.size+1,1,none⟩=some (.int .i64 0):=cW0 V _ 1 _ _ _ HQ2.out
 have p2:V.cell? ⟨w.heap.size+1,2,none⟩=some (.int .i64 0):=cW0 V _ 2 _ _ _ HQ2.out
 have p3:V.cell? ⟨w.heap.size+1,3,none⟩=some (.int .i64 0):=cW0 V _ 3 _ _ _ HQ2.out
 have p4:V.cell? ⟨w.heap.size+1,4,none⟩=some (.string ⟨#[]⟩):=cW0 V _ 4 _ _ _ HQ2.out
 have p5:V.cell? ⟨w.heap.size+1,5,none⟩=some (.string ⟨#[]⟩):=cW0 V _ 5 _ _ _ HQ2.out
 have p6:V.cell? ⟨w.heap.size+1,6,none⟩=some (.slice none 0 0):=cW0 V _ 6 _ _ _ HQ2.out
 have g0:V.frozen? ⟨w.heap.size+1,0,none⟩=false:=fW0 V _ 0 _ _ HQ2.out
 have g1:V.frozen? ⟨w.heap.size+1,1,none⟩=false:=fW0 V _ 1 _ _ HQ2.out
 have g2:V.frozen? ⟨w.heap.size+1,2,none⟩=false:=fW0 V _ 2 _ _ HQ2.out
 have g3:V.frozen? ⟨w.heap.size+1,3,none⟩=false:=fW0 V _ 3 _ _ HQ2.out
 have g4:V.frozen? ⟨w.heap.size+1,4,none⟩=false:=fW0 V _ 4 _ _ HQ2.out
 have g5:V.frozen? ⟨w.heap.size+1,5,none⟩=false:=fW0 V _ 5 _ _ HQ2.out
 have g6:V.frozen? ⟨w.heap.size+1,6,none⟩=false:=fW0 V _ 6 _ _ HQ2.out
 have hY:=set7_at HQ2.out (.int .i64 0) (.int .i64 0) (.int .i64 0) (.int .i64 0) (.string ⟨#[]⟩) (.string ⟨#[]⟩) (.slice none 0 0)
 have hYc:=set7_chg V (w.heap.size+1) (.int .i64 0) (.int .i64 0) (.int .i64 0) (.int .i64 0) (.string ⟨#[]⟩) (.string ⟨#[]⟩) (.slice none 0 0)
 have HY:=hI0 hY
 have HYC:=hI0 hYc
 clear hY hYc
 go_wp2_with fail
 generalize (((((((V.setCell ⟨w.heap.size+1,0,none⟩ (.int .i64 0)).setCell ⟨w.heap.size+1,1,none⟩ (.int .i64 0)).setCell ⟨w.heap.size+1,2,none⟩ (.int .i64 0)).setCell ⟨w.heap.size+1,3,none⟩ (.int .i64 0)).setCell ⟨w.heap.size+1,4,none⟩ (.string ⟨#[]⟩)).setCell ⟨w.heap.size+1,5,none⟩ (.string ⟨#[]⟩)).setCell ⟨w.heap.size+1,6,none⟩ (.slice none 0 0))=Y at *
 clear p0 g0 p1 g1 p2 g2 p3 g3 p4 g4 p5 g5 p6 g6
 have p0:Y.cell? ⟨w.heap.size+1,0,none⟩=some (.int .i64 0):=cW0 Y _ 0 _ _ _ HY.out
 have p1:Y.cell? ⟨w.heap.size+1,1,none⟩=some (.int .i64 0):=cW0 Y _ 1 _ _ _ HY.out
 have p2:Y.cell? ⟨w.heap.size+1,2,none⟩=some (.int .i64 0):=cW0 Y _ 2 _ _ _ HY.out
 have p3:Y.cell? ⟨w.heap.size+1,3,none⟩=some (.int .i64 0):=cW0 Y _ 3 _ _ _ HY.out
 have p4:Y.cell? ⟨w.heap.size+1,4,none⟩=some (.string ⟨#[]⟩):=cW0 Y _ 4 _ _ _ HY.out
 have p5:Y.cell? ⟨w.heap.size+1,5,none⟩=some (.string ⟨#[]⟩):=cW0 Y _ 5 _ _ _ HY.out
 have p6:Y.cell? ⟨w.heap.size+1,6,none⟩=some (.slice none 0 0):=cW0 Y _ 6 _ _ _ HY.out
 have hSY:SrcAt Y R v (s.1,26):=(HYC.out.block R HS2.out.lt (by show R≠w.heap.size+1;omega)).trans HS2.out
 have hCY:Chg (·=R) w Y:=((Chg.of_below HbW.out _).trans HC2.out (fun _ _ h=>h)).trans HYC.out (fun i hi (h:i=w.heap.size+1)=>by omega)
 exact bodyPost_ret (v:=.agg #[.int .i64 0,.int .i64 0,.int .i64 0,.int .i64 0,.string ⟨#[]⟩,.string ⟨#[]⟩,.slice none 0 0]) (by simp [results,Tryz.results219,go_sem,p0,p1,p2,p3,p4,p5,p6]) rfl ⟨.mk 0 0 zeroV ⟨#[]⟩ none 0 [],rfl,(fun d=>by cases d with|zero=>trivial|succ d=>exact ⟨Rd.nil _ _ _,by simp [goV,zeroV,maxLen,ByteArray.size],by simp [maxLen,ByteArray.size],fun a ha=>by cases ha⟩),by simp [RE.er_mk,rdX],hSY,hCY⟩
theorem rdrClo (R:Nat) (LB:Nat) (lv:Int) (d:Nat) (v:Value) (l:List UInt8) (s:Int×Int) (w:World) (h:SrcAt w R v s) (hv:RdB w (·<R) v l) (hL:w.cell? ⟨LB,0,none⟩=some (.int .i64 lv)) (hLB:LB<w.heap.size) (hlv:lv≤24) (hlv0:0≤lv)
  (KR:∀V,SrcAt V R v s→RdB V (·<R) v l→Calls Tryz.prog 219 #[.pointer (some ⟨R,0,none⟩),.int .i64 (lv+1)] V (OneE (fun x:RE=>.agg x.enc.toArray) exAll RE.er R v (rdX l d s) V)):
  Calls Tryz.prog 244 #[.pointer (some ⟨R,0,none⟩),.pointer (some ⟨LB,0,none⟩)] w (OneE (fun x:RE=>.agg x.enc.toArray) exAll RE.er R v (rdX l d s) w):=by
 exact zq11 0
theorem rdrTop (R:Nat) (v:Value) (l:List UInt8) (s:Int×Int) (w:World) (h:SrcAt w R v s) (hv:RdB w (·<R) v l)
  (KR:∀V,SrcAt V R v s→RdB V (·<R) v l→Calls Tryz.prog 219 #[.pointer (some ⟨R,0,none⟩),.int .i64 (1)] V (OneE (fun x:RE=>.agg x.enc.toArray) exAll RE.er R v (rdX l 24 s) V)):
  Calls Tryz.prog 218 #[.pointer (some ⟨R,0,none⟩)] w (OneE (fun x:RE=>.agg x.enc.toArray) exAll RE.er R v (rdX l 24 s) w):=by
 exact zq11 1
theorem rdrExp1 (R:Nat) (v:Value) (l:List UInt8) (s:Int×Int) (lv:Int) (d:Nat) (w:World) (h:SrcAt w R v s) (hv:RdB w (·<R) v l) (hl:l.length≤10000000000) (hlv:lv≤24) (hlv0:0≤lv)
  (KR:∀s V,SrcAt V R v s→RdB V (·<R) v l→Calls Tryz.prog 219 #[.pointer (some ⟨R,0,none⟩),.int .i64 (lv+1)] V (OneE (fun x:RE=>.agg x.enc.toArray) exAll RE.er R v (rdX l d s) V)):
  Calls Tryz.prog 219 #[.pointer (some ⟨R,0,none⟩),.int .i64 lv] w (OneE (fun x:RE=>.agg x.enc.toArray) exAll RE.er R v (rdX l (d+1) s) w):=by
 rcases h1:rdI l s with ⟨n1,s1⟩
 rcases h2:rdI l s1 with ⟨n2,s2⟩
 rcases h3:rdV l s2 with ⟨⟨k3,i3,t3⟩,s3⟩
 rcases h4:rdT l s3 with ⟨n4,s4⟩
 rcases h5:rdL l (rdX l d) s4 with ⟨xs5,s5⟩
 have hd:rdX l (d+1) s=(.mk n1 n2 ⟨k3,i3,t3⟩ n4 none 0 xs5,s5):=by simp only [rdX,h1,h2,h3,h4,h5]
 have hg3:goV ⟨k3,i3,t3⟩:=by
  have e:(⟨k3,i3,t3⟩:Val)=(rdV l s2).1:=by rw [h3]
  rw [e];exact rdV_goV l s2
 have hg4:n4.size≤maxLen:=by
  have e:n4=(rdT l s3).1:=by rw [h4]
  rw [e];exact rdT_size l s3
 rw [hd]
 obtain ⟨W,hW⟩:∃W,W=(w.alloc (.cells #[.int .i64 lv] 3)).alloc (.cells #[.int .i64 0,.int .i64 0,.int .i64 0,.int .i64 0,.string ⟨#[]⟩,.string ⟨#[]⟩,.slice none 0 0] 212):=⟨_,rfl⟩
 have hR:=h.lt
 have hbW:Below w.heap.size w W:=by rw [hW];exact (Below.of_alloc _).alloc (by simp) _
 have hWs:W.heap.size=w.heap.size+2:=by rw [hW];simp
 have hL:W.heap[w.heap.size]? =some (.cells #[.int .i64 lv] 3 (0,0)):=by
  exact zq54
 have hQ:W.heap[w.heap.size+1]? =some (.cells #[.int .i64 0,.int .i64 0,.int .i64 0,.int .i64 0,.string ⟨#[]⟩,.string ⟨#[]⟩,.slice none 0 0] 212 (0,0)):=by
  exact zq58
 have lc:W.cell? ⟨w.heap.size,0,none⟩=some (.int .i64 lv):=cW0 W _ 0 _ _ _ hL
 have hS0:SrcAt W.drew R v s:=(h.below hbW).below (Below.refl _ _).drew
 have hC0:Chg (·=R) W W.drew:=(Chg.refl _ _).drew
 have hvW:∀V,Chg (·=R) W V→RdB V (·<R) v l:=fun V hV=>Rd.keep hv (fun b (hb:b<R)=>(hV.block b (by omega) (by omega)).trans (hbW.block b (by omega)))
 have K1:∀V,SrcAt V R v s→Chg (·=R) W V→Calls Tryz.prog 60 #[.pointer (some ⟨R,0,none⟩)] V fun x w'=>x=.returned (.int .i64 n1)∧SrcAt w' R v s1∧Chg (·=R) V w':=fun V hs hV=>by
  have k:=srcInt_any R v l s V hs (hvW V hV)
  rw [h1] at k
  exact k
 have K2:∀V,SrcAt V R v s1→Chg (·=R) W V→Calls Tryz.prog 60 #[.pointer (some ⟨R,0,none⟩)] V fun x w'=>x=.returned (.int .i64 n2)∧SrcAt w' R v s2∧Chg (·=R) V w':=fun V hs hV=>by
  exact zq72
 have K3:∀V,SrcAt V R v s2→Chg (·=R) W V→Calls Tryz.prog 164 #[.pointer (some ⟨R,0,none⟩)] V fun x w'=>x=.returned (.agg #[.int .i64 k3,.int .i64 i3,.string t3])∧SrcAt w' R v s3∧Chg (·=R) V w':=fun V hs hV=>by
  have k:=srcValue_any R v l s2 V hs (hvW V hV)
  rw [h3] at k
  exact k
 have K4:∀V,SrcAt V R v s3→Chg (·=R) W V→Calls Tryz.prog 122 #[.pointer (some ⟨R,0,none⟩)] V fun x w'=>x=.returned (.string n4)∧SrcAt w' R v s4∧Chg (·=R) V w':=fun V hs hV=>by
  have k:=srcText_any R v l s3 V hs (hvW V hV)
  rw [h4] at k
  exact k
 have K5:∀V,SrcAt V R v s4→Chg (·=R) W V→Calls Tryz.prog 217 #[.pointer (some ⟨R,0,none⟩),.func (.func 244) #[] #[.pointer (some ⟨w.heap.size,0,none⟩)]] V (GetE 7 RE.enc exAll RE.er R v (xs5,s5) V):=fun V hs hV=>by
  have k:=getExpC_any R w.heap.size v l (rdX l d) 244 (entF Tryz.func244) s4 V hs (hvW V hV) hl (mon_X d) (fun s U hsU hU=>rdrClo R w.heap.size lv d v l s U hsU (hvW U (hV.trans hU (fun _ _ h=>h))) ((World.cell?_of_block (((hV.trans hU (fun _ _ h=>h))).block w.heap.size (by omega) (by show w.heap.size≠R;omega))).trans lc) (by have:=hV.size;have:=hU.size;omega) hlv hlv0 (fun X hsX hvX=>KR s X hsX hvX))
  rw [h5] at k
  exact k
 have HQ:=hI0 hQ
 have HbW:=hI0 hbW
 have hmf:∀(fn:Fn) (first cap:Array Value) (w:World),(Instr.makeFunc fn first cap).run Tryz.prog w=.ok (.func fn first cap) w:=fun _ _ _ _=>rfl
 clear h hv hd hvW hQ hbW h1 h2 h3 h4 h5 KR
 go_enter Tryz.func219,Tryz.ntmps219
 go_upto_region 1 with (fail)
 rw [←hW]
 clear hW
 have hlv2:¬ 24<lv:=by omega
 go_upto_region 4 with (fail)
 refine (fun (tl:∀(T:Nat) (V:World),W.heap.size≤T→T<V.heap.size→V.heap[T]? =some (.cells #[.int .i64 0,.int .i64 0,.int .i64 0,.int .i64 0,.string ⟨#[]⟩,.string ⟨#[]⟩,.slice none 0 0] 212 (0,0))→SrcAt V R v s4→Chg (·=R) W V→(?Rest:Nat→World→Prop) T V)=>?leaves) ?tail
 case leaves=>
  exact zq26 0
 case tail=>
  intro T V hTW hTlV hTV hSV hCV
  refine fork1 18 (by kernel_rfl) ?_
  refine skipRunF 18 none (w':=(((((((V.setCell ⟨T,0,none⟩ (.int .i64 n1)).setCell ⟨T,1,none⟩ (.int .i64 n2)).setCell ⟨T,2,none⟩ (.int .i64 k3)).setCell ⟨T,3,none⟩ (.int .i64 i3)).setCell ⟨T,4,none⟩ (.string t3)).setCell ⟨T,5,none⟩ (.string n4)).setCell ⟨T,6,none⟩ (.slice none 0 0))) rfl rfl (by rfl) ?_ ?_
  ·have p0:V.cell? ⟨T,0,none⟩=some (.int .i64 0):=cW0 V _ 0 _ _ _ hTV;have p1:V.cell? ⟨T,1,none⟩=some (.int .i64 0):=cW0 V _ 1 _ _ _ hTV;have p2:V.cell? ⟨T,2,none⟩=some (.int .i64 0):=cW0 V _ 2 _ _ _ hTV;have p3:V.cell? ⟨T,3,none⟩=some (.int .i64 0):=cW0 V _ 3 _ _ _ hTV;have p4:V.cell? ⟨T,4,none⟩=some (.string ⟨#[]⟩):=cW0 V _ 4 _ _ _ hTV;have p5:V.cell? ⟨T,5,none⟩=some (.string ⟨#[]⟩):=cW0 V _ 5 _ _ _ hTV;have p6:V.cell? ⟨T,6,none⟩=some (.slice none 0 0):=cW0 V _ 6 _ _ _ hTV;have g0:V.frozen? ⟨T,0,none⟩=false:=fW0 V _ 0 _ _ hTV;have g1:V.frozen? ⟨T,1,none⟩=false:=fW0 V _ 1 _ _ hTV;have g2:V.frozen? ⟨T,2,none⟩=false:=fW0 V _ 2 _ _ hTV;have g3:V.frozen? ⟨T,3,none⟩=false:=fW0 V _ 3 _ _ hTV;have g4:V.frozen? ⟨T,4,none⟩=false:=fW0 V _ 4 _ _ hTV;have g5:V.frozen? ⟨T,5,none⟩=false:=fW0 V _ 5 _ _ hTV;have g6:V.frozen? ⟨T,6,none⟩=false:=fW0 V _ 6 _ _ hTV;go_simp<;>with_reducible rfl
  have hTY:=set7_at hTV (.int .i64 n1) (.int .i64 n2) (.int .i64 k3) (.int .i64 i3) (.string t3) (.string n4) (.slice none 0 0)
  have hYc:=set7_chg V T (.int .i64 n1) (.int .i64 n2) (.int .i64 k3) (.int .i64 i3) (.string t3) (.string n4) (.slice none 0 0)
  generalize (((((((V.setCell ⟨T,0,none⟩ (.int .i64 n1)).setCell ⟨T,1,none⟩ (.int .i64 n2)).setCell ⟨T,2,none⟩ (.int .i64 k3)).setCell ⟨T,3,none⟩ (.int .i64 i3)).setCell ⟨T,4,none⟩ (.string t3)).setCell ⟨T,5,none⟩ (.string n4)).setCell ⟨T,6,none⟩ (.slice none 0 0))=Y at *
  have hzY:=hYc.size
  have hCY:Chg (·=R) W Y:=hCV.trans hYc (fun i hi (h:i=T)=>by omega)
  have hSY:SrcAt Y R v s4:=(hYc.block R hSV.lt (by show R≠T;omega)).trans hSV
  have hTl:T<Y.heap.size:=by omega
  clear hYc hTV hSV hCV hTlV
  refine ⟨fun h=>absurd rfl h,?_⟩
  simp only [Act.put]
  refine doneT (by kernel_rfl) ?_ _
  refine NoPanic.normal ?_
  clear K1 K2 K3 K4
  have K5Y:=K5 Y hSY hCY
  have hQY:Y.heap[w.heap.size+1]? =some (.cells #[.int .i64 0,.int .i64 0,.int .i64 0,.int .i64 0,.string ⟨#[]⟩,.string ⟨#[]⟩,.slice none 0 0] 212 (0,0)):=(hCY.block _ (by omega) (by show w.heap.size+1≠R;omega)).trans HQ.out
  have HTY:=hI0 hTY
  have HSY:=hI0 hSY
  have HCY:=hI0 hCY
  have HQY:=hI0 hQY
  clear hTY hSY hCY hQY K5
  go_wp2_with fail
  (with_reducible refine K5Y.mono ?_)
  rintro _ v5 ⟨u5,Q5,rfl,hU5,hI5,hE5,hS5,hD5⟩
  obtain ⟨A5,c5,rfl⟩:=rdE_slice hU5
  have hz5:=hD5.size
  have hT5:v5.heap[T]? =some (.cells #[.int .i64 n1,.int .i64 n2,.int .i64 k3,.int .i64 i3,.string t3,.string n4,.slice none 0 0] 212 (0,0)):=(hD5.block T hTl (by show T≠R;omega)).trans HTY.out
  have hzY:=HCY.out.size
  have hQ5:v5.heap[w.heap.size+1]? =some (.cells #[.int .i64 0,.int .i64 0,.int .i64 0,.int .i64 0,.string ⟨#[]⟩,.string ⟨#[]⟩,.slice none 0 0] 212 (0,0)):=(hD5.block _ (by omega) (by show w.heap.size+1≠R;omega)).trans HQY.out
  have p0:v5.cell? ⟨T,0,none⟩=some (.int .i64 n1):=cW0 v5 _ 0 _ _ _ hT5
  have p1:v5.cell? ⟨T,1,none⟩=some (.int .i64 n2):=cW0 v5 _ 1 _ _ _ hT5
  have p2:v5.cell? ⟨T,2,none⟩=some (.int .i64 k3):=cW0 v5 _ 2 _ _ _ hT5
  have p3:v5.cell? ⟨T,3,none⟩=some (.int .i64 i3):=cW0 v5 _ 3 _ _ _ hT5
  have p4:v5.cell? ⟨T,4,none⟩=some (.string t3):=cW0 v5 _ 4 _ _ _ hT5
  have p5:v5.cell? ⟨T,5,none⟩=some (.string n4):=cW0 v5 _ 5 _ _ _ hT5
  have p6:v5.cell? ⟨T,6,none⟩=some (.slice none 0 0):=cW0 v5 _ 6 _ _ _ hT5
  have g6:v5.frozen? ⟨T,6,none⟩=false:=fW0 v5 _ 6 _ _ hT5
  have q0:v5.cell? ⟨w.heap.size+1,0,none⟩=some (.int .i64 0):=cW0 v5 _ 0 _ _ _ hQ5
  have q1:v5.cell? ⟨w.heap.size+1,1,none⟩=some (.int .i64 0):=cW0 v5 _ 1 _ _ _ hQ5
  have q2:v5.cell? ⟨w.heap.size+1,2,none⟩=some (.int .i64 0):=cW0 v5 _ 2 _ _ _ hQ5
  have q3:v5.cell? ⟨w.heap.size+1,3,none⟩=some (.int .i64 0):=cW0 v5 _ 3 _ _ _ hQ5
  have q4:v5.cell? ⟨w.heap.size+1,4,none⟩=some (.string ⟨#[]⟩):=cW0 v5 _ 4 _ _ _ hQ5
  have q5:v5.cell? ⟨w.heap.size+1,5,none⟩=some (.string ⟨#[]⟩):=cW0 v5 _ 5 _ _ _ hQ5
  have q6:v5.cell? ⟨w.heap.size+1,6,none⟩=some (.slice none 0 0):=cW0 v5 _ 6 _ _ _ hQ5
  have z0:v5.frozen? ⟨w.heap.size+1,0,none⟩=false:=fW0 v5 _ 0 _ _ hQ5
  have z1:v5.frozen? ⟨w.heap.size+1,1,none⟩=false:=fW0 v5 _ 1 _ _ hQ5
  have z2:v5.frozen? ⟨w.heap.size+1,2,none⟩=false:=fW0 v5 _ 2 _ _ hQ5
  have z3:v5.frozen? ⟨w.heap.size+1,3,none⟩=false:=fW0 v5 _ 3 _ _ hQ5
  have z4:v5.frozen? ⟨w.heap.size+1,4,none⟩=false:=fW0 v5 _ 4 _ _ hQ5
  have z5:v5.frozen? ⟨w.heap.size+1,5,none⟩=false:=fW0 v5 _ 5 _ _ hQ5
  have z6:v5.frozen? ⟨w.heap.size+1,6,none⟩=false:=fW0 v5 _ 6 _ _ hQ5
  have HU5:=hI0 hU5
  have HI5:=hI0 hI5
  have HE5:=hI0 hE5
  have HS5:=hI0 hS5
  have HD5:=hI0 hD5
  have HQ5:=hI0 hQ5
  have HT5:=hI0 hT5
  clear hU5 hI5 hE5 hS5 hD5 hQ5 hT5 K5Y
  go_upto_region 6 with (fail)
  have hTZ:=heap_setCell_same v5 T 6 _ _ (.slice A5 Q5.length c5) HT5.out
  have hTZ:(v5.setCell ⟨T,6,none⟩ (.slice A5 Q5.length c5)).heap[T]? =some (.cells #[.int .i64 n1,.int .i64 n2,.int .i64 k3,.int .i64 i3,.string t3,.string n4,.slice A5 Q5.length c5] 212 (0,0)):=by simpa using hTZ
  have hZc:Chg (·=T) v5 (v5.setCell ⟨T,6,none⟩ (.slice A5 Q5.length c5)):=Chg.setCell (S:=(·=T)) (p:=⟨T,6,none⟩) (Chg.refl _ _) (.inl rfl) _
  have hQZ:=(hZc.block _ (Array.getElem?_eq_some_iff.1 HQ5.out).1 (by show w.heap.size+1≠T;omega)).trans HQ5.out
  have hSZ:SrcAt (v5.setCell ⟨T,6,none⟩ (.slice A5 Q5.length c5)) R v s5:=(hZc.block R HS5.out.lt (by show R≠T;omega)).trans HS5.out
  clear p0 q0 z0 p1 q1 z1 p2 q2 z2 p3 q3 z3 p4 q4 z4 p5 q5 z5 p6 q6 z6 g6
  generalize v5.setCell ⟨T,6,none⟩ (.slice A5 Q5.length c5)=Z at *
  have hzZ:=hZc.size
  have p0:Z.cell? ⟨T,0,none⟩=some (.int .i64 n1):=cW0 Z _ 0 _ _ _ hTZ
  have p1:Z.cell? ⟨T,1,none⟩=some (.int .i64 n2):=cW0 Z _ 1 _ _ _ hTZ
  have p2:Z.cell? ⟨T,2,none⟩=some (.int .i64 k3):=cW0 Z _ 2 _ _ _ hTZ
  have p3:Z.cell? ⟨T,3,none⟩=some (.int .i64 i3):=cW0 Z _ 3 _ _ _ hTZ
  have p4:Z.cell? ⟨T,4,none⟩=some (.string t3):=cW0 Z _ 4 _ _ _ hTZ
  have p5:Z.cell? ⟨T,5,none⟩=some (.string n4):=cW0 Z _ 5 _ _ _ hTZ
  have p6:Z.cell? ⟨T,6,none⟩=some (.slice A5 Q5.length c5):=cW0 Z _ 6 _ _ _ hTZ
  have q0:Z.cell? ⟨w.heap.size+1,0,none⟩=some (.int .i64 0):=cW0 Z _ 0 _ _ _ hQZ
  have q1:Z.cell? ⟨w.heap.size+1,1,none⟩=some (.int .i64 0):=cW0 Z _ 1 _ _ _ hQZ
  have q2:Z.cell? ⟨w.heap.size+1,2,none⟩=some (.int .i64 0):=cW0 Z _ 2 _ _ _ hQZ
  have q3:Z.cell? ⟨w.heap.size+1,3,none⟩=some (.int .i64 0):=cW0 Z _ 3 _ _ _ hQZ
  have q4:Z.cell? ⟨w.heap.size+1,4,none⟩=some (.string ⟨#[]⟩):=cW0 Z _ 4 _ _ _ hQZ
  have q5:Z.cell? ⟨w.heap.size+1,5,none⟩=some (.string ⟨#[]⟩):=cW0 Z _ 5 _ _ _ hQZ
  have q6:Z.cell? ⟨w.heap.size+1,6,none⟩=some (.slice none 0 0):=cW0 Z _ 6 _ _ _ hQZ
  have z0:Z.frozen? ⟨w.heap.size+1,0,none⟩=false:=fW0 Z _ 0 _ _ hQZ
  have z1:Z.frozen? ⟨w.heap.size+1,1,none⟩=false:=fW0 Z _ 1 _ _ hQZ
  have z2:Z.frozen? ⟨w.heap.size+1,2,none⟩=false:=fW0 Z _ 2 _ _ hQZ
  have z3:Z.frozen? ⟨w.heap.size+1,3,none⟩=false:=fW0 Z _ 3 _ _ hQZ
  have z4:Z.frozen? ⟨w.heap.size+1,4,none⟩=false:=fW0 Z _ 4 _ _ hQZ
  have z5:Z.frozen? ⟨w.heap.size+1,5,none⟩=false:=fW0 Z _ 5 _ _ hQZ
  have z6:Z.frozen? ⟨w.heap.size+1,6,none⟩=false:=fW0 Z _ 6 _ _ hQZ
  have hE:=set7_at hQZ (.int .i64 n1) (.int .i64 n2) (.int .i64 k3) (.int .i64 i3) (.string t3) (.string n4) (.slice A5 Q5.length c5)
  have hEc:=set7_chg Z (w.heap.size+1) (.int .i64 n1) (.int .i64 n2) (.int .i64 k3) (.int .i64 i3) (.string t3) (.string n4) (.slice A5 Q5.length c5)
  have HE:=hI0 hE
  have HEc:=hI0 hEc
  have HSZ:=hI0 hSZ
  have HZc:=hI0 hZc
  clear hTZ hQZ hE hEc hSZ hZc
  go_wp2_with fail
  clear p0 q0 z0 p1 q1 z1 p2 q2 z2 p3 q3 z3 p4 q4 z4 p5 q5 z5 p6 q6 z6
  generalize (((((((Z.setCell ⟨w.heap.size+1,0,none⟩ (.int .i64 n1)).setCell ⟨w.heap.size+1,1,none⟩ (.int .i64 n2)).setCell ⟨w.heap.size+1,2,none⟩ (.int .i64 k3)).setCell ⟨w.heap.size+1,3,none⟩ (.int .i64 i3)).setCell ⟨w.heap.size+1,4,none⟩ (.string t3)).setCell ⟨w.heap.size+1,5,none⟩ (.string n4)).setCell ⟨w.heap.size+1,6,none⟩ (.slice A5 Q5.length c5))=E at *
  have p0:E.cell? ⟨w.heap.size+1,0,none⟩=some (.int .i64 n1):=cW0 E _ 0 _ _ _ HE.out
  have p1:E.cell? ⟨w.heap.size+1,1,none⟩=some (.int .i64 n2):=cW0 E _ 1 _ _ _ HE.out
  have p2:E.cell? ⟨w.heap.size+1,2,none⟩=some (.int .i64 k3):=cW0 E _ 2 _ _ _ HE.out
  have p3:E.cell? ⟨w.heap.size+1,3,none⟩=some (.int .i64 i3):=cW0 E _ 3 _ _ _ HE.out
  have p4:E.cell? ⟨w.heap.size+1,4,none⟩=some (.string t3):=cW0 E _ 4 _ _ _ HE.out
  have p5:E.cell? ⟨w.heap.size+1,5,none⟩=some (.string n4):=cW0 E _ 5 _ _ _ HE.out
  have p6:E.cell? ⟨w.heap.size+1,6,none⟩=some (.slice A5 Q5.length c5):=cW0 E _ 6 _ _ _ HE.out
  have hzE:=HEc.out.size
  have hk:∀b,Y.heap.size≤b∧b<v5.heap.size→E.heap[b]? =v5.heap[b]? :=fun b hb=>(HEc.out.block b (by omega) (by show b≠w.heap.size+1;omega)).trans (HZc.out.block b hb.2 (by show b≠T;omega))
  have hw:∀b,Y.heap.size≤b∧b<v5.heap.size→w.heap.size≤b∧b<E.heap.size:=fun b hb=>⟨by omega,by omega⟩
  have hU:=Rd.wide (Rd.keep HU5.out hk) hw
  have hI:∀p∈Q5,exAll E (fun b=>w.heap.size≤b∧b<E.heap.size) p:=fun p hp=>isK_X.wide (isK_X.keep (HI5.out p hp) hk) hw
  have hSE:SrcAt E R v s5:=(HEc.out.block R HSZ.out.lt (by show R≠w.heap.size+1;omega)).trans HSZ.out
  have hCE:Chg (·=R) w E:=(((Chg.of_below HbW.out _).trans (HCY.out.trans HD5.out (fun _ _ h=>h)) (fun _ _ h=>h)).trans HZc.out (fun i hi (h:i=T)=>by omega)).trans HEc.out (fun i hi (h:i=w.heap.size+1)=>by omega)
  exact bodyPost_ret (v:=.agg #[.int .i64 n1,.int .i64 n2,.int .i64 k3,.int .i64 i3,.string t3,.string n4,.slice A5 Q5.length c5]) (by simp [results,Tryz.results219,go_sem,p0,p1,p2,p3,p4,p5,p6]) rfl ⟨.mk n1 n2 ⟨k3,i3,t3⟩ n4 A5 c5 Q5,rfl,(fun d=>by cases d with|zero=>trivial|succ d=>exact ⟨hU,hg3,hg4,fun a ha=>hI a ha d⟩),by rw [RE.er_mk,HE5.out],hSE,hCE⟩
theorem rdrExp_any:∀(d:Nat) (R:Nat) (v:Value) (l:List UInt8) (s:Int×Int) (lv:Int) (w:World),l.length≤10000000000→1≤lv→lv+d=25→SrcAt w R v s→RdB w (·<R) v l→
  Calls Tryz.prog 219 #[.pointer (some ⟨R,0,none⟩),.int .i64 lv] w (OneE (fun x:RE=>.agg x.enc.toArray) exAll RE.er R v (rdX l d s) w):=by
 intro d
 induction d with
 |zero=>intro R v l s lv w _ _ hlv h _;exact rdrExp0 R v l s lv w h (by omega)
 |succ d ih=>intro R v l s lv w hl h0 hlv h hv;exact rdrExp1 R v l s lv d w h hv hl (by omega) (by omega) (fun s V hs hvV=>ih R v l s (lv+1) V hl (by omega) (by omega) hs hvV)
theorem rdrTop_any (R:Nat) (v:Value) (l:List UInt8) (s:Int×Int) (w:World) (h:SrcAt w R v s) (hv:RdB w (·<R) v l) (hl:l.length≤10000000000):
  Calls Tryz.prog 218 #[.pointer (some ⟨R,0,none⟩)] w (OneE (fun x:RE=>.agg x.enc.toArray) exAll RE.er R v (rdX l 24 s) w):=
 rdrTop R v l s w h hv (fun V hs hvV=>rdrExp_any 24 R v l s 1 V hl (by omega) (by omega) hs hvV)
end Go.Proofs.YtbfdegkickjbpaaGreat
