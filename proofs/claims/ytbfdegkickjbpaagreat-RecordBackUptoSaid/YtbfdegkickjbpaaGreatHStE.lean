/-
 StE
-/
import Derived.Test.YtbfdegkickjbpaaGreatHSmP
import Derived.Test.YtbfdegkickjbpaaGreatHStC
import Derived.Test.YtbfdegkickjbpaaGreatHVerJr
namespace Go.Proofs.YtbfdegkickjbpaaGreat
set_option maxRecDepth 1000000
set_option maxHeartbeats 32000000
open Go.RowKit Go.Lib Go.IntWalk Go.Sort Go.Shelf
theorem vers_er {x y:RTv} (h:x.er=y.er):x.vers.map (·.2)=y.vers.map (·.2):=by
 have a:(x.vers.map verEr).map (·.2)=(y.vers.map verEr).map (·.2):=congrArg (fun z:RTv=>z.vers.map (·.2)) h
 rw [List.map_map,List.map_map] at a
 exact a
theorem likeState_any (x y:RSt) (hxy:x.er=y.er) (w:World) (hx:x.is w (·<w.heap.size)) (hy:y.is w (·<w.heap.size)) (kx:∀n∈x.ents,∀e∈n.create.chks,exAll w (·<w.heap.size) e) (ky:∀n∈y.ents,∀e∈n.create.chks,exAll w (·<w.heap.size) e):
  Calls Tryz.prog 23 #[.agg (RSt.enc x).toArray,.agg (RSt.enc y).toArray] w (TrB w):=by
 obtain ⟨xtx,xtm,xwl,xnx,xeA,xeC,xents,xsA,xsC,xstms,xtA,xtC,xtabs,xpA,xpC,xpla,xqA,xqC,xpol,xhA,xhC,xhor⟩:=x
 obtain ⟨ytx,ytm,ywl,ynx,yeA,yeC,yents,ysA,ysC,ystms,ytA,ytC,ytabs,ypA,ypC,ypla,yqA,yqC,ypol,yhA,yhC,yhor⟩:=y
 simp only [RSt.er,RSt.mk.injEq,true_and] at hxy
 obtain ⟨rfl,rfl,rfl,rfl,hL5,rfl,hL1,rfl,rfl,rfl⟩:=hxy
 show Calls Tryz.prog 23 #[.agg #[.int .i64 xtx,.int .i64 xtm,.int .i64 xwl,.int .i64 xnx,.slice xeA xents.length xeC,.slice xsA xstms.length xsC,.slice xtA xtabs.length xtC,.slice xpA xpla.length xpC,.slice xqA xpol.length xqC,.slice xhA xhor.length xhC],.agg #[.int .i64 xtx,.int .i64 xtm,.int .i64 xwl,.int .i64 xnx,.slice yeA yents.length yeC,.slice ysA xstms.length ysC,.slice ytA ytabs.length ytC,.slice ypA xpla.length ypC,.slice yqA xpol.length yqC,.slice yhA xhor.length yhC]] w (TrB w)
 have f1:RdE 2 Stm.enc w (·<w.heap.size) (.slice xsA xstms.length xsC) xstms:=hx.stms
 have g1:RdE 2 Stm.enc w (·<w.heap.size) (.slice ysA xstms.length ysC) xstms:=hy.stms
 have q1:=RdE.bd f1
 have r1:=RdE.bd g1
 have Hx1:=hI0 f1
 have Hy1:=hI0 g1
 have f2:RdE 2 RTv.enc w (·<w.heap.size) (.slice xtA xtabs.length xtC) xtabs:=hx.tabs
 have g2:RdE 2 RTv.enc w (·<w.heap.size) (.slice ytA ytabs.length ytC) ytabs:=hy.tabs
 have q2:=RdE.bd f2
 have r2:=RdE.bd g2
 have Hx2:=hI0 f2
 have Hy2:=hI0 g2
 have HL1:=hI0 hL1
 have HL5:=hI0 hL5
 have ss1:((xstms.length:Int) != (xstms.length:Int))=false:=by simp
 have ss2:((xtabs.length:Int) != (ytabs.length:Int))=false:=by have:=er_len HL1.out;simp [this]
 have HXI:=hI0 hx
 have HYI:=hI0 hy
 have HKX:=hI0 kx
 have HKY:=hI0 ky
 clear hx hy kx ky f1 f2 g1 g2 hL1 hL5
 obtain ⟨W,hW⟩:∃W,W=(w.alloc (.cells #[.int .i64 xtx,.int .i64 xtm,.int .i64 xwl,.int .i64 xnx,.slice xeA xents.length xeC,.slice xsA xstms.length xsC,.slice xtA xtabs.length xtC,.slice xpA xpla.length xpC,.slice xqA xpol.length xqC,.slice xhA xhor.length xhC] 47)).alloc (.cells #[.int .i64 xtx,.int .i64 xtm,.int .i64 xwl,.int .i64 xnx,.slice yeA yents.length yeC,.slice ysA xstms.length ysC,.slice ytA ytabs.length ytC,.slice ypA xpla.length ypC,.slice yqA xpol.length yqC,.slice yhA xhor.length yhC] 47):=⟨_,rfl⟩
 have hbW:Below w.heap.size w W:=by rw [hW];exact (Below.of_alloc _).alloc (by simp) _
 have hWs:w.heap.size+1<W.heap.size:=by rw [hW];simp
 have hT:W.heap[w.heap.size]? =some (.cells #[.int .i64 xtx,.int .i64 xtm,.int .i64 xwl,.int .i64 xnx,.slice xeA xents.length xeC,.slice xsA xstms.length xsC,.slice xtA xtabs.length xtC,.slice xpA xpla.length xpC,.slice xqA xpol.length xqC,.slice xhA xhor.length xhC] 47 (0,0)):=by
  rw [hW]
  exact ((Below.of_alloc (w:=w.alloc (.cells #[.int .i64 xtx,.int .i64 xtm,.int .i64 xwl,.int .i64 xnx,.slice xeA xents.length xeC,.slice xsA xstms.length xsC,.slice xtA xtabs.length xtC,.slice xpA xpla.length xpC,.slice xqA xpol.length xqC,.slice xhA xhor.length xhC] 47)) (.cells #[.int .i64 xtx,.int .i64 xtm,.int .i64 xwl,.int .i64 xnx,.slice yeA yents.length yeC,.slice ysA xstms.length ysC,.slice ytA ytabs.length ytC,.slice ypA xpla.length ypC,.slice yqA xpol.length yqC,.slice yhA xhor.length yhC] 47)).block _ (by simp)).trans (heap_alloc_new _ _)
 have hU:W.heap[w.heap.size+1]? =some (.cells #[.int .i64 xtx,.int .i64 xtm,.int .i64 xwl,.int .i64 xnx,.slice yeA yents.length yeC,.slice ysA xstms.length ysC,.slice ytA ytabs.length ytC,.slice ypA xpla.length ypC,.slice yqA xpol.length yqC,.slice yhA xhor.length yhC] 47 (0,0)):=by
  rw [hW]
  have h:=heap_alloc_new (w.alloc (.cells #[.int .i64 xtx,.int .i64 xtm,.int .i64 xwl,.int .i64 xnx,.slice xeA xents.length xeC,.slice xsA xstms.length xsC,.slice xtA xtabs.length xtC,.slice xpA xpla.length xpC,.slice xqA xpol.length xqC,.slice xhA xhor.length xhC] 47)) (.cells #[.int .i64 xtx,.int .i64 xtm,.int .i64 xwl,.int .i64 xnx,.slice yeA yents.length yeC,.slice ysA xstms.length ysC,.slice ytA ytabs.length ytC,.slice ypA xpla.length ypC,.slice yqA xpol.length yqC,.slice yhA xhor.length yhC] 47)
  simpa using h
 have FX:Hid (∀V,Below W.heap.size W V→V.heap[w.heap.size]? =some (.cells #[.int .i64 xtx,.int .i64 xtm,.int .i64 xwl,.int .i64 xnx,.slice xeA xents.length xeC,.slice xsA xstms.length xsC,.slice xtA xtabs.length xtC,.slice xpA xpla.length xpC,.slice xqA xpol.length xqC,.slice xhA xhor.length xhC] 47 (0,0))):=hI0 (fun V hV=>(hV.block _ (by omega)).trans hT)
 have FY:Hid (∀V,Below W.heap.size W V→V.heap[w.heap.size+1]? =some (.cells #[.int .i64 xtx,.int .i64 xtm,.int .i64 xwl,.int .i64 xnx,.slice yeA yents.length yeC,.slice ysA xstms.length ysC,.slice ytA ytabs.length ytC,.slice ypA xpla.length ypC,.slice yqA xpol.length yqC,.slice yhA xhor.length yhC] 47 (0,0))):=hI0 (fun V hV=>(hV.block _ hWs).trans hU)
 have HBW:=hI0 hbW
 have HC0:Hid (Below W.heap.size W W):=hI0 (Below.refl _ _)
 have HW:=hI0 hW
 clear hT hU hbW hWs hW
 have c0:=cB 0 (FX.out _ HC0.out)
 have c1:=cB 1 (FX.out _ HC0.out)
 have c2:=cB 2 (FX.out _ HC0.out)
 have c3:=cB 3 (FX.out _ HC0.out)
 have c4:=cB 4 (FX.out _ HC0.out)
 have c5:=cB 5 (FX.out _ HC0.out)
 have c6:=cB 6 (FX.out _ HC0.out)
 have c7:=cB 7 (FX.out _ HC0.out)
 have c8:=cB 8 (FX.out _ HC0.out)
 have c9:=cB 9 (FX.out _ HC0.out)
 have d0:=cB 0 (FY.out _ HC0.out)
 have d1:=cB 1 (FY.out _ HC0.out)
 have d2:=cB 2 (FY.out _ HC0.out)
 have d3:=cB 3 (FY.out _ HC0.out)
 have d4:=cB 4 (FY.out _ HC0.out)
 have d5:=cB 5 (FY.out _ HC0.out)
 have d6:=cB 6 (FY.out _ HC0.out)
 have d7:=cB 7 (FY.out _ HC0.out)
 have d8:=cB 8 (FY.out _ HC0.out)
 have d9:=cB 9 (FY.out _ HC0.out)
 have ff0:(xtx != xtx)=false:=by simp
 have ee0:(xtx==xtx)=true:=by simp
 have ff1:(xtm != xtm)=false:=by simp
 have ee1:(xtm==xtm)=true:=by simp
 have ff2:(xwl != xwl)=false:=by simp
 have ee2:(xwl==xwl)=true:=by simp
 have ff3:(xnx != xnx)=false:=by simp
 have ee3:(xnx==xnx)=true:=by simp
 go_enter Tryz.func23,Tryz.ntmps23
 go_wp2_with fail
 try rw [←HW.out]
 clear c0 d0 c1 d1 c2 d2 c3 d3 c4 d4 c5 d5 c6 d6 c7 d7 c8 d8 c9 d9
 go_loopw [54] (fun i wr=>∃k:Nat,i=.int .i64 (k:Int)∧k≤xstms.length∧Hid (Below W.heap.size W wr)) (fun i _=>xstms.length-(intOf i).toNat)
 case atStart=>exact ⟨0,rfl,Nat.zero_le _,HC0⟩
 obtain ⟨k,rfl,hk,HB1⟩:=hrel
 obtain ⟨wi1,rfl⟩:∃wi:World,wi=wr:=⟨_,rfl⟩
 by_cases hlt:k<xstms.length
 case neg=>
  have hlt3:¬(k:Int)<(xstms.length:Int):=by omega
  clear hlt hk
  have c0:=cB 0 (FX.out _ HB1.out)
  have c1:=cB 1 (FX.out _ HB1.out)
  have c2:=cB 2 (FX.out _ HB1.out)
  have c3:=cB 3 (FX.out _ HB1.out)
  have c4:=cB 4 (FX.out _ HB1.out)
  have c5:=cB 5 (FX.out _ HB1.out)
  have c6:=cB 6 (FX.out _ HB1.out)
  have c7:=cB 7 (FX.out _ HB1.out)
  have c8:=cB 8 (FX.out _ HB1.out)
  have c9:=cB 9 (FX.out _ HB1.out)
  have d0:=cB 0 (FY.out _ HB1.out)
  have d1:=cB 1 (FY.out _ HB1.out)
  have d2:=cB 2 (FY.out _ HB1.out)
  have d3:=cB 3 (FY.out _ HB1.out)
  have d4:=cB 4 (FY.out _ HB1.out)
  have d5:=cB 5 (FY.out _ HB1.out)
  have d6:=cB 6 (FY.out _ HB1.out)
  have d7:=cB 7 (FY.out _ HB1.out)
  have d8:=cB 8 (FY.out _ HB1.out)
  have d9:=cB 9 (FY.out _ HB1.out)
  go_wp2_with fail
  clear c0 d0 c1 d1 c2 d2 c3 d3 c4 d4 c5 d5 c6 d6 c7 d7 c8 d8 c9 d9
  go_loopw [72] (fun i wr=>∃k:Nat,i=.int .i64 (k:Int)∧k≤xtabs.length∧Hid (Below W.heap.size W wr)) (fun i _=>xtabs.length-(intOf i).toNat)
  case atStart=>exact ⟨0,rfl,Nat.zero_le _,HB1⟩
  obtain ⟨k,rfl,hk,HB2⟩:=hrel
  obtain ⟨wi2,rfl⟩:∃wi:World,wi=wr:=⟨_,rfl⟩
  by_cases hlt:k<xtabs.length
  case neg=>
   have hlt3:¬(k:Int)<(xtabs.length:Int):=by omega
   clear hlt hk
   have c0:=cB 0 (FX.out _ HB2.out)
   have c1:=cB 1 (FX.out _ HB2.out)
   have c2:=cB 2 (FX.out _ HB2.out)
   have c3:=cB 3 (FX.out _ HB2.out)
   have c4:=cB 4 (FX.out _ HB2.out)
   have c5:=cB 5 (FX.out _ HB2.out)
   have c6:=cB 6 (FX.out _ HB2.out)
   have c7:=cB 7 (FX.out _ HB2.out)
   have c8:=cB 8 (FX.out _ HB2.out)
   have c9:=cB 9 (FX.out _ HB2.out)
   have d0:=cB 0 (FY.out _ HB2.out)
   have d1:=cB 1 (FY.out _ HB2.out)
   have d2:=cB 2 (FY.out _ HB2.out)
   have d3:=cB 3 (FY.out _ HB2.out)
   have d4:=cB 4 (FY.out _ HB2.out)
   have d5:=cB 5 (FY.out _ HB2.out)
   have d6:=cB 6 (FY.out _ HB2.out)
   have d7:=cB 7 (FY.out _ HB2.out)
   have d8:=cB 8 (FY.out _ HB2.out)
   have d9:=cB 9 (FY.out _ HB2.out)
   have KK3:=(fun (V:World) (hV:Below w.heap.size w V)=>likeEntries_any _ _ xents yents HL5.out V (HXI.out.below hV).ents (HYI.out.below hV).ents (HXI.out.below hV).entI (HYI.out.below hV).entI (fun n hn e he=>(HKX.out n hn e he).blw hV) (fun n hn e he=>(HKY.out n hn e he).blw hV)) wi2 (HBW.out.trans (HB2.out.mono HBW.out.size))
   go_wp2_with fail
   (with_reducible refine KK3.mono ?_)
   rintro _ z3 ⟨rfl,hz3⟩
   clear KK3
   have HC3:Hid (Below W.heap.size W z3):=hI0 (HB2.out.trans (hz3.mono HB2.out.size))
   clear hz3
   clear c0 d0 c1 d1 c2 d2 c3 d3 c4 d4 c5 d5 c6 d6 c7 d7 c8 d8 c9 d9
   have c0:=cB 0 (FX.out _ HC3.out)
   have c1:=cB 1 (FX.out _ HC3.out)
   have c2:=cB 2 (FX.out _ HC3.out)
   have c3:=cB 3 (FX.out _ HC3.out)
   have c4:=cB 4 (FX.out _ HC3.out)
   have c5:=cB 5 (FX.out _ HC3.out)
   have c6:=cB 6 (FX.out _ HC3.out)
   have c7:=cB 7 (FX.out _ HC3.out)
   have c8:=cB 8 (FX.out _ HC3.out)
   have c9:=cB 9 (FX.out _ HC3.out)
   have d0:=cB 0 (FY.out _ HC3.out)
   have d1:=cB 1 (FY.out _ HC3.out)
   have d2:=cB 2 (FY.out _ HC3.out)
   have d3:=cB 3 (FY.out _ HC3.out)
   have d4:=cB 4 (FY.out _ HC3.out)
   have d5:=cB 5 (FY.out _ HC3.out)
   have d6:=cB 6 (FY.out _ HC3.out)
   have d7:=cB 7 (FY.out _ HC3.out)
   have d8:=cB 8 (FY.out _ HC3.out)
   have d9:=cB 9 (FY.out _ HC3.out)
   have KK4:=(fun (V:World) (hV:Below w.heap.size w V)=>likeRules_any _ _ _ _ _ _ xpla xpol xhor V (HXI.out.below hV).pla (HYI.out.below hV).pla (HXI.out.below hV).pol (HYI.out.below hV).pol (HXI.out.below hV).hor (HYI.out.below hV).hor) z3 (HBW.out.trans (HC3.out.mono HBW.out.size))
   go_wp2_with fail
   (with_reducible refine KK4.mono ?_)
   rintro _ z4 ⟨rfl,hz4⟩
   clear KK4
   have HC4:Hid (Below W.heap.size W z4):=hI0 (HC3.out.trans (hz4.mono HC3.out.size))
   clear hz4
   clear c0 d0 c1 d1 c2 d2 c3 d3 c4 d4 c5 d5 c6 d6 c7 d7 c8 d8 c9 d9
   have c0:=cB 0 (FX.out _ HC4.out)
   have c1:=cB 1 (FX.out _ HC4.out)
   have c2:=cB 2 (FX.out _ HC4.out)
   have c3:=cB 3 (FX.out _ HC4.out)
   have c4:=cB 4 (FX.out _ HC4.out)
   have c5:=cB 5 (FX.out _ HC4.out)
   have c6:=cB 6 (FX.out _ HC4.out)
   have c7:=cB 7 (FX.out _ HC4.out)
   have c8:=cB 8 (FX.out _ HC4.out)
   have c9:=cB 9 (FX.out _ HC4.out)
   have d0:=cB 0 (FY.out _ HC4.out)
   have d1:=cB 1 (FY.out _ HC4.out)
   have d2:=cB 2 (FY.out _ HC4.out)
   have d3:=cB 3 (FY.out _ HC4.out)
   have d4:=cB 4 (FY.out _ HC4.out)
   have d5:=cB 5 (FY.out _ HC4.out)
   have d6:=cB 6 (FY.out _ HC4.out)
   have d7:=cB 7 (FY.out _ HC4.out)
   have d8:=cB 8 (FY.out _ HC4.out)
   have d9:=cB 9 (FY.out _ HC4.out)
   go_wp2_with fail
   go_ret
   exact ⟨rfl,(HBW.out.trans (HC4.out.mono HBW.out.size))⟩
  have hlt':k<ytabs.length:=by have:=er_len HL1.out;omega
  have hlt4:(k:Int)<(ytabs.length:Int):=by omega
  have hlt3:(k:Int)<(xtabs.length:Int):=by omega
  obtain ⟨b,off,rfl,hF,hcl⟩:=RdE.at_ (K:=2) (enc:=RTv.enc) (fun _=>rfl) (by omega) Hx2.out hlt
  obtain ⟨b',off',rfl,hF',hcl'⟩:=RdE.at_ (K:=2) (enc:=RTv.enc) (fun _=>rfl) (by omega) Hy2.out hlt'
  have HBL:=hI0 hF
  have HBM:=hI0 hF'
  have hcx:=hcl k hlt
  have hcy:=hcl' k hlt'
  have hxy:=er_at HL1.out hlt hlt'
  have ha:=List.getElem_mem hlt
  have hb:=List.getElem_mem hlt'
  obtain ⟨x,hx⟩:∃x,x=xtabs[k]:=⟨_,rfl⟩
  obtain ⟨y,hy⟩:∃y,y=ytabs[k]:=⟨_,rfl⟩
  rw [←hx] at hcx hxy ha
  rw [←hy] at hcy hxy hb
  clear hx hy hcl hcl' hF hF'
  have K0:=fun (V:World) (hV:Below w.heap.size w V)=>trB (sameVersions_any _ _ x.vers y.vers V ((HXI.out.tabI _ ha).below hV) ((HYI.out.tabI _ hb).below hV) (vers_er hxy)) rfl
  obtain ⟨xt,xA,xc,xv⟩:=x
  obtain ⟨yt,yA,yc,yv⟩:=y
  simp only [RTv.er,RTv.mk.injEq,true_and] at hxy
  obtain ⟨rfl,hL1⟩:=hxy
  have KC:∀(V:World),Below w.heap.size w V→Calls Tryz.prog 103 #[.slice xA xv.length xc,.slice yA yv.length yc] V (TrB V):=K0
  clear K0
  have g0:w.cell? ⟨b,off+k*2,none⟩=some (.string xt):=hcx 0 _ (by decide) rfl
  have g1:=hcx 1 _ (by decide) rfl
  have h0:w.cell? ⟨b',off'+k*2,none⟩=some (.string xt):=hcy 0 _ (by decide) rfl
  have h1:=hcy 1 _ (by decide) rfl
  clear hcx hcy ha hb hL1
  have ff0:(xt.toList != xt.toList)=false:=by simp
  go_wp2_with fail
  refine wp_region_noPanic ?_
  refine wp_region_held_drew (S:=(fun w'=>Below W.heap.size W w')) (by kernel_rfl) ?_ (fun hHeld=>?_)
  ·exact HB2.out.drew
  refine hT 0 75 hHeld ?_
  simp only [aP]
  refine hU 1 76 (v:=?_) hHeld ?_ ?_
  rotate_left
  ·intro w' hSw;(try dsimp only at hSw);have q0:=cW0 w' _ 6 _ _ _ (FX.out _ hSw);go_simp<;>with_reducible rfl
  simp only [aP]
  refine hT 2 77 hHeld ?_
  simp only [aP]
  refine hT 3 78 hHeld ?_
  simp only [aP]
  refine hT 4 79 hHeld ?_
  simp only [aP]
  refine hU 5 80 (v:=?_) hHeld ?_ ?_
  rotate_left
  ·intro w' hSw;(try dsimp only at hSw);have Z:=(HBW.out.trans (hSw.mono HBW.out.size)).block _ HBL.out;have q0:=cQ Z g0;go_simp<;>with_reducible rfl
  simp only [aP]
  refine hT 6 81 hHeld ?_
  simp only [aP]
  refine hU 7 82 (v:=?_) hHeld ?_ ?_
  rotate_left
  ·intro w' hSw;(try dsimp only at hSw);have q0:=cW0 w' _ 6 _ _ _ (FY.out _ hSw);go_simp<;>with_reducible rfl
  simp only [aP]
  refine hT 8 83 hHeld ?_
  simp only [aP]
  refine hT 9 84 hHeld ?_
  simp only [aP]
  refine hT 10 85 hHeld ?_
  simp only [aP]
  refine hU 11 86 (v:=?_) hHeld ?_ ?_
  rotate_left
  ·intro w' hSw;(try dsimp only at hSw);have Z:=(HBW.out.trans (hSw.mono HBW.out.size)).block _ HBM.out;have q0:=cQ Z h0;go_simp<;>with_reducible rfl
  simp only [aP]
  refine hT 12 87 hHeld ?_
  simp only [aP]
  refine hT 13 88 hHeld ?_
  simp only [aP]
  refine hT 14 89 hHeld ?_
  simp only [aP]
  refine hU 15 90 (v:=?_) hHeld ?_ ?_
  rotate_left
  ·intro w' hSw;(try dsimp only at hSw);have q0:=cW0 w' _ 6 _ _ _ (FX.out _ hSw);go_simp<;>with_reducible rfl
  simp only [aP]
  refine hT 16 91 hHeld ?_
  simp only [aP]
  refine hT 17 92 hHeld ?_
  simp only [aP]
  refine hT 18 93 hHeld ?_
  simp only [aP]
  refine hU 19 94 (v:=?_) hHeld ?_ ?_
  rotate_left
  ·intro w' hSw;(try dsimp only at hSw);have Z:=(HBW.out.trans (hSw.mono HBW.out.size)).block _ HBL.out;have q1:=cQ Z g1;go_simp<;>with_reducible rfl
  simp only [aP]
  refine hT 20 95 hHeld ?_
  simp only [aP]
  refine hU 21 96 (v:=?_) hHeld ?_ ?_
  rotate_left
  ·intro w' hSw;(try dsimp only at hSw);have q0:=cW0 w' _ 6 _ _ _ (FY.out _ hSw);go_simp<;>with_reducible rfl
  simp only [aP]
  refine hT 22 97 hHeld ?_
  simp only [aP]
  refine hT 23 98 hHeld ?_
  simp only [aP]
  refine hT 24 99 hHeld ?_
  simp only [aP]
  refine hU 25 100 (v:=?_) hHeld ?_ ?_
  rotate_left
  ·intro w' hSw;(try dsimp only at hSw);have Z:=(HBW.out.trans (hSw.mono HBW.out.size)).block _ HBM.out;have q1:=cQ Z h1;go_simp<;>with_reducible rfl
  simp only [aP]
  refine hC 26 101 ?_
  (with_reducible refine (KC _ (HBW.out.trans (hHeld.mono HBW.out.size))).mono ?_)
  rintro _ z ⟨rfl,hz⟩
  refine ⟨_,rfl,keepAnd ?_ (fun hNew=>?_)⟩
  ·exact Below.trans hHeld (hz.mono hHeld.size)
  clear hHeld
  have hHeld:=hNew
  clear hNew
  simp only [aP]
  refine hT 27 102 hHeld ?_
  simp only [aP]
  refine hT 28 103 hHeld ?_
  simp only [aP]
  refine wpAnyH_done (by kernel_rfl) ?_ _
  refine NoPanic.normal ?_
  have HZ:Hid (Below W.heap.size W _):=hI0 hHeld
  go_wp2_with fail
  go_roundw
  case rel=>exact ⟨k+1,by go_num,hlt,HZ⟩
  case measure=>simp [intOf];omega
 have hlt3:(k:Int)<(xstms.length:Int):=by omega
 obtain ⟨b,off,rfl,hF,hcl⟩:=RdE.at_ (K:=2) (enc:=Stm.enc) (fun _=>rfl) (by omega) Hx1.out hlt
 obtain ⟨b',off',rfl,hF',hcl'⟩:=RdE.at_ (K:=2) (enc:=Stm.enc) (fun _=>rfl) (by omega) Hy1.out hlt
 have HBL:=hI0 hF
 have HBM:=hI0 hF'
 have hcx:=hcl k hlt
 have hcy:=hcl' k hlt
 obtain ⟨x,hx⟩:∃x,x=xstms[k]:=⟨_,rfl⟩
 rw [←hx] at hcx hcy
 clear hx hcl hcl' hF hF'
 obtain ⟨x1,x2⟩:=x
 have g0:w.cell? ⟨b,off+k*2,none⟩=some (.int .i64 x1):=hcx 0 _ (by decide) rfl
 have g1:=hcx 1 _ (by decide) rfl
 have h0:w.cell? ⟨b',off'+k*2,none⟩=some (.int .i64 x1):=hcy 0 _ (by decide) rfl
 have h1:=hcy 1 _ (by decide) rfl
 clear hcx hcy
 have ff0:(x1 != x1)=false:=by simp
 have ee0:(x1==x1)=true:=by simp
 have ff1:(x2 != x2)=false:=by simp
 have ee1:(x2==x2)=true:=by simp
 go_wp2_with fail
 refine wp_region_noPanic ?_
 refine wp_region_held_drew (S:=(fun w'=>Below W.heap.size W w')) (by kernel_rfl) ?_ (fun hHeld=>?_)
 ·exact HB1.out.drew
 refine hT 0 57 hHeld ?_
 simp only [aP]
 refine hU 1 58 (v:=?_) hHeld ?_ ?_
 rotate_left
 ·intro w' hSw;(try dsimp only at hSw);have q0:=cW0 w' _ 5 _ _ _ (FX.out _ hSw);go_simp<;>with_reducible rfl
 simp only [aP]
 refine hT 2 59 hHeld ?_
 simp only [aP]
 refine hT 3 60 hHeld ?_
 simp only [aP]
 refine hU 4 61 (v:=?_) hHeld ?_ ?_
 rotate_left
 ·intro w' hSw;(try dsimp only at hSw);have Z:=(HBW.out.trans (hSw.mono HBW.out.size)).block _ HBL.out;have q0:=cQ Z g0;have q1:=cQ Z g1;go_simp<;>with_reducible rfl
 simp only [aP]
 refine hT 5 62 hHeld ?_
 simp only [aP]
 refine hU 6 63 (v:=?_) hHeld ?_ ?_
 rotate_left
 ·intro w' hSw;(try dsimp only at hSw);have q0:=cW0 w' _ 5 _ _ _ (FY.out _ hSw);go_simp<;>with_reducible rfl
 simp only [aP]
 refine hT 7 64 hHeld ?_
 simp only [aP]
 refine hT 8 65 hHeld ?_
 simp only [aP]
 refine hU 9 66 (v:=?_) hHeld ?_ ?_
 rotate_left
 ·intro w' hSw;(try dsimp only at hSw);have Z:=(HBW.out.trans (hSw.mono HBW.out.size)).block _ HBM.out;have q0:=cQ Z h0;have q1:=cQ Z h1;go_simp<;>with_reducible rfl
 simp only [aP]
 refine hT 10 67 hHeld ?_
 simp only [aP]
 refine wpAnyH_done (by kernel_rfl) ?_ _
 refine NoPanic.normal ?_
 have HZ:Hid (Below W.heap.size W _):=hI0 hHeld
 go_wp2_with fail
 go_roundw
 case rel=>exact ⟨k+1,by go_num,hlt,HZ⟩
 case measure=>simp [intOf];omega
end Go.Proofs.YtbfdegkickjbpaaGreat
