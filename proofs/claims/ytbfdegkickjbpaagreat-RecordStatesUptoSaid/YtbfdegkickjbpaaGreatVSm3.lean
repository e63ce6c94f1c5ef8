/-
 Sm3
-/
import Derived.Test.YtbfdegkickjbpaaGreatVSm1
import Derived.Test.YtbfdegkickjbpaaGreatVSt1
import Derived.Test.YtbfdegkickjbpaaGreatVSeg1
import Derived.Test.YtbfdegkickjbpaaGreatVSm2
import Derived.Test.YtbfdegkickjbpaaGreatVRl1
namespace Go.Proofs.YtbfdegkickjbpaaGreat
open Go.Proofs.Tryz
set_option maxRecDepth 99999
set_option maxHeartbeats 0
open Go.RowKit Go.Lib Go.IntWalk Go.Sort Go.Shelf
theorem vers_er {x y:RTv} (h:x.er=y.er):x.vers.map (·.2)=y.vers.map (·.2):=by
 have a:(x.vers.map verEr).map (·.2)=(y.vers.map verEr).map (·.2):=congrArg (fun z:RTv=>z.vers.map (·.2)) h
 rw [List.map_map,List.map_map] at a
 exact a
theorem likeState_any (x y:RSt) (hxy:x.er=y.er) (w:World) (hx:x.is w (ltw w)) (hy:y.is w (ltw w)) (kx:∀n∈x.ents,∀e∈n.create.chks,exAll w (ltw w) e) (ky:∀n∈y.ents,∀e∈n.create.chks,exAll w (ltw w) e):
  Calls prog 23 #[.agg (RSt.enc x).toArray,.agg (RSt.enc y).toArray] w (TrB w):=by
 obtain ⟨xtx,xtm,xwl,xnx,xeA,xeC,xents,xsA,xsC,xstms,xtA,xtC,xtabs,xpA,xpC,xpla,xqA,xqC,xpol,xhA,xhC,xhor⟩:=x
 obtain ⟨ytx,ytm,ywl,ynx,yeA,yeC,yents,ysA,ysC,ystms,ytA,ytC,ytabs,ypA,ypC,ypla,yqA,yqC,ypol,yhA,yhC,yhor⟩:=y
 simp only [RSt.er,RSt.mk.injEq,true_and] at hxy
 obtain ⟨rfl,rfl,rfl,rfl,hL5,rfl,hL1,rfl,rfl,rfl⟩:=hxy
 show Calls prog 23 #[.agg #[.int .i64 xtx,.int .i64 xtm,.int .i64 xwl,.int .i64 xnx,.slice xeA xents.length xeC,.slice xsA xstms.length xsC,.slice xtA xtabs.length xtC,.slice xpA xpla.length xpC,.slice xqA xpol.length xqC,.slice xhA xhor.length xhC],.agg #[.int .i64 xtx,.int .i64 xtm,.int .i64 xwl,.int .i64 xnx,.slice yeA yents.length yeC,.slice ysA xstms.length ysC,.slice ytA ytabs.length ytC,.slice ypA xpla.length ypC,.slice yqA xpol.length yqC,.slice yhA xhor.length yhC]] w (TrB w)
 have f1:RdE 2 Stm.enc w (ltw w) (.slice xsA xstms.length xsC) xstms:=hx.stms
 have g1:RdE 2 Stm.enc w (ltw w) (.slice ysA xstms.length ysC) xstms:=hy.stms
 have q1:=RdE.bd f1
 have r1:=RdE.bd g1
 have Hx1:=hI0 f1
 have Hy1:=hI0 g1
 have f2:RdE 2 RTv.enc w (ltw w) (.slice xtA xtabs.length xtC) xtabs:=hx.tabs
 have g2:RdE 2 RTv.enc w (ltw w) (.slice ytA ytabs.length ytC) ytabs:=hy.tabs
 have q2:=RdE.bd f2
 have r2:=RdE.bd g2
 have Hx2:=hI0 f2
 have Hy2:=hI0 g2
 have HL1:=hI0 hL1
 have HL5:=hI0 hL5
 have ss1:((xstms.length:Int) != (xstms.length:Int))=false:=by simp
 have ss2:((xtabs.length:Int) != (ytabs.length:Int))=false:=by have:=er_len HL1.out;simp [this]
 have HXI:=hI0 hx
 have HYI:=hI0 hy
 have HKX:=hI0 kx
 have HKY:=hI0 ky
 clear hx hy kx ky f1 f2 g1 g2 hL1 hL5
 obtain ⟨W,hW⟩:=eN0 ((w.alloc (.cells #[.int .i64 xtx,.int .i64 xtm,.int .i64 xwl,.int .i64 xnx,.slice xeA xents.length xeC,.slice xsA xstms.length xsC,.slice xtA xtabs.length xtC,.slice xpA xpla.length xpC,.slice xqA xpol.length xqC,.slice xhA xhor.length xhC] 47)).alloc (.cells #[.int .i64 xtx,.int .i64 xtm,.int .i64 xwl,.int .i64 xnx,.slice yeA yents.length yeC,.slice ysA xstms.length ysC,.slice ytA ytabs.length ytC,.slice ypA xpla.length ypC,.slice yqA xpol.length yqC,.slice yhA xhor.length yhC] 47))
 have hbW:Bl w W:=by rw [hW];exact (Below.of_alloc _).alloc (by simp) _
 have hWs:w.heap.size+1<W.heap.size:=by rw [hW];simp
 have hT:W.heap[w.heap.size]? =some (.cells #[.int .i64 xtx,.int .i64 xtm,.int .i64 xwl,.int .i64 xnx,.slice xeA xents.length xeC,.slice xsA xstms.length xsC,.slice xtA xtabs.length xtC,.slice xpA xpla.length xpC,.slice xqA xpol.length xqC,.slice xhA xhor.length xhC] 47 (0,0)):=by
  rw [hW]
  exact ((Below.of_alloc (w:=w.alloc (.cells #[.int .i64 xtx,.int .i64 xtm,.int .i64 xwl,.int .i64 xnx,.slice xeA xents.length xeC,.slice xsA xstms.length xsC,.slice xtA xtabs.length xtC,.slice xpA xpla.length xpC,.slice xqA xpol.length xqC,.slice xhA xhor.length xhC] 47)) (.cells #[.int .i64 xtx,.int .i64 xtm,.int .i64 xwl,.int .i64 xnx,.slice yeA yents.length yeC,.slice ysA xstms.length ysC,.slice ytA ytabs.length ytC,.slice ypA xpla.length ypC,.slice yqA xpol.length yqC,.slice yhA xhor.length yhC] 47)).block _ (by simp)).trans (heap_alloc_new _ _)
 have hU:W.heap[w.heap.size+1]? =some (.cells #[.int .i64 xtx,.int .i64 xtm,.int .i64 xwl,.int .i64 xnx,.slice yeA yents.length yeC,.slice ysA xstms.length ysC,.slice ytA ytabs.length ytC,.slice ypA xpla.length ypC,.slice yqA xpol.length yqC,.slice yhA xhor.length yhC] 47 (0,0)):=by
  rw [hW]
  have h:=heap_alloc_new (w.alloc (.cells #[.int .i64 xtx,.int .i64 xtm,.int .i64 xwl,.int .i64 xnx,.slice xeA xents.length xeC,.slice xsA xstms.length xsC,.slice xtA xtabs.length xtC,.slice xpA xpla.length xpC,.slice xqA xpol.length xqC,.slice xhA xhor.length xhC] 47)) (.cells #[.int .i64 xtx,.int .i64 xtm,.int .i64 xwl,.int .i64 xnx,.slice yeA yents.length yeC,.slice ysA xstms.length ysC,.slice ytA ytabs.length ytC,.slice ypA xpla.length ypC,.slice yqA xpol.length yqC,.slice yhA xhor.length yhC] 47)
  simpa using h
 have FX:Hid (∀V,Bl W V→V.heap[w.heap.size]? =some (.cells #[.int .i64 xtx,.int .i64 xtm,.int .i64 xwl,.int .i64 xnx,.slice xeA xents.length xeC,.slice xsA xstms.length xsC,.slice xtA xtabs.length xtC,.slice xpA xpla.length xpC,.slice xqA xpol.length xqC,.slice xhA xhor.length xhC] 47 (0,0))):=hI0 (fun V hV=>(hV.block _ (by omega)).trans hT)
 have FY:Hid (∀V,Bl W V→V.heap[w.heap.size+1]? =some (.cells #[.int .i64 xtx,.int .i64 xtm,.int .i64 xwl,.int .i64 xnx,.slice yeA yents.length yeC,.slice ysA xstms.length ysC,.slice ytA ytabs.length ytC,.slice ypA xpla.length ypC,.slice yqA xpol.length yqC,.slice yhA xhor.length yhC] 47 (0,0))):=hI0 (fun V hV=>(hV.block _ hWs).trans hU)
 have HBW:=hI0 hbW
 have HC0:Hid (Bl W W):=hI0 (Below.refl _ _)
 have HW:=hI0 hW
 clear hT hU hbW hWs hW
 have c0:=cB 0 (FX.out _ HC0.out)
 have c1:=cB 1 (FX.out _ HC0.out)
 have c2:=cB 2 (FX.out _ HC0.out)
 have c3:=cB 3 (FX.out _ HC0.out)
 have c4:=cB 4 (FX.out _ HC0.out)
 have c5:=cB 5 (FX.out _ HC0.out)
 have c6:=cB 6 (FX.out _ HC0.out)
 have c7:=cB 7 (FX.out _ HC0.out)
 have c8:=cB 8 (FX.out _ HC0.out)
 have c9:=cB 9 (FX.out _ HC0.out)
 have d0:=cB 0 (FY.out _ HC0.out)
 have d1:=cB 1 (FY.out _ HC0.out)
 have d2:=cB 2 (FY.out _ HC0.out)
 have d3:=cB 3 (FY.out _ HC0.out)
 have d4:=cB 4 (FY.out _ HC0.out)
 have d5:=cB 5 (FY.out _ HC0.out)
 have d6:=cB 6 (FY.out _ HC0.out)
 have d7:=cB 7 (FY.out _ HC0.out)
 have d8:=cB 8 (FY.out _ HC0.out)
 have d9:=cB 9 (FY.out _ HC0.out)
 have ff0:(xtx != xtx)=false:=by simp
 have ee0:(xtx==xtx)=true:=by simp
 have ff1:(xtm != xtm)=false:=by simp
 have ee1:(xtm==xtm)=true:=by simp
 have ff2:(xwl != xwl)=false:=by simp
 have ee2:(xwl==xwl)=true:=by simp
 have ff3:(xnx != xnx)=false:=by simp
 have ee3:(xnx==xnx)=true:=by simp
 go_in
 go_wp2_with fail
 try rw [←HW.out]
 clear c0 d0 c1 d1 c2 d2 c3 d3 c4 d4 c5 d5 c6 d6 c7 d7 c8 d8 c9 d9
 go_loopw [54] (fun i wr=>∃k:Nat,i=.int .i64 (k:Int)∧k≤xstms.length∧Hid (Bl W wr)) (fun i _=>xstms.length-(intOf i).toNat)
 case atStart=>exact ⟨0,rfl,Nat.zero_le _,HC0⟩
 obtain ⟨k,rfl,hk,HB1⟩:=hrel
 obtain ⟨wi1,rfl⟩:=eN0 wr
 by_cases hlt:k<xstms.length
 case neg=>
  have hlt3:¬(k:Int)<(xstms.length:Int):=by omega
  clear hlt hk
  have c0:=cB 0 (FX.out _ HB1.out)
  have c1:=cB 1 (FX.out _ HB1.out)
  have c2:=cB 2 (FX.out _ HB1.out)
  have c3:=cB 3 (FX.out _ HB1.out)
  have c4:=cB 4 (FX.out _ HB1.out)
  have c5:=cB 5 (FX.out _ HB1.out)
  have c6:=cB 6 (FX.out _ HB1.out)
  have c7:=cB 7 (FX.out _ HB1.out)
  have c8:=cB 8 (FX.out _ HB1.out)
  have c9:=cB 9 (FX.out _ HB1.out)
  have d0:=cB 0 (FY.out _ HB1.out)
  have d1:=cB 1 (FY.out _ HB1.out)
  have d2:=cB 2 (FY.out _ HB1.out)
  have d3:=cB 3 (FY.out _ HB1.out)
  have d4:=cB 4 (FY.out _ HB1.out)
  have d5:=cB 5 (FY.out _ HB1.out)
  have d6:=cB 6 (FY.out _ HB1.out)
  have d7:=cB 7 (FY.out _ HB1.out)
  have d8:=cB 8 (FY.out _ HB1.out)
  have d9:=cB 9 (FY.out _ HB1.out)
  go_wp2_with fail
  clear c0 d0 c1 d1 c2 d2 c3 d3 c4 d4 c5 d5 c6 d6 c7 d7 c8 d8 c9 d9
  go_loopw [72] (fun i wr=>∃k:Nat,i=.int .i64 (k:Int)∧k≤xtabs.length∧Hid (Bl W wr)) (fun i _=>xtabs.length-(intOf i).toNat)
  case atStart=>exact ⟨0,rfl,Nat.zero_le _,HB1⟩
  obtain ⟨k,rfl,hk,HB2⟩:=hrel
  obtain ⟨wi2,rfl⟩:=eN0 wr
  by_cases hlt:k<xtabs.length
  case neg=>
   have hlt3:¬(k:Int)<(xtabs.length:Int):=by omega
   clear hlt hk
   have c0:=cB 0 (FX.out _ HB2.out)
   have c1:=cB 1 (FX.out _ HB2.out)
   have c2:=cB 2 (FX.out _ HB2.out)
   have c3:=cB 3 (FX.out _ HB2.out)
   have c4:=cB 4 (FX.out _ HB2.out)
   have c5:=cB 5 (FX.out _ HB2.out)
   have c6:=cB 6 (FX.out _ HB2.out)
   have c7:=cB 7 (FX.out _ HB2.out)
   have c8:=cB 8 (FX.out _ HB2.out)
   have c9:=cB 9 (FX.out _ HB2.out)
   have d0:=cB 0 (FY.out _ HB2.out)
   have d1:=cB 1 (FY.out _ HB2.out)
   have d2:=cB 2 (FY.out _ HB2.out)
   have d3:=cB 3 (FY.out _ HB2.out)
   have d4:=cB 4 (FY.out _ HB2.out)
   have d5:=cB 5 (FY.out _ HB2.out)
   have d6:=cB 6 (FY.out _ HB2.out)
   have d7:=cB 7 (FY.out _ HB2.out)
   have d8:=cB 8 (FY.out _ HB2.out)
   have d9:=cB 9 (FY.out _ HB2.out)
   have KK3:=(fun (V:World) (hV:Bl w V)=>likeEntries_any _ _ xents yents HL5.out V (HXI.out.below hV).ents (HYI.out.below hV).ents (HXI.out.below hV).entI (HYI.out.below hV).entI (fun n hn e he=>(HKX.out n hn e he).blw hV) (fun n hn e he=>(HKY.out n hn e he).blw hV)) wi2 (HBW.out.trans (HB2.out.mono HBW.out.size))
   go_wp2_with fail
   (with_reducible refine KK3.mono ?_)
   rintro _ z3 ⟨rfl,hz3⟩
   clear KK3
   have HC3:=bT0 HB2 hz3
   clear hz3
   clear c0 d0 c1 d1 c2 d2 c3 d3 c4 d4 c5 d5 c6 d6 c7 d7 c8 d8 c9 d9
   have c0:=cB 0 (FX.out _ HC3.out)
   have c1:=cB 1 (FX.out _ HC3.out)
   have c2:=cB 2 (FX.out _ HC3.out)
   have c3:=cB 3 (FX.out _ HC3.out)
   have c4:=cB 4 (FX.out _ HC3.out)
   have c5:=cB 5 (FX.out _ HC3.out)
   have c6:=cB 6 (FX.out _ HC3.out)
   have c7:=cB 7 (FX.out _ HC3.out)
   have c8:=cB 8 (FX.out _ HC3.out)
   have c9:=cB 9 (FX.out _ HC3.out)
   have d0:=cB 0 (FY.out _ HC3.out)
   have d1:=cB 1 (FY.out _ HC3.out)
   have d2:=cB 2 (FY.out _ HC3.out)
   have d3:=cB 3 (FY.out _ HC3.out)
   have d4:=cB 4 (FY.out _ HC3.out)
   have d5:=cB 5 (FY.out _ HC3.out)
   have d6:=cB 6 (FY.out _ HC3.out)
   have d7:=cB 7 (FY.out _ HC3.out)
   have d8:=cB 8 (FY.out _ HC3.out)
   have d9:=cB 9 (FY.out _ HC3.out)
   have KK4:=(fun (V:World) (hV:Bl w V)=>likeRules_any _ _ _ _ _ _ xpla xpol xhor V (HXI.out.below hV).pla (HYI.out.below hV).pla (HXI.out.below hV).pol (HYI.out.below hV).pol (HXI.out.below hV).hor (HYI.out.below hV).hor) z3 (HBW.out.trans (HC3.out.mono HBW.out.size))
   go_wp2_with fail
   (with_reducible refine KK4.mono ?_)
   rintro _ z4 ⟨rfl,hz4⟩
   clear KK4
   have HC4:=bT0 HC3 hz4
   clear hz4
   clear c0 d0 c1 d1 c2 d2 c3 d3 c4 d4 c5 d5 c6 d6 c7 d7 c8 d8 c9 d9
   have c0:=cB 0 (FX.out _ HC4.out)
   have c1:=cB 1 (FX.out _ HC4.out)
   have c2:=cB 2 (FX.out _ HC4.out)
   have c3:=cB 3 (FX.out _ HC4.out)
   have c4:=cB 4 (FX.out _ HC4.out)
   have c5:=cB 5 (FX.out _ HC4.out)
   have c6:=cB 6 (FX.out _ HC4.out)
   have c7:=cB 7 (FX.out _ HC4.out)
   have c8:=cB 8 (FX.out _ HC4.out)
   have c9:=cB 9 (FX.out _ HC4.out)
   have d0:=cB 0 (FY.out _ HC4.out)
   have d1:=cB 1 (FY.out _ HC4.out)
   have d2:=cB 2 (FY.out _ HC4.out)
   have d3:=cB 3 (FY.out _ HC4.out)
   have d4:=cB 4 (FY.out _ HC4.out)
   have d5:=cB 5 (FY.out _ HC4.out)
   have d6:=cB 6 (FY.out _ HC4.out)
   have d7:=cB 7 (FY.out _ HC4.out)
   have d8:=cB 8 (FY.out _ HC4.out)
   have d9:=cB 9 (FY.out _ HC4.out)
   go_wp2_with fail
   go_ret
   exact ⟨rfl,(HBW.out.trans (HC4.out.mono HBW.out.size))⟩
  have hlt':k<ytabs.length:=by have:=er_len HL1.out;omega
  have hlt4:(k:Int)<(ytabs.length:Int):=by omega
  have hlt3:(k:Int)<(xtabs.length:Int):=by omega
  obtain ⟨b,off,rfl,hF,hcl⟩:=RdE.at_ (K:=2) (enc:=RTv.enc) (fun _=>rfl) (by omega) Hx2.out hlt
  obtain ⟨b',off',rfl,hF',hcl'⟩:=RdE.at_ (K:=2) (enc:=RTv.enc) (fun _=>rfl) (by omega) Hy2.out hlt'
  have HBL:=hI0 hF
  have HBM:=hI0 hF'
  have hcx:=hcl k hlt
  have hcy:=hcl' k hlt'
  have hxy:=er_at HL1.out hlt hlt'
  have ha:=List.getElem_mem hlt
  have hb:=List.getElem_mem hlt'
  obtain ⟨x,hx⟩:=eN0 (xtabs[k])
  obtain ⟨y,hy⟩:=eN0 (ytabs[k])
  rw [←hx] at hcx hxy ha
  rw [←hy] at hcy hxy hb
  clear hx hy hcl hcl' hF hF'
  have K0:=fun (V:World) (hV:Bl w V)=>trB (sameVersions_any _ _ x.vers y.vers V ((HXI.out.tabI _ ha).below hV) ((HYI.out.tabI _ hb).below hV) (vers_er hxy)) rfl
  obtain ⟨xt,xA,xc,xv⟩:=x
  obtain ⟨yt,yA,yc,yv⟩:=y
  simp only [RTv.er,RTv.mk.injEq,true_and] at hxy
  obtain ⟨rfl,hL1⟩:=hxy
  have KC:∀(V:World),Bl w V→Calls prog 103 #[.slice xA xv.length xc,.slice yA yv.length yc] V (TrB V):=K0
  clear K0
  have g0:w.cell? ⟨b,off+k*2,none⟩=some (.string xt):=hcx 0 _ (by decide) rfl
  have g1:=hcx 1 _ (by decide) rfl
  have h0:w.cell? ⟨b',off'+k*2,none⟩=some (.string xt):=hcy 0 _ (by decide) rfl
  have h1:=hcy 1 _ (by decide) rfl
  clear hcx hcy ha hb hL1
  have ff0:(xt.toList != xt.toList)=false:=by simp
  go_wp2_with fail
  refine wp_region_noPanic ?_
  refine wp_region_held_drew (S:=(fun w'=>Bl W w')) (by kernel_rfl) ?_ (fun zh=>?_)
  ·exact HB2.out.drew
  refine hT 0 75 ?_
  refine hU 1 76 (v:=?_) zh ?_ ?_
  rotate_left
  ·exact zq108
  refine hT 2 77 ?_
  refine hT 3 78 ?_
  refine hT 4 79 ?_
  refine hU 5 80 (v:=?_) zh ?_ ?_
  rotate_left
  ·intro w' hSw;(try dsimp only at hSw);have Z:=(bU0 HBW hSw).block _ HBL.out;have q0:=cQ Z g0;go_simp<;>with_reducible rfl
  refine hT 6 81 ?_
  refine hU 7 82 (v:=?_) zh ?_ ?_
  rotate_left
  ·exact zq109
  refine hT 8 83 ?_
  refine hT 9 84 ?_
  refine hT 10 85 ?_
  refine hU 11 86 (v:=?_) zh ?_ ?_
  rotate_left
  ·intro w' hSw;(try dsimp only at hSw);have Z:=(bU0 HBW hSw).block _ HBM.out;have q0:=cQ Z h0;go_simp<;>with_reducible rfl
  refine hT 12 87 ?_
  refine hT 13 88 ?_
  refine hT 14 89 ?_
  refine hU 15 90 (v:=?_) zh ?_ ?_
  rotate_left
  ·exact zq108
  refine hT 16 91 ?_
  refine hT 17 92 ?_
  refine hT 18 93 ?_
  refine hU 19 94 (v:=?_) zh ?_ ?_
  rotate_left
  ·intro w' hSw;(try dsimp only at hSw);have Z:=(bU0 HBW hSw).block _ HBL.out;have q1:=cQ Z g1;go_simp<;>with_reducible rfl
  refine hT 20 95 ?_
  refine hU 21 96 (v:=?_) zh ?_ ?_
  rotate_left
  ·exact zq109
  refine hT 22 97 ?_
  refine hT 23 98 ?_
  refine hT 24 99 ?_
  refine hU 25 100 (v:=?_) zh ?_ ?_
  rotate_left
  ·intro w' hSw;(try dsimp only at hSw);have Z:=(bU0 HBW hSw).block _ HBM.out;have q1:=cQ Z h1;go_simp<;>with_reducible rfl
  refine hC 26 101 ?_
  (with_reducible refine (KC _ (bU0 HBW zh)).mono ?_)
  rintro _ z ⟨rfl,hz⟩
  refine ⟨_,rfl,keepAnd (Below.trans zh (hz.mono zh.size)) ?_⟩
  clear zh
  intro zh
  simp only [aP]
  refine hT 27 102 ?_
  refine hT 28 103 ?_
  refine rD0 ?_
  have HZ:Hid (Bl W _):=hI0 zh
  go_wp2_with fail
  go_roundw
  case rel=>exact ⟨k+1,by go_num,hlt,HZ⟩
  case measure=>simp [intOf];omega
 have hlt3:(k:Int)<(xstms.length:Int):=by omega
 obtain ⟨b,off,rfl,hF,hcl⟩:=RdE.at_ (K:=2) (enc:=Stm.enc) (fun _=>rfl) (by omega) Hx1.out hlt
 obtain ⟨b',off',rfl,hF',hcl'⟩:=RdE.at_ (K:=2) (enc:=Stm.enc) (fun _=>rfl) (by omega) Hy1.out hlt
 have HBL:=hI0 hF
 have HBM:=hI0 hF'
 have hcx:=hcl k hlt
 have hcy:=hcl' k hlt
 obtain ⟨x,hx⟩:=eN0 (xstms[k])
 rw [←hx] at hcx hcy
 clear hx hcl hcl' hF hF'
 obtain ⟨x1,x2⟩:=x
 have g0:w.cell? ⟨b,off+k*2,none⟩=some (.int .i64 x1):=hcx 0 _ (by decide) rfl
 have g1:=hcx 1 _ (by decide) rfl
 have h0:w.cell? ⟨b',off'+k*2,none⟩=some (.int .i64 x1):=hcy 0 _ (by decide) rfl
 have h1:=hcy 1 _ (by decide) rfl
 clear hcx hcy
 have ff0:(x1 != x1)=false:=by simp
 have ee0:(x1==x1)=true:=by simp
 have ff1:(x2 != x2)=false:=by simp
 have ee1:(x2==x2)=true:=by simp
 go_wp2_with fail
 refine wp_region_noPanic ?_
 refine wp_region_held_drew (S:=(fun w'=>Bl W w')) (by kernel_rfl) ?_ (fun zh=>?_)
 ·exact HB1.out.drew
 refine hT 0 57 ?_
 refine hU 1 58 (v:=?_) zh ?_ ?_
 rotate_left
 ·intro w' hSw;(try dsimp only at hSw);have q0:=cW0 w' _ 5 _ _ _ (FX.out _ hSw);go_simp<;>with_reducible rfl
 refine hT 2 59 ?_
 refine hT 3 60 ?_
 refine hU 4 61 (v:=?_) zh ?_ ?_
 rotate_left
 ·intro w' hSw;(try dsimp only at hSw);have Z:=(bU0 HBW hSw).block _ HBL.out;have q0:=cQ Z g0;have q1:=cQ Z g1;go_simp<;>with_reducible rfl
 refine hT 5 62 ?_
 refine hU 6 63 (v:=?_) zh ?_ ?_
 rotate_left
 ·intro w' hSw;(try dsimp only at hSw);have q0:=cW0 w' _ 5 _ _ _ (FY.out _ hSw);go_simp<;>with_reducible rfl
 refine hT 7 64 ?_
 refine hT 8 65 ?_
 refine hU 9 66 (v:=?_) zh ?_ ?_
 rotate_left
 ·intro w' hSw;(try dsimp only at hSw);have Z:=(bU0 HBW hSw).block _ HBM.out;have q0:=cQ Z h0;have q1:=cQ Z h1;go_simp<;>with_reducible rfl
 refine hT 10 67 ?_
 refine rD0 ?_
 have HZ:Hid (Bl W _):=hI0 zh
 go_wp2_with fail
 go_roundw
 case rel=>exact ⟨k+1,by go_num,hlt,HZ⟩
 case measure=>simp [intOf];omega
theorem state_any (c:RSt) (w:World) (hc:c.is w (ltw w)) (hlm:c.lim w):Calls prog 20 #[.agg c.enc.toArray] w (BoolO w):=by
 have HI0:=hI0 hc
 have HL0:=hI0 hlm
 obtain ⟨stx,stm,swl,snx,seA,seC,sents,ssA,ssC,sstms,stA,stC,stabs,spA,spC,spla,sqA,sqC,spol,shA,shC,shor⟩:=c
 have HI:Hid (RSt.is w (ltw w) ⟨stx,stm,swl,snx,seA,seC,sents,ssA,ssC,sstms,stA,stC,stabs,spA,spC,spla,sqA,sqC,spol,shA,shC,shor⟩):=HI0
 have HLM:Hid (RSt.lim w ⟨stx,stm,swl,snx,seA,seC,sents,ssA,ssC,sstms,stA,stC,stabs,spA,spC,spla,sqA,sqC,spol,shA,shC,shor⟩):=HL0
 have n1:=hlm.ents
 have n2:=hlm.stms
 have n3:=hlm.tabs
 have n4:=hlm.pla
 have n5:=hlm.pol
 have n6:=hlm.hor
 simp only at n1 n2 n3 n4 n5 n6
 show Calls prog 20 #[.agg #[.int .i64 stx,.int .i64 stm,.int .i64 swl,.int .i64 snx,.slice seA sents.length seC,.slice ssA sstms.length ssC,.slice stA stabs.length stC,.slice spA spla.length spC,.slice sqA spol.length sqC,.slice shA shor.length shC]] w _
 clear hc hlm HI0 HL0
 obtain ⟨W,hW⟩:=eN0 (w.alloc (.cells #[.int .i64 stx,.int .i64 stm,.int .i64 swl,.int .i64 snx,.slice seA sents.length seC,.slice ssA sstms.length ssC,.slice stA stabs.length stC,.slice spA spla.length spC,.slice sqA spol.length sqC,.slice shA shor.length shC] 47))
 have HBW:Hid (Bl w W):=hI0 zi25
 have HT:Hid (W.heap[w.heap.size]? =some (.cells #[.int .i64 stx,.int .i64 stm,.int .i64 swl,.int .i64 snx,.slice seA sents.length seC,.slice ssA sstms.length ssC,.slice stA stabs.length stC,.slice spA spla.length spC,.slice sqA spol.length sqC,.slice shA shor.length shC] 47 (0,0))):=hI0 zi23
 have c5:=cW1 5 HT.out rfl
 have c6:=cW1 6 HT.out rfl
 have c7:=cW1 7 HT.out rfl
 have c8:=cW1 8 HT.out rfl
 have c9:=cW1 9 HT.out rfl
 have i1:(sstms.length:Int)+(stabs.length:Int)≤9223372036854775807:=by omega
 have i2:(sstms.length:Int)+(stabs.length:Int)+(spla.length:Int)≤9223372036854775807:=by omega
 have i3:(sstms.length:Int)+(stabs.length:Int)+(spla.length:Int)+(spol.length:Int)≤9223372036854775807:=by omega
 have i4:(sstms.length:Int)+(stabs.length:Int)+(spla.length:Int)+(spol.length:Int)+(shor.length:Int)≤9223372036854775807:=by omega
 go_in
 go_wp2_with fail
 rw [←hW]
 clear hW i1 i2 i3 i4 c5 c6 c7 c8 c9
 go_loopw [3,4] (fun n i wr=>∃(m:Int) (k:Nat),n=.int .i64 m∧i=.int .i64 (k:Int)∧k≤stabs.length∧0≤m∧m≤100000000∧Hid (Bl w wr)∧Hid (wr.heap[w.heap.size]? =some (.cells #[.int .i64 stx,.int .i64 stm,.int .i64 swl,.int .i64 snx,.slice seA sents.length seC,.slice ssA sstms.length ssC,.slice stA stabs.length stC,.slice spA spla.length spC,.slice sqA spol.length sqC,.slice shA shor.length shC] 47 (0,0)))) (fun _ i _=>stabs.length-(intOf i).toNat)
 case atStart=>exact ⟨_,0,rfl,rfl,Nat.zero_le _,by omega,by omega,HBW,HT⟩
 obtain ⟨m,k,rfl,rfl,hk,hm0,hm1,HB,HTB⟩:=hrel
 obtain ⟨wi,rfl⟩:=eN0 wr
 have c6:=cW1 6 HTB.out rfl
 have c4:=cW1 4 HTB.out rfl
 have KE:=entries_any (.slice seA sents.length seC) sents wi (HI.out.ents.below HB.out) (fun x hx=>((HI.out.entI x hx).below HB.out).create) (fun x hx e he=>⟨(HLM.out.exps x hx e he).1.below HB.out,(HLM.out.exps x hx e he).2⟩)
 by_cases hlt:k<stabs.length
 case neg=>
  have hn:¬(k:Int)<(stabs.length:Int):=by omega
  by_cases h9:m≤300
  case neg=>
   go_wp2_with fail
   go_ret
   exact ⟨_,rfl,HB.out⟩
  go_wp2_with fail
  (with_reducible refine KE.mono ?_)
  rintro _ w2 ⟨r,rfl,hb2⟩
  have HB2:=bT0 HB hb2
  clear hb2 KE
  go_wp2_with fail
  go_ret
  exact ⟨_,rfl,HB2.out⟩
 have hlt2:(k:Int)<(stabs.length:Int):=by omega
 by_cases h300:m≤300
 case neg=>
  go_wp2_with fail
  go_ret
  exact ⟨_,rfl,HB.out⟩
 clear KE c4
 obtain ⟨b,off,rfl,hF,hcl⟩:=RdE.at_ (K:=2) (enc:=RTv.enc) (fun _=>rfl) (by omega) (HI.out.tabs.below HB.out) hlt
 have hcx0:=hcl k hlt
 have hmem:=List.getElem_mem hlt
 obtain ⟨x,hx⟩:=eN0 (stabs[k])
 rw [←hx] at hcx0 hmem
 have hdi:=HI.out.tabI _ hmem
 have hdr:=HLM.out.rows _ hmem
 clear hcl hF hx hmem
 obtain ⟨tb,vA,vC,vers⟩:=x
 simp only at hdr
 have HDI:Hid (RdVs w (ltw w) (.slice vA vers.length vC) vers):=hI0 hdi
 have HDR:=hI0 hdr
 have hf1:=hdr.1
 have g1:wi.cell? ⟨b,off+k*2+1,none⟩=some (.slice vA vers.length vC):=hcx0 1 _ (by decide) rfl
 clear hcx0 hdi hdr
 have i2:m+(vers.length:Int)≤9223372036854775807:=by omega
 have i3: -9223372036854775808≤m+(vers.length:Int):=by omega
 have HLK:=hI0 hlt
 have G1:=hI0 g1
 have HM:=hI0 hm0
 have h300':=h300
 go_wp2_with fail
 go_loopw [3,5] (fun n i wr=>∃(m:Int) (j:Nat),n=.int .i64 m∧i=.int .i64 (j:Int)∧j≤vers.length∧0≤m∧m≤3000000∧wr=wi) (fun _ i _=>vers.length-(intOf i).toNat)
 case atStart=>exact ⟨_,0,rfl,rfl,Nat.zero_le _,by omega,by omega,rfl⟩
 obtain ⟨m',j,rfl,rfl,hj,hm0',hm1',hw⟩:=hrel
 rw [hw]
 clear hw hlt g1 i2 i3 h300 h300'
 have g1:wi.cell? ⟨b,off+k*2+1,none⟩=some (.slice vA vers.length vC):=G1.out
 by_cases hlt:j<vers.length
 case neg=>
  have hn:¬(j:Int)<(vers.length:Int):=by omega
  go_wp2_with fail
  go_roundw
  case rel=>exact ⟨m',k+1,by go_num,by go_num,HLK.out,hm0',by omega,HB,HTB⟩
  case measure=>have:=HLK.out;simp [intOf];omega
 have hlt3:(j:Int)<(vers.length:Int):=by omega
 by_cases h300:m'≤300
 case neg=>
  go_wp2_with fail
  go_roundw
  case rel=>exact ⟨m',k+1,by go_num,by go_num,HLK.out,hm0',by omega,HB,HTB⟩
  case measure=>have:=HLK.out;simp [intOf];omega
 obtain ⟨b3,off3,rfl,hF,hcl,hxv⟩:=RdVs.at_ (HDI.out.below HB.out) hlt
 have hyr:=HDR.out.2 _ (List.getElem_mem hlt)
 obtain ⟨y,hy⟩:=eN0 (vers[j])
 rw [←hy] at hcl hxv hyr
 clear hy
 obtain ⟨⟨y1,y2,yA,yn,yc,y3,y4,y5,y6,y7,y8⟩,y⟩:=y
 simp only at hcl hxv hyr
 have hrow:=hxv.row
 obtain ⟨r1,r2,r3,r4,r5⟩:=Rd.open_ (show Rd wi _ _ _ _ _ from hrow)
 have g9:wi.cell? ⟨b3,off3+j*9+2,none⟩=some (.slice yA yn yc):=hcl 2 _ (by decide) rfl
 have hfn:yn=y.row.length:=by injection r3
 clear hcl hF hxv hrow r4 r5
 have i1:m'+(yn:Int)≤9223372036854775807:=by omega
 have i2: -9223372036854775808≤m'+(yn:Int):=by omega
 go_wp2_with fail
 go_roundw
 case rel=>exact ⟨_,j+1,rfl,by go_num,hlt,by omega,by omega,by first|rfl|trivial⟩
 case measure=>simp [intOf];omega
end Go.Proofs.YtbfdegkickjbpaaGreat
