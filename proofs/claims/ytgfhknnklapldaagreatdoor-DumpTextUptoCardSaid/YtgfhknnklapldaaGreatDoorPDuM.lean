/-
 DuM
-/
import Derived.Test.YtgfhknnklapldaaGreatDoorPDuL
import Derived.Test.YtgfhknnklapldaaGreatDoorPSeg1
import Derived.Test.YtgfhknnklapldaaGreatDoorPRk1
import Derived.Test.YtgfhknnklapldaaGreatDoorPVer
namespace Go.Proofs.YtgfhknnklapldaaGreatDoor
open Go.Proofs.Tryz
set_option maxRecDepth 99999
set_option maxHeartbeats 0
open Go.RowKit Go.Lib Go.IntWalk Go.Sort Go.Shelf
theorem rtable_any (x:RTv) (w:World) (hx:x.is w (ltw w)) (hZ:x.table.size≤maxLen) (hn:x.vers.length≤1048576):
  Calls prog 14 #[.agg x.enc.toArray] w (DtOut x w):=by
 obtain ⟨S,A,c,ps⟩:=x
 show Calls prog 14 #[.agg #[.string S,.slice A ps.length c]] w (DtOut ⟨S,A,c,ps⟩ w)
 have hv:RdVs w (ltw w) (.slice A ps.length c) ps:=hx
 obtain ⟨A0,C0,hAc,z1,z2,_⟩:=hv.1.open_
 simp only [Value.slice.injEq] at hAc
 obtain ⟨rfl,-,rfl⟩:=hAc
 unfold maxLen at z2
 have HVP:=hI0 hv
 have hn':ps.length≤1048576:=hn
 have hZ':S.size≤maxLen:=hZ
 clear hv hx hn hZ
 obtain ⟨res,hres⟩:=eN0 (chkFrom none (ps.map (·.2)))
 have HRES:=hI0 hres
 clear hres
 obtain ⟨W1,hW1⟩:=eN0 (w.alloc (.cells #[.string S,.slice A ps.length c] 37))
 have hbW1:=bN0 hW1
 have hnW1:=hN0 hW1
 have eW1:w.alloc (.cells #[.string S,.slice A ps.length c] 37)=W1:=by rw [hW1]
 clear hW1
 have HB1:Hid (Bl w W1):=hI0 hbW1
 have c0:=cW1 0 hnW1 rfl
 have HT1:=hI0 hnW1
 have KN:=hI0 (kname_any S W1 hZ')
 obtain ⟨bn,hbn⟩:=eN0 (nmB S)
 rw [←hbn] at KN
 have HBN:Hid (bn=nmB S):=hI0 hbn
 clear hbW1 hnW1 hbn hZ'
 cases bn
 case false=>
  have HF:Hid (tabE S (ps.map (·.2))=8):=hI0 (by unfold tabE;rw [←HBN.out];rfl)
  go_in
  go_wp2_with fail
  clear eW1
  (with_reducible refine KN.out.mono ?_)
  rintro _ _ ⟨rfl,rfl⟩
  go_wp2_with fail
  go_ret2
  exact DtOut.bad HF.out (by decide) rfl HB1.out
 have HR:Hid (tabE S (ps.map (·.2))=res):=hI0 (by unfold tabE;rw [←HBN.out,HRES.out];rfl)
 go_in
 go_wp2_with fail
 clear eW1 c0
 (with_reducible refine KN.out.mono ?_)
 rintro _ _ ⟨rfl,rfl⟩
 have c1:=cW1 1 HT1.out rfl
 clear KN
 go_wp2_with fail
 clear c1
 go_loopw [13] (fun i wr=>∃j:Nat,i=.int .i64 (j:Int)∧j≤ps.length∧Hid (chkFrom (prevV (ps.map (·.2)) j) ((ps.map (·.2)).drop j)=res)∧Hid (∀t (h:t<ps.length),t<j→validVer ps[t].2=true)∧Hid (Bl W1 wr)) (fun i _=>ps.length-(intOf i).toNat)
 case atStart=>exact ⟨0,rfl,Nat.zero_le _,hI0 HRES.out.symm,hI0 (fun t h e=>by omega),hI0 (Below.refl _ _)⟩
 obtain ⟨j,rfl,hj,HJ,HPR,HB⟩:=hrel
 obtain ⟨wi,rfl⟩:=eN0 wr
 have hBi:Bl w wi:=HB1.out.trans (HB.out.mono HB1.out.size)
 have HBI:=hI0 hBi
 have HTi:=hI0 (keepRow HB.out HT1.out)
 have hsi:=hBi.size
 by_cases hltj:j<ps.length
 case neg=>
  have hje:j=ps.length:=by omega
  have HZ:Hid (res=0):=hI0 (by rw [←HJ.out];exact chk_end (by rw [List.length_map];exact hje))
  have HVA:Hid (∀p∈ps,validVer p.2=true):=hI0 (fun p hp=>by
   obtain ⟨t,ht,rfl⟩:=List.mem_iff_getElem.1 hp
   exact HPR.out t ht (by omega))
  have hSz:=nmB_le (s:=S) (by rw [←HBN.out])
  have KL:Hid (Calls prog 35 #[.agg #[.string S,.slice A ps.length c]] wi fun e w'=>e=.returned (.string (strB (tvT ⟨S,A,c,ps⟩)))∧Bl wi w'):=hI0 (rlines_any ⟨S,A,c,ps⟩ wi (HVP.out.below hBi) hSz HVA.out hn')
  obtain ⟨c0,c1⟩:=cX2 HTi.out
  clear hje hSz
  go_wp2_with fail
  clear c0 c1
  (with_reducible refine KL.out.mono ?_)
  rintro _ w5 ⟨rfl,hb5⟩
  go_wp2_with fail
  go_ret2
  exact ⟨by unfold dtT;simp only;rw [HR.out,HZ.out];rfl,bU0 HBI hb5⟩
 obtain ⟨b2,off2,rfl,hF2,hcl,hx⟩:=RdVs.at_ (HVP.out.below hBi) hltj
 have hst:=chk_step (xs:=ps.map (·.2)) (k:=j) (by rw [List.length_map];exact hltj)
 rw [HJ.out,List.getElem_map] at hst
 have hpv:0<j→∃q:VP,prevV (ps.map (·.2)) j=some q.2∧VerIs wi (ltw wi) q.1 q.2∧∀t u,t<9→q.1.enc[t]? =some u→wi.cell? ⟨b2,off2+(j-1)*9+t,none⟩=some u:=fun h0=>by
  obtain ⟨b',off',e,_,hcl',hx'⟩:=RdVs.at_ (HVP.out.below hBi) (k:=j-1) (by omega)
  injection e with e;injection e with e1 e2;subst e1;subst e2
  refine ⟨ps[j-1],?_,hx',hcl'⟩
  unfold prevV
  rw [if_neg (by omega),List.getElem?_map,List.getElem?_eq_getElem (by omega)];rfl
 have HPV:=hI0 hpv
 have HST:=hI0 hst
 have HNX:Hid (∀t (h:t<ps.length),t<j+1→validVer ps[j].2=true→validVer ps[t].2=true):=hI0 (fun t ht e hv=>by
  by_cases htj:t<j
  ·exact HPR.out t ht htj
  ·have:t=j:=by omega
   subst this
   exact hv)
 clear hst hpv
 generalize ps[j]=p at *
 obtain ⟨⟨x1,x2,xA,xn,xc,x3,x4,x5,x6,x7,x8⟩,x⟩:=p
 simp only at hcl hx HST HNX
 obtain ⟨g0,g1,g2,g3,g4,g5,g6,g7,g8⟩:=cK9 hcl (show _=[.int .i64 x1,.int .i64 x2,.slice xA xn xc,.int .i64 x3,.int .i64 x4,.int .i64 x5,.int .i64 x6,.int .i64 x7,.int .i64 x8] from rfl)
 have HX:=hI0 hx
 clear hcl hx
 obtain ⟨W3,hW3⟩:=eN0 (wi.alloc (.cells #[.int .i64 x1,.int .i64 x2,.slice xA xn xc,.int .i64 x3,.int .i64 x4,.int .i64 x5,.int .i64 x6,.int .i64 x7,.int .i64 x8] 56))
 have hbW3:=bN0 hW3
 have hnW3:=hN0 hW3
 have eW3:wi.alloc (.cells #[.int .i64 x1,.int .i64 x2,.slice xA xn xc,.int .i64 x3,.int .i64 x4,.int .i64 x5,.int .i64 x6,.int .i64 x7,.int .i64 x8] 56)=W3:=by rw [hW3]
 clear hW3
 have HX3:=hI0 hnW3
 have HBW:=hI0 hbW3
 have KV:=hI0 (show Calls prog 33 #[.agg #[.int .i64 x1,.int .i64 x2,.slice xA xn xc,.int .i64 x3,.int .i64 x4,.int .i64 x5,.int .i64 x6,.int .i64 x7,.int .i64 x8]] W3 (fun e w'=>e=.returned (.bool (validVer x))∧Bl W3 w') from refVersion_any (⟨x1,x2,xA,xn,xc,x3,x4,x5,x6,x7,x8⟩:RV) x W3 ((HX.out.keep (Keeps.below hbW3)).wide (fun b' (h:b'<wi.heap.size)=>by show b'<W3.heap.size;have:=hbW3.size;omega)))
 have c1:=cW1 1 HX3.out rfl
 have c0:=cW1 0 HX3.out rfl
 have c2:=cW1 2 HX3.out rfl
 have c3:=cW1 3 HX3.out rfl
 have c4:=cW1 4 HX3.out rfl
 have c5:=cW1 5 HX3.out rfl
 have c6:=cW1 6 HX3.out rfl
 have c7:=cW1 7 HX3.out rfl
 have c8:=cW1 8 HX3.out rfl
 clear hbW3 hnW3
 go_wp2_with fail
 clear eW3 g0 c0 g1 c1 g2 c2 g3 c3 g4 c4 g5 c5 g6 c6 g7 c7 g8 c8
 (with_reducible refine KV.out.mono ?_)
 rintro _ w2 ⟨rfl,hb2⟩
 have HBO:=bT0 HBW hb2
 have HB2:Hid (Bl w w2):=hI0 (HBI.out.trans (HBO.out.mono HBI.out.size))
 have HB12:Hid (Bl W1 w2):=hI0 (HB.out.trans (HBO.out.mono HB.out.size))
 have HT2:=hI0 (keepRow HBO.out HTi.out)
 have HX2:=hI0 (keepRow hb2 HX3.out)
 clear hb2 KV HBW
 by_cases hval:validVer x=true
 case neg=>
  have HVL:=hI0 (show validVer x=false by simpa using hval)
  have HF:Hid (tabE S (ps.map (·.2))=8):=hI0 (by rw [HR.out,HST.out,if_neg hval])
  rw [HVL.out]
  clear hval
  go_wp2_with fail
  go_ret2
  exact DtOut.bad HF.out (by decide) rfl HB2.out
 have HVL:=hI0 hval
 rw [HVL.out]
 have HNP:Hid (∀t (h:t<ps.length),t<j+1→validVer ps[t].2=true):=hI0 (fun t h e=>HNX.out t h e hval)
 have HC:Hid (res=if okPrev (prevV (ps.map (·.2)) j) x=true then chkFrom (prevV (ps.map (·.2)) (j+1)) ((ps.map (·.2)).drop (j+1)) else 9):=hI0 (by rw [HST.out,if_pos hval])
 clear hval
 have LB:Hid (∀w',Bl w2 w'→∀j u,[.int .i64 x1,.int .i64 x2,.slice xA xn xc,.int .i64 x3,.int .i64 x4,.int .i64 x5,.int .i64 x6,.int .i64 x7,.int .i64 x8][j]? =some u→w'.cell? ⟨wi.heap.size,j,none⟩=some u):=hI0 (fun w' h j u hj=>(cW0 _ wi.heap.size j _ _ _ (keepRow h HX2.out)).trans (by simpa using hj))
 have TB:Hid (∀w',Bl w2 w'→w'.cell? ⟨w.heap.size,1,none⟩=some (.slice (some ⟨b2,off2,none⟩) ps.length c)):=hI0 (fun w' h=>cW0 _ _ 1 _ _ _ (keepRow h HT2.out))
 by_cases h0:j=0
 case pos=>
  have HN:Hid (chkFrom (prevV (ps.map (·.2)) (j+1)) ((ps.map (·.2)).drop (j+1))=res):=hI0 (by rw [HC.out,if_pos (by subst h0;rfl)])
  have hz1:¬(0:Int)<(j:Int):=by omega
  have hz2:¬ 0<j:=by omega
  clear h0
  go_wp2_with fail
  refine rB0 w2 (fun zh=>?_)
  refine hT 0 21 ?_
  refine hT 1 22 ?_
  refine hT 2 23 ?_
  refine hK 3 24 ?_
  refine hK 4 25 ?_
  refine hK 5 26 ?_
  refine hK 6 27 ?_
  refine hK 7 28 ?_
  refine hK 8 29 ?_
  refine hK 9 30 ?_
  refine hK 10 31 ?_
  refine hK 11 32 ?_
  refine hT 12 33 ?_
  refine rD0 ?_
  clear zh
  go_wp2_with fail
  go_roundw
  case rel=>exact ⟨j+1,by go_num,by omega,HN,HNP,hI0 HB12.out.drew⟩
  case measure=>simp [intOf];omega
 obtain ⟨q,hq1,hq2,hq3⟩:=HPV.out (by omega)
 obtain ⟨i,rfl⟩:∃i,j=i+1:=⟨j-1,by omega⟩
 rw [Nat.add_sub_cancel] at hq3
 obtain ⟨⟨y1,y2,yA,yn,yc,y3,y4,y5,y6,y7,y8⟩,y⟩:=q
 simp only at hq1 hq2 hq3
 have HST2:=HC.out
 rw [hq1] at HST2
 have eo:okPrev (some y) x=ltV y x:=rfl
 rw [eo] at HST2
 have hlv:=hq2.lt HX.out
 obtain ⟨lb,hlb⟩:=eN0 (ltV y x)
 rw [←hlb] at hlv HST2
 have HS2:=hI0 HST2
 clear HST2 hq1 hlb HPV eo
 have PC:Hid (∀w',Bl w2 w'→∀j u,j<9→[.int .i64 y1,.int .i64 y2,.slice yA yn yc,.int .i64 y3,.int .i64 y4,.int .i64 y5,.int .i64 y6,.int .i64 y7,.int .i64 y8][j]? =some u→w'.cell? ⟨b2,off2+i*9+j,none⟩=some u):=hI0 (fun w' h j u hj hu=>(World.cell?_of_block ((h.block b2 (by have:=HBO.out.size;omega)).trans (HBO.out.block b2 (by omega)))).trans (hq3 j u hj hu))
 clear hq3 hq2
 have ew:IntKind.i64.wrap (((i+1:Nat):Int)-1)=((i:Nat):Int):=by rw [IntKind.wrap_i64];omega
 have hil:(i:Int)<(ps.length:Int):=by omega
 have hip:(0:Int)<((i+1:Nat):Int):=by omega
 have KC:∀W,Calls prog 34 #[.agg #[.int .i64 y1,.int .i64 y2,.slice yA yn yc,.int .i64 y3,.int .i64 y4,.int .i64 y5,.int .i64 y6,.int .i64 y7,.int .i64 y8],.agg #[.int .i64 x1,.int .i64 x2,.slice xA xn xc,.int .i64 x3,.int .i64 x4,.int .i64 x5,.int .i64 x6,.int .i64 x7,.int .i64 x8]] W fun e w'=>e=.returned (.bool lb)∧Bl W w':=fun W=>by rw [←hlv];exact before_any (⟨y1,y2,yA,yn,yc,y3,y4,y5,y6,y7,y8⟩:RV) (⟨x1,x2,xA,xn,xc,x3,x4,x5,x6,x7,x8⟩:RV) W
 clear hlv
 obtain ⟨z,hz⟩:=eN0 (i+1)
 have HZ:=hI0 hz
 rw [←hz] at ew hip hltj HS2 HJ HNP ⊢
 have hz0:0<z:=by omega
 have HLT:=hI0 (And.intro hltj (show i+1≤ps.length from hj))
 clear hz
 go_wp2_with fail
 refine rB0 w2 (fun zh=>?_)
 refine hT 0 21 ?_
 refine hT 1 22 ?_
 refine hT 2 23 ?_
 refine hT 3 24 ?_
 refine hU 4 25 (v:=?_) zh ?_ ?_
 rotate_left
 ·intro w' hSw;(try dsimp only at hSw);have c1:w'.cell? ⟨w.heap.size,1,none⟩=some (.slice (some ⟨b2,off2,none⟩) ps.length c):=TB.out w' hSw;go_simp<;>with_reducible rfl
 refine hT 5 26 ?_
 refine hT 6 27 ?_
 refine hT 7 28 ?_
 refine hU 8 29 (v:=?_) zh ?_ ?_
 rotate_left
 ·intro w' hSw;(try dsimp only at hSw);have c0:w'.cell? ⟨b2,off2+i*9,none⟩=some (.int .i64 y1):=PC.out w' hSw 0 _ (by decide) rfl;have c1:w'.cell? ⟨b2,off2+i*9+1,none⟩=some (.int .i64 y2):=PC.out w' hSw 1 _ (by decide) rfl;have c2:w'.cell? ⟨b2,off2+i*9+2,none⟩=some (.slice yA yn yc):=PC.out w' hSw 2 _ (by decide) rfl;have c3:w'.cell? ⟨b2,off2+i*9+3,none⟩=some (.int .i64 y3):=PC.out w' hSw 3 _ (by decide) rfl;have c4:w'.cell? ⟨b2,off2+i*9+4,none⟩=some (.int .i64 y4):=PC.out w' hSw 4 _ (by decide) rfl;have c5:w'.cell? ⟨b2,off2+i*9+5,none⟩=some (.int .i64 y5):=PC.out w' hSw 5 _ (by decide) rfl;have c6:w'.cell? ⟨b2,off2+i*9+6,none⟩=some (.int .i64 y6):=PC.out w' hSw 6 _ (by decide) rfl;have c7:w'.cell? ⟨b2,off2+i*9+7,none⟩=some (.int .i64 y7):=PC.out w' hSw 7 _ (by decide) rfl;have c8:w'.cell? ⟨b2,off2+i*9+8,none⟩=some (.int .i64 y8):=PC.out w' hSw 8 _ (by decide) rfl;go_simp<;>with_reducible rfl
 refine hU 9 30 (v:=?_) zh ?_ ?_
 rotate_left
 ·intro w' hSw;(try dsimp only at hSw);have c0:w'.cell? ⟨wi.heap.size,0,none⟩=some (.int .i64 x1):=LB.out w' hSw 0 _ rfl;have c1:w'.cell? ⟨wi.heap.size,1,none⟩=some (.int .i64 x2):=LB.out w' hSw 1 _ rfl;have c2:w'.cell? ⟨wi.heap.size,2,none⟩=some (.slice xA xn xc):=LB.out w' hSw 2 _ rfl;have c3:w'.cell? ⟨wi.heap.size,3,none⟩=some (.int .i64 x3):=LB.out w' hSw 3 _ rfl;have c4:w'.cell? ⟨wi.heap.size,4,none⟩=some (.int .i64 x4):=LB.out w' hSw 4 _ rfl;have c5:w'.cell? ⟨wi.heap.size,5,none⟩=some (.int .i64 x5):=LB.out w' hSw 5 _ rfl;have c6:w'.cell? ⟨wi.heap.size,6,none⟩=some (.int .i64 x6):=LB.out w' hSw 6 _ rfl;have c7:w'.cell? ⟨wi.heap.size,7,none⟩=some (.int .i64 x7):=LB.out w' hSw 7 _ rfl;have c8:w'.cell? ⟨wi.heap.size,8,none⟩=some (.int .i64 x8):=LB.out w' hSw 8 _ rfl;go_simp<;>with_reducible rfl
 refine hC 10 31 ?_
 (with_reducible refine (KC _).mono ?_)
 rintro _ w3 ⟨rfl,hb3'⟩
 have hb3:Bl w2 w3:=(Below.undrew hb3')
 refine ⟨_,rfl,keepAnd hb3 ?_⟩
 clear zh
 intro zh
 simp only [aP]
 refine hT 11 32 ?_
 refine hT 12 33 ?_
 refine rD0 ?_
 clear zh
 have HB3:=bT0 HB2 hb3
 have HB13:=bT0 HB12 hb3
 cases lb
 case false=>
  have HF:Hid (tabE S (ps.map (·.2))=9):=hI0 (by rw [HR.out,HS2.out];exact if_neg (by decide))
  go_wp2_with fail
  go_ret2
  exact DtOut.bad HF.out (by decide) rfl HB3.out
 have HN:Hid (res=chkFrom (prevV (ps.map (·.2)) (z+1)) ((ps.map (·.2)).drop (z+1))):=hI0 (by rw [HS2.out];exact if_pos rfl)
 go_wp2_with fail
 go_roundw
 case rel=>exact ⟨z+1,by go_num,by have:=HLT.out.1;omega,hI0 HN.out.symm,HNP,HB13⟩
 case measure=>have q1:=HLT.out.1;have q2:=HZ.out;simp [intOf];omega
end Go.Proofs.YtgfhknnklapldaaGreatDoor
