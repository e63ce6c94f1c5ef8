/-
 RkB
-/
import Derived.Test.YtbfdegkickjbpaaGreatGRkA
import Derived.Test.YtbfdegkickjbpaaGreatGRcO
namespace Go.Proofs.YtbfdegkickjbpaaGreat
set_option maxRecDepth 1000000
set_option maxHeartbeats 32000000
open Go.RowKit Go.Lib Go.IntWalk Go.Sort Go.Shelf
theorem kword_any (S:ByteArray) (w:World) (h:S.size≤maxLen):Calls Tryz.prog 44 #[.string S] w fun e w'=>e=.returned (.bool (nmB S))∧Below w.heap.size w w':=
 (kname_any S w h).mono fun e w' ⟨h1,h2⟩=>⟨h1,by rw [←h2];exact Below.refl _ _⟩
theorem kchange_any (x1:Int) (x2 x3 x4:ByteArray) (x5:Int) (x6:Bool) (x7 x8:Int) (x9:ByteArray) (w:World) (hs:x9.size≤maxLen) (hx2:x2.size≤maxLen) (hx3:x3.size≤maxLen) (hx4:x4.size≤maxLen):
  Calls Tryz.prog 145 #[.agg #[.int .i64 x1,.string x2,.string x3,.string x4,.int .i64 x5,.bool x6,.int .i64 x7,.int .i64 x8,.string x9]] w fun e w'=>e=.returned (.bool (Chn.ok ⟨x1,x2,x3,x4,x5,x6,⟨x7,x8,x9⟩⟩))∧Below w.heap.size w w':=by
 obtain ⟨W0,hW0⟩:∃W,W=w.alloc (.cells #[.int .i64 x1,.string x2,.string x3,.string x4,.int .i64 x5,.bool x6,.int .i64 x7,.int .i64 x8,.string x9] 81):=⟨_,rfl⟩
 obtain ⟨W,hW⟩:∃W,W=W0.alloc (.cells #[.string x2,.string x3,.string x4] 9):=⟨_,rfl⟩
 have hb0:Below w.heap.size w W0:=by rw [hW0];exact Below.of_alloc _
 have hb1:Below W0.heap.size W0 W:=by rw [hW];exact Below.of_alloc _
 have hT0:W0.heap[w.heap.size]? =some (.cells #[.int .i64 x1,.string x2,.string x3,.string x4,.int .i64 x5,.bool x6,.int .i64 x7,.int .i64 x8,.string x9] 81 (0,0)):=by rw [hW0];exact heap_alloc_new _ _
 have hz0:W0.heap.size=w.heap.size+1:=by rw [hW0];simp
 have hN:W.heap[w.heap.size+1]? =some (.cells #[.string x2,.string x3,.string x4] 9 (0,0)):=by rw [hW,←hz0];exact heap_alloc_new _ _
 have hz1:W.heap.size=w.heap.size+2:=by rw [hW];simp [hz0]
 have HT:=hI0 ((hb1.block w.heap.size (by omega)).trans hT0)
 have HN:=hI0 hN
 have HZ:=hI0 hz1
 have HBW:Hid (Below w.heap.size w W):=hI0 (hb0.trans (hb1.mono hb0.size))
 obtain ⟨rs,hrs⟩:∃r,r=Chn.ok ⟨x1,x2,x3,x4,x5,x6,⟨x7,x8,x9⟩⟩:=⟨_,rfl⟩
 rw [←hrs]
 have HR:Hid (rs=(emW x2&&(emW x3&&(emW x4&&(decide (1≤x1∧x1≤4)&&(decide (0≤x5∧x5≤3)&&validV ⟨x7,x8,x9⟩)))))):=hI0 hrs
 clear hrs hb0 hb1 hT0 hN
 go_enter Tryz.func145,Tryz.ntmps145
 go_wp2_with fail
 rw [←hW0,←hW]
 clear hW0 hW hz0 hz1
 go_loopw [14] (fun i wr=>∃k:Nat,i=.int .i64 (k:Int)∧k≤3∧Hid ((1≤k→emW x2=true)∧(2≤k→emW x3=true)∧(3≤k→emW x4=true))∧Hid (Below W.heap.size W wr)) (fun i _=>3-(intOf i).toNat)
 case atStart=>exact ⟨0,rfl,by omega,hI0 ⟨fun h=>absurd h (by decide),fun h=>absurd h (by decide),fun h=>absurd h (by decide)⟩,hI0 (Below.refl _ _)⟩
 obtain ⟨k,rfl,hk,HG,HB⟩:=hrel
 obtain ⟨wi,rfl⟩:∃wi:World,wi=wr:=⟨_,rfl⟩
 have hNi:=(HB.out.block (w.heap.size+1) (by have:=HZ.out;omega)).trans HN.out
 obtain rfl|rfl|rfl|rfl:k=0∨k=1∨k=2∨k=3:=by omega
 ·have g:wi.cell? ⟨w.heap.size+1,0,none⟩=some (.string x2):=cW0 wi _ 0 _ _ _ hNi
  clear hNi
  cases hem:x2.toList.isEmpty
  case true=>
   have HE:Hid ((1≤1→emW x2=true)∧(2≤1→emW x3=true)∧(3≤1→emW x4=true)):=hI0 ⟨fun _=>em_eq hem,fun h=>absurd h (by decide),fun h=>absurd h (by decide)⟩
   go_wp2_with fail
   go_roundw
   case rel=>exact ⟨1,by go_num,by omega,HE,HB⟩
   case measure=>simp [intOf]
  have hme:=em_ne hem
  have K:=kword_any x2 wi hx2
  obtain ⟨v,hv⟩:∃bo,bo=nmB x2:=⟨_,rfl⟩
  rw [←hv] at hme K
  have HME:=hI0 hme
  clear hme hv
  go_wp2_with fail
  (with_reducible refine K.mono ?_)
  rintro _ z1 ⟨rfl,hz⟩
  have HB1:Hid (Below W.heap.size W z1):=hI0 (HB.out.trans (hz.mono HB.out.size))
  clear hz K g
  cases v
  case false=>
   have HF:Hid (rs=false):=hI0 (by rw [HR.out,HME.out];simp)
   go_wp2_with fail
   go_ret
   exact ⟨by rw [HF.out];rfl,HBW.out.trans (HB1.out.mono HBW.out.size)⟩
  have HE:Hid ((1≤1→emW x2=true)∧(2≤1→emW x3=true)∧(3≤1→emW x4=true)):=hI0 ⟨fun _=>HME.out,fun h=>absurd h (by decide),fun h=>absurd h (by decide)⟩
  go_wp2_with fail
  go_roundw
  case rel=>exact ⟨1,by go_num,by omega,HE,HB1⟩
  case measure=>simp [intOf]
 ·have g:wi.cell? ⟨w.heap.size+1,1,none⟩=some (.string x3):=cW0 wi _ 1 _ _ _ hNi
  clear hNi
  cases hem:x3.toList.isEmpty
  case true=>
   have HE:Hid ((1≤2→emW x2=true)∧(2≤2→emW x3=true)∧(3≤2→emW x4=true)):=hI0 ⟨fun _=>HG.out.1 (by omega),fun _=>em_eq hem,fun h=>absurd h (by decide)⟩
   go_wp2_with fail
   go_roundw
   case rel=>exact ⟨2,by go_num,by omega,HE,HB⟩
   case measure=>simp [intOf]
  have hme:=em_ne hem
  have K:=kword_any x3 wi hx3
  obtain ⟨v,hv⟩:∃bo,bo=nmB x3:=⟨_,rfl⟩
  rw [←hv] at hme K
  have HME:=hI0 hme
  clear hme hv
  go_wp2_with fail
  (with_reducible refine K.mono ?_)
  rintro _ z1 ⟨rfl,hz⟩
  have HB1:Hid (Below W.heap.size W z1):=hI0 (HB.out.trans (hz.mono HB.out.size))
  clear hz K g
  cases v
  case false=>
   have HF:Hid (rs=false):=hI0 (by rw [HR.out,HME.out];simp)
   go_wp2_with fail
   go_ret
   exact ⟨by rw [HF.out];rfl,HBW.out.trans (HB1.out.mono HBW.out.size)⟩
  have HE:Hid ((1≤2→emW x2=true)∧(2≤2→emW x3=true)∧(3≤2→emW x4=true)):=hI0 ⟨fun _=>HG.out.1 (by omega),fun _=>HME.out,fun h=>absurd h (by decide)⟩
  go_wp2_with fail
  go_roundw
  case rel=>exact ⟨2,by go_num,by omega,HE,HB1⟩
  case measure=>simp [intOf]
 ·have g:wi.cell? ⟨w.heap.size+1,2,none⟩=some (.string x4):=cW0 wi _ 2 _ _ _ hNi
  clear hNi
  cases hem:x4.toList.isEmpty
  case true=>
   have HE:Hid ((1≤3→emW x2=true)∧(2≤3→emW x3=true)∧(3≤3→emW x4=true)):=hI0 ⟨fun _=>HG.out.1 (by omega),fun _=>HG.out.2.1 (by omega),fun _=>em_eq hem⟩
   go_wp2_with fail
   go_roundw
   case rel=>exact ⟨3,by go_num,by omega,HE,HB⟩
   case measure=>simp [intOf]
  have hme:=em_ne hem
  have K:=kword_any x4 wi hx4
  obtain ⟨v,hv⟩:∃bo,bo=nmB x4:=⟨_,rfl⟩
  rw [←hv] at hme K
  have HME:=hI0 hme
  clear hme hv
  go_wp2_with fail
  (with_reducible refine K.mono ?_)
  rintro _ z1 ⟨rfl,hz⟩
  have HB1:Hid (Below W.heap.size W z1):=hI0 (HB.out.trans (hz.mono HB.out.size))
  clear hz K g
  cases v
  case false=>
   have HF:Hid (rs=false):=hI0 (by rw [HR.out,HME.out];simp)
   go_wp2_with fail
   go_ret
   exact ⟨by rw [HF.out];rfl,HBW.out.trans (HB1.out.mono HBW.out.size)⟩
  have HE:Hid ((1≤3→emW x2=true)∧(2≤3→emW x3=true)∧(3≤3→emW x4=true)):=hI0 ⟨fun _=>HG.out.1 (by omega),fun _=>HG.out.2.1 (by omega),fun _=>HME.out⟩
  go_wp2_with fail
  go_roundw
  case rel=>exact ⟨3,by go_num,by omega,HE,HB1⟩
  case measure=>simp [intOf]
 ·have hTi:=(HB.out.block w.heap.size (by have:=HZ.out;omega)).trans HT.out
  have c0:wi.cell? ⟨w.heap.size,0,none⟩=some (.int .i64 x1):=cW0 wi _ 0 _ _ _ hTi
  have c1:wi.cell? ⟨w.heap.size,1,none⟩=some (.string x2):=cW0 wi _ 1 _ _ _ hTi
  have c2:wi.cell? ⟨w.heap.size,2,none⟩=some (.string x3):=cW0 wi _ 2 _ _ _ hTi
  have c3:wi.cell? ⟨w.heap.size,3,none⟩=some (.string x4):=cW0 wi _ 3 _ _ _ hTi
  have c4:wi.cell? ⟨w.heap.size,4,none⟩=some (.int .i64 x5):=cW0 wi _ 4 _ _ _ hTi
  have c5:wi.cell? ⟨w.heap.size,5,none⟩=some (.bool x6):=cW0 wi _ 5 _ _ _ hTi
  have c6:wi.cell? ⟨w.heap.size,6,none⟩=some (.int .i64 x7):=cW0 wi _ 6 _ _ _ hTi
  have c7:wi.cell? ⟨w.heap.size,7,none⟩=some (.int .i64 x8):=cW0 wi _ 7 _ _ _ hTi
  have c8:wi.cell? ⟨w.heap.size,8,none⟩=some (.string x9):=cW0 wi _ 8 _ _ _ hTi
  have HR2:Hid (rs=(decide (1≤x1∧x1≤4)&&(decide (0≤x5∧x5≤3)&&validV ⟨x7,x8,x9⟩))):=hI0 (by rw [HR.out,HG.out.1 (by omega),HG.out.2.1 (by omega),HG.out.2.2 (by omega)];rfl)
  have HBF:Hid (Below w.heap.size w wi):=hI0 (HBW.out.trans (HB.out.mono HBW.out.size))
  have HTF:=hI0 hTi
  have HLF:Hid (w.heap.size<wi.heap.size):=hI0 (Array.getElem?_eq_some_iff.1 hTi).1
  obtain ⟨v3,hv3⟩:∃bo,bo=validV ⟨x7,x8,x9⟩:=⟨_,rfl⟩
  have K3:=fun (V:World) (hV:Below w.heap.size w V)=>refValidValue_any x7 x8 x9 V hs
  rw [←hv3] at K3 HR2
  clear hTi hNi hv3
  by_cases t1_0:x1<1
  case pos=>
   have g1:decide (1≤x1∧x1≤4)=false:=decide_eq_false (by omega)
   have HF:Hid (rs=false):=hI0 (by rw [HR2.out,g1]<;>simp)
   go_wp2_with fail
   go_ret
   exact ⟨by rw [HF.out]<;>first|rfl|(simp;done),HBF.out⟩
  by_cases t1_1:4<x1
  case pos=>
   have g1:decide (1≤x1∧x1≤4)=false:=decide_eq_false (by omega)
   have HF:Hid (rs=false):=hI0 (by rw [HR2.out,g1]<;>simp)
   go_wp2_with fail
   go_ret
   exact ⟨by rw [HF.out]<;>first|rfl|(simp;done),HBF.out⟩
  have g1:decide (1≤x1∧x1≤4)=true:=decide_eq_true (by omega)
  have G1:=hI0 g1
  clear g1
  by_cases t2_0:x5<0
  case pos=>
   have g2:decide (0≤x5∧x5≤3)=false:=decide_eq_false (by omega)
   have HF:Hid (rs=false):=hI0 (by rw [HR2.out,g2]<;>simp)
   go_wp2_with fail
   go_ret
   exact ⟨by rw [HF.out]<;>first|rfl|(simp;done),HBF.out⟩
  by_cases t2_1:3<x5
  case pos=>
   have g2:decide (0≤x5∧x5≤3)=false:=decide_eq_false (by omega)
   have HF:Hid (rs=false):=hI0 (by rw [HR2.out,g2]<;>simp)
   go_wp2_with fail
   go_ret
   exact ⟨by rw [HF.out]<;>first|rfl|(simp;done),HBF.out⟩
  have g2:decide (0≤x5∧x5≤3)=true:=decide_eq_true (by omega)
  have G2:=hI0 g2
  clear g2
  have KK3:=K3 wi HBF.out
  go_wp2_with fail
  (with_reducible refine KK3.mono ?_)
  rintro _ z3 ⟨rfl,hz3⟩
  clear KK3
  have hz3':Below wi.heap.size wi z3:=by rw [←hz3];exact Below.of_alloc _
  have HB4:Hid (Below w.heap.size w z3):=hI0 (HBF.out.trans (hz3'.mono HBF.out.size))
  have HT4:=hI0 ((hz3'.block w.heap.size HLF.out).trans HTF.out)
  have HL4:Hid (w.heap.size<z3.heap.size):=hI0 (Array.getElem?_eq_some_iff.1 HT4.out).1
  clear hz3'
  clear hz3
  clear c0 c1 c2 c3 c4 c5 c6 c7 c8
  have c0:z3.cell? ⟨w.heap.size,0,none⟩=some (.int .i64 x1):=cW0 z3 _ 0 _ _ _ HT4.out
  have c1:z3.cell? ⟨w.heap.size,1,none⟩=some (.string x2):=cW0 z3 _ 1 _ _ _ HT4.out
  have c2:z3.cell? ⟨w.heap.size,2,none⟩=some (.string x3):=cW0 z3 _ 2 _ _ _ HT4.out
  have c3:z3.cell? ⟨w.heap.size,3,none⟩=some (.string x4):=cW0 z3 _ 3 _ _ _ HT4.out
  have c4:z3.cell? ⟨w.heap.size,4,none⟩=some (.int .i64 x5):=cW0 z3 _ 4 _ _ _ HT4.out
  have c5:z3.cell? ⟨w.heap.size,5,none⟩=some (.bool x6):=cW0 z3 _ 5 _ _ _ HT4.out
  have c6:z3.cell? ⟨w.heap.size,6,none⟩=some (.int .i64 x7):=cW0 z3 _ 6 _ _ _ HT4.out
  have c7:z3.cell? ⟨w.heap.size,7,none⟩=some (.int .i64 x8):=cW0 z3 _ 7 _ _ _ HT4.out
  have c8:z3.cell? ⟨w.heap.size,8,none⟩=some (.string x9):=cW0 z3 _ 8 _ _ _ HT4.out
  cases v3
  case false=>
   have HF:Hid (rs=false):=hI0 (by rw [HR2.out]<;>simp)
   go_wp2_with fail
   go_ret
   exact ⟨by rw [HF.out]<;>first|rfl|(simp;done),HB4.out⟩
  have HF:Hid (rs=true):=hI0 (by rw [HR2.out,G1.out,G2.out]<;>first|rfl|(simp;done))
  go_wp2_with fail
  go_ret
  exact ⟨by rw [HF.out]<;>first|rfl|(simp;done),HB4.out⟩
theorem ktable_any (t:RTab) (w:World) (ht:t.is w (·<w.heap.size)) (hsm:t.sm):Calls Tryz.prog 144 #[.agg t.enc.toArray] w fun e w'=>e=.returned (.bool t.ok)∧Below w.heap.size w w':=by
 have HI0:=hI0 ht
 obtain ⟨nm,colA,colC,cols,keyA,keyC,key,forA,forC,fors,chkA,chkC,chks⟩:=t
 have HI:Hid (RTab.is w (·<w.heap.size) ⟨nm,colA,colC,cols,keyA,keyC,key,forA,forC,fors,chkA,chkC,chks⟩):=HI0
 have HS0:Hid (RTab.sm ⟨nm,colA,colC,cols,keyA,keyC,key,forA,forC,fors,chkA,chkC,chks⟩):=hI0 hsm
 have hnm:nm.size≤maxLen:=hsm.name
 obtain ⟨a1,a2⟩:=ht.cols.bd
 obtain ⟨b1,b2⟩:=ht.fors.bd
 obtain ⟨c1,c2⟩:=ht.chks.bd
 simp only at a1 a2 b1 b2 c1 c2
 obtain ⟨rs,hrs⟩:∃r,r=RTab.ok ⟨nm,colA,colC,cols,keyA,keyC,key,forA,forC,fors,chkA,chkC,chks⟩:=⟨_,rfl⟩
 rw [←hrs]
 have HR:Hid (rs=(nmB nm&&(decide (1≤(cols.length:Int)∧(cols.length:Int)≤12)&&(ixF key&&(decide (fors.length≤4)&&(decide (chks.length≤4)&&(cols.all RCol.ok&&(fors.all RFor.ok&&chks.all (okX 24))))))))):=hI0 hrs
 show Calls Tryz.prog 144 #[.agg #[.string nm,.slice colA cols.length colC,.slice keyA key.length keyC,.slice forA fors.length forC,.slice chkA chks.length chkC]] w _
 clear hrs ht hsm HI0
 obtain ⟨W,hW⟩:∃W,W=w.alloc (.cells #[.string nm,.slice colA cols.length colC,.slice keyA key.length keyC,.slice forA fors.length forC,.slice chkA chks.length chkC] 75):=⟨_,rfl⟩
 have HBW:Hid (Below w.heap.size w W):=hI0 (by rw [hW];exact Below.of_alloc _)
 have HT:Hid (W.heap[w.heap.size]? =some (.cells #[.string nm,.slice colA cols.length colC,.slice keyA key.length keyC,.slice forA fors.length forC,.slice chkA chks.length chkC] 75 (0,0))):=hI0 (by rw [hW];exact heap_alloc_new _ _)
 have HWS:Hid (w.heap.size<W.heap.size):=hI0 (by rw [hW];simp)
 have HW:=hI0 hW
 clear hW
 have c0:W.cell? ⟨w.heap.size,0,none⟩=some (.string nm):=cW0 W _ 0 _ _ _ HT.out
 have c1:W.cell? ⟨w.heap.size,1,none⟩=some (.slice colA cols.length colC):=cW0 W _ 1 _ _ _ HT.out
 have c2:W.cell? ⟨w.heap.size,2,none⟩=some (.slice keyA key.length keyC):=cW0 W _ 2 _ _ _ HT.out
 have c3:W.cell? ⟨w.heap.size,3,none⟩=some (.slice forA fors.length forC):=cW0 W _ 3 _ _ _ HT.out
 have c4:W.cell? ⟨w.heap.size,4,none⟩=some (.slice chkA chks.length chkC):=cW0 W _ 4 _ _ _ HT.out
 obtain ⟨v1,hv1⟩:∃bo,bo=nmB nm:=⟨_,rfl⟩
 have K1:=fun (V:World) (hV:Below w.heap.size w V)=>kname_any nm V hnm
 rw [←hv1] at K1 HR
 clear hv1
 obtain ⟨v2,hv2⟩:∃bo,bo=ixF key:=⟨_,rfl⟩
 have K2:=fun (V:World) (hV:Below w.heap.size w V)=>kcols_any (.slice keyA key.length keyC) key V (HI.out.key.below hV)
 rw [←hv2] at K2 HR
 clear hv2
 have KK5:=K1 W HBW.out
 go_enter Tryz.func144,Tryz.ntmps144
 go_wp2_with fail
 try rw [←HW.out]
 (with_reducible refine KK5.mono ?_)
 rintro _ z5 ⟨rfl,hz5⟩
 clear KK5
 rw [←hz5]
 clear hz5 z5
 cases v1
 case false=>
  have HF:Hid (rs=false):=hI0 (by rw [HR.out]<;>simp)
  go_wp2_with fail
  go_ret
  exact ⟨by rw [HF.out]<;>first|rfl|(simp;done),HBW.out⟩
 by_cases t6_0:(cols.length:Int)<1
 case pos=>
  have g6:decide (1≤(cols.length:Int)∧(cols.length:Int)≤12)=false:=decide_eq_false (by omega)
  have HF:Hid (rs=false):=hI0 (by rw [HR.out,g6]<;>simp)
  go_wp2_with fail
  go_ret
  exact ⟨by rw [HF.out]<;>first|rfl|(simp;done),HBW.out⟩
 by_cases t6_1:12<(cols.length:Int)
 case pos=>
  have g6:decide (1≤(cols.length:Int)∧(cols.length:Int)≤12)=false:=decide_eq_false (by omega)
  have HF:Hid (rs=false):=hI0 (by rw [HR.out,g6]<;>simp)
  go_wp2_with fail
  go_ret
  exact ⟨by rw [HF.out]<;>first|rfl|(simp;done),HBW.out⟩
 have g6:decide (1≤(cols.length:Int)∧(cols.length:Int)≤12)=true:=decide_eq_true (by omega)
 have G6:=hI0 g6
 clear g6
 have KK7:=K2 W HBW.out
 go_wp2_with fail
 (with_reducible refine KK7.mono ?_)
 rintro _ z7 ⟨rfl,hz7⟩
 clear KK7
 rw [hz7]
 clear hz7 z7
 cases v2
 case false=>
  have HF:Hid (rs=false):=hI0 (by rw [HR.out]<;>simp)
  go_wp2_with fail
  go_ret
  exact ⟨by rw [HF.out]<;>first|rfl|(simp;done),HBW.out⟩
 by_cases t8_0:4<(fors.length:Int)
 case pos=>
  have g8:decide (fors.length≤4)=false:=decide_eq_false (by omega)
  have HF:Hid (rs=false):=hI0 (by rw [HR.out,g8]<;>simp)
  go_wp2_with fail
  go_ret
  exact ⟨by rw [HF.out]<;>first|rfl|(simp;done),HBW.out⟩
 have g8:decide (fors.length≤4)=true:=decide_eq_true (by omega)
 have G8:=hI0 g8
 clear g8
 by_cases t9_0:4<(chks.length:Int)
 case pos=>
  have g9:decide (chks.length≤4)=false:=decide_eq_false (by omega)
  have HF:Hid (rs=false):=hI0 (by rw [HR.out,g9]<;>simp)
  go_wp2_with fail
  go_ret
  exact ⟨by rw [HF.out]<;>first|rfl|(simp;done),HBW.out⟩
 have g9:decide (chks.length≤4)=true:=decide_eq_true (by omega)
 have G9:=hI0 g9
 clear g9
 have HR1:Hid (rs=(cols.all RCol.ok&&(fors.all RFor.ok&&chks.all (okX 24)))):=hI0 (by rw [HR.out,G6.out,G8.out,G9.out];rfl)
 go_wp2_with fail
 clear c0 c1 c2 c3 c4
 go_loopw [46] (fun i wr=>∃j:Nat,i=.int .i64 (j:Int)∧j≤cols.length∧Hid ((cols.take j).all RCol.ok=true)∧Hid (Below w.heap.size w wr)∧Hid (wr.heap[w.heap.size]? =some (.cells #[.string nm,.slice colA cols.length colC,.slice keyA key.length keyC,.slice forA fors.length forC,.slice chkA chks.length chkC] 75 (0,0)))) (fun i _=>cols.length-(intOf i).toNat)
 case atStart=>exact ⟨0,rfl,Nat.zero_le _,hI0 rfl,HBW,HT⟩
 obtain ⟨j,rfl,hj,HG,HB10,HTB10⟩:=hrel
 obtain ⟨wi10,rfl⟩:∃wi:World,wi=wr:=⟨_,rfl⟩
 have HL10:Hid (w.heap.size<wi10.heap.size):=hI0 (Array.getElem?_eq_some_iff.1 HTB10.out).1
 by_cases hltj:j<cols.length
 case pos=>
  have hlt3:(j:Int)<(cols.length:Int):=by omega
  obtain ⟨b,off,rfl,hF,hcl⟩:=RdE.at_ (K:=3) (enc:=RCol.enc) (fun _=>rfl) (by omega) (HI.out.cols.below HB10.out) hltj
  have hcx:=hcl j hltj
  have hs:=fun h=>allP_snoc' (p:=RCol.ok) hltj HG.out h
  have hno:=allP_no (p:=RCol.ok) hltj
  have hmem:=List.getElem_mem hltj
  obtain ⟨x,hx⟩:∃x,x=cols[j]:=⟨_,rfl⟩
  rw [←hx] at hcx hno hmem
  have hs2:RCol.ok x=true→(cols.take (j+1)).all RCol.ok=true:=fun h=>hs (by rw [←hx];exact h)
  clear hs hx hcl hF
  obtain ⟨n1,k1,b1⟩:=x
  have g0:wi10.cell? ⟨b,off+j*3,none⟩=some (.string n1):=hcx 0 _ (by decide) rfl
  have g1:wi10.cell? ⟨b,off+j*3+1,none⟩=some (.int .i64 k1):=hcx 1 _ (by decide) rfl
  have g2:wi10.cell? ⟨b,off+j*3+2,none⟩=some (.bool b1):=hcx 2 _ (by decide) rfl
  have hxS:n1.size≤maxLen:=HS0.out.cols _ hmem
  obtain ⟨ox,hox⟩:∃bo,bo=RCol.ok ⟨n1,k1,b1⟩:=⟨_,rfl⟩
  rw [←hox] at hno hs2
  have HRX:Hid (ox=(nmB n1&&decide (1≤k1∧k1≤3))):=hI0 hox
  have HS:=hI0 hs2
  have HNO:=hI0 hno
  clear hs2 hno hox hcx
  obtain ⟨W1,hW1⟩:∃W1,W1=wi10.alloc (.cells #[.string n1,.int .i64 k1,.bool b1] 77):=⟨_,rfl⟩
  have hb1:Below wi10.heap.size wi10 W1:=by rw [hW1];exact Below.of_alloc _
  have HX1:Hid (W1.heap[wi10.heap.size]? =some (.cells #[.string n1,.int .i64 k1,.bool b1] 77 (0,0))):=hI0 (by rw [hW1];exact heap_alloc_new _ _)
  have HLX:Hid (wi10.heap.size<W1.heap.size):=hI0 (by rw [hW1];simp)
  have HBX:Hid (Below w.heap.size w W1):=hI0 (HB10.out.trans (hb1.mono HB10.out.size))
  have HTB0:=hI0 ((hb1.block w.heap.size (Array.getElem?_eq_some_iff.1 HTB10.out).1).trans HTB10.out)
  have HW1:=hI0 hW1
  clear hb1 hW1
  obtain ⟨v1,hv1⟩:∃bo,bo=nmB n1:=⟨_,rfl⟩
  have K1:=fun (V:World) (hV:Below w.heap.size w V)=>kname_any n1 V hxS
  rw [←hv1] at K1 HRX
  clear hv1
  clear hmem
  have q0:W1.cell? ⟨wi10.heap.size,0,none⟩=some (.string n1):=cW0 W1 _ 0 _ _ _ HX1.out
  have q1:W1.cell? ⟨wi10.heap.size,1,none⟩=some (.int .i64 k1):=cW0 W1 _ 1 _ _ _ HX1.out
  have q2:W1.cell? ⟨wi10.heap.size,2,none⟩=some (.bool b1):=cW0 W1 _ 2 _ _ _ HX1.out
  have KK11:=K1 W1 HBX.out
  go_wp2_with fail
  try rw [←HW1.out]
  clear g0 g1 g2
  (with_reducible refine KK11.mono ?_)
  rintro _ z11 ⟨rfl,hz11⟩
  clear KK11
  rw [←hz11]
  clear hz11 z11
  cases v1
  case false=>
   have HF:Hid (ox=false):=hI0 (by rw [HRX.out]<;>simp)
   have HFO:Hid (rs=false):=hI0 (by rw [HR1.out,HNO.out HF.out]<;>first|rfl|(simp;done))
   go_wp2_with fail
   go_ret
   exact ⟨by rw [HFO.out]<;>first|rfl|(simp;done),HBX.out⟩
  by_cases t12_0:k1<1
  case pos=>
   have g12:decide (1≤k1∧k1≤3)=false:=decide_eq_false (by omega)
   have HF:Hid (ox=false):=hI0 (by rw [HRX.out,g12]<;>simp)
   have HFO:Hid (rs=false):=hI0 (by rw [HR1.out,HNO.out HF.out]<;>first|rfl|(simp;done))
   go_wp2_with fail
   go_ret
   exact ⟨by rw [HFO.out]<;>first|rfl|(simp;done),HBX.out⟩
  by_cases t12_1:3<k1
  case pos=>
   have g12:decide (1≤k1∧k1≤3)=false:=decide_eq_false (by omega)
   have HF:Hid (ox=false):=hI0 (by rw [HRX.out,g12]<;>simp)
   have HFO:Hid (rs=false):=hI0 (by rw [HR1.out,HNO.out HF.out]<;>first|rfl|(simp;done))
   go_wp2_with fail
   go_ret
   exact ⟨by rw [HFO.out]<;>first|rfl|(simp;done),HBX.out⟩
  have g12:decide (1≤k1∧k1≤3)=true:=decide_eq_true (by omega)
  have G12:=hI0 g12
  clear g12
  have HOX:Hid (ox=true):=hI0 (by rw [HRX.out,G12.out]<;>first|rfl|(simp;done))
  have HN:Hid ((cols.take (j+1)).all RCol.ok=true):=hI0 (HS.out HOX.out)
  go_wp2_with fail
  go_roundw
  case rel=>exact ⟨j+1,by go_num,hltj,HN,HBX,HTB0⟩
  case measure=>simp [intOf];omega
 have hlt3:¬(j:Int)<(cols.length:Int):=by omega
 have HRN10:Hid (rs=(fors.all RFor.ok&&chks.all (okX 24))):=hI0 (by
  have h:=HG.out
  rw [List.take_of_length_le (by omega)] at h
  rw [HR1.out,h]<;>first|rfl|(simp;done))
 have c0:wi10.cell? ⟨w.heap.size,0,none⟩=some (.string nm):=cW0 wi10 _ 0 _ _ _ HTB10.out
 have c1:wi10.cell? ⟨w.heap.size,1,none⟩=some (.slice colA cols.length colC):=cW0 wi10 _ 1 _ _ _ HTB10.out
 have c2:wi10.cell? ⟨w.heap.size,2,none⟩=some (.slice keyA key.length keyC):=cW0 wi10 _ 2 _ _ _ HTB10.out
 have c3:wi10.cell? ⟨w.heap.size,3,none⟩=some (.slice forA fors.length forC):=cW0 wi10 _ 3 _ _ _ HTB10.out
 have c4:wi10.cell? ⟨w.heap.size,4,none⟩=some (.slice chkA chks.length chkC):=cW0 wi10 _ 4 _ _ _ HTB10.out
 go_wp2_with fail
 clear c0 c1 c2 c3 c4
 go_loopw [68] (fun i wr=>∃j:Nat,i=.int .i64 (j:Int)∧j≤fors.length∧Hid ((fors.take j).all RFor.ok=true)∧Hid (Below w.heap.size w wr)∧Hid (wr.heap[w.heap.size]? =some (.cells #[.string nm,.slice colA cols.length colC,.slice keyA key.length keyC,.slice forA fors.length forC,.slice chkA chks.length chkC] 75 (0,0)))) (fun i _=>fors.length-(intOf i).toNat)
 case atStart=>exact ⟨0,rfl,Nat.zero_le _,hI0 rfl,HB10,HTB10⟩
 obtain ⟨j,rfl,hj,HG,HB13,HTB13⟩:=hrel
 obtain ⟨wi13,rfl⟩:∃wi:World,wi=wr:=⟨_,rfl⟩
 have HL13:Hid (w.heap.size<wi13.heap.size):=hI0 (Array.getElem?_eq_some_iff.1 HTB13.out).1
 by_cases hltj:j<fors.length
 case pos=>
  have hlt3:(j:Int)<(fors.length:Int):=by omega
  obtain ⟨b,off,rfl,hF,hcl⟩:=RdE.at_ (K:=2) (enc:=RFor.enc) (fun _=>rfl) (by omega) (HI.out.fors.below HB13.out) hltj
  have hcx:=hcl j hltj
  have hs:=fun h=>allP_snoc' (p:=RFor.ok) hltj HG.out h
  have hno:=allP_no (p:=RFor.ok) hltj
  have hmem:=List.getElem_mem hltj
  obtain ⟨x,hx⟩:∃x,x=fors[j]:=⟨_,rfl⟩
  rw [←hx] at hcx hno hmem
  have hs2:RFor.ok x=true→(fors.take (j+1)).all RFor.ok=true:=fun h=>hs (by rw [←hx];exact h)
  clear hs hx hcl hF
  obtain ⟨fA,fc,fl,ft⟩:=x
  have g0:wi13.cell? ⟨b,off+j*2,none⟩=some (.slice fA fl.length fc):=hcx 0 _ (by decide) rfl
  have g1:wi13.cell? ⟨b,off+j*2+1,none⟩=some (.string ft):=hcx 1 _ (by decide) rfl
  have hxI:RdE 1 intE w (·<w.heap.size) (.slice fA fl.length fc) fl:=HI.out.forI _ hmem
  have hxS:ft.size≤maxLen:=HS0.out.fors _ hmem
  obtain ⟨ox,hox⟩:∃bo,bo=RFor.ok ⟨fA,fc,fl,ft⟩:=⟨_,rfl⟩
  rw [←hox] at hno hs2
  have HRX:Hid (ox=(ixF fl&&nmB ft)):=hI0 hox
  have HS:=hI0 hs2
  have HNO:=hI0 hno
  clear hs2 hno hox hcx
  obtain ⟨W1,hW1⟩:∃W1,W1=wi13.alloc (.cells #[.slice fA fl.length fc,.string ft] 278):=⟨_,rfl⟩
  have hb1:Below wi13.heap.size wi13 W1:=by rw [hW1];exact Below.of_alloc _
  have HX1:Hid (W1.heap[wi13.heap.size]? =some (.cells #[.slice fA fl.length fc,.string ft] 278 (0,0))):=hI0 (by rw [hW1];exact heap_alloc_new _ _)
  have HLX:Hid (wi13.heap.size<W1.heap.size):=hI0 (by rw [hW1];simp)
  have HBX:Hid (Below w.heap.size w W1):=hI0 (HB13.out.trans (hb1.mono HB13.out.size))
  have HTB0:=hI0 ((hb1.block w.heap.size (Array.getElem?_eq_some_iff.1 HTB13.out).1).trans HTB13.out)
  have HW1:=hI0 hW1
  clear hb1 hW1
  obtain ⟨b1,hb1⟩:∃bo,bo=ixF fl:=⟨_,rfl⟩
  have K1:=fun (V:World) (hV:Below w.heap.size w V)=>kcols_any (.slice fA fl.length fc) fl V (RdE.below hxI hV)
  rw [←hb1] at K1 HRX
  clear hb1
  obtain ⟨b2,hb2⟩:∃bo,bo=nmB ft:=⟨_,rfl⟩
  have K2:=fun (V:World) (hV:Below w.heap.size w V)=>kname_any ft V hxS
  rw [←hb2] at K2 HRX
  clear hb2
  clear hmem
  have q0:W1.cell? ⟨wi13.heap.size,0,none⟩=some (.slice fA fl.length fc):=cW0 W1 _ 0 _ _ _ HX1.out
  have q1:W1.cell? ⟨wi13.heap.size,1,none⟩=some (.string ft):=cW0 W1 _ 1 _ _ _ HX1.out
  have KK14:=K1 W1 HBX.out
  go_wp2_with fail
  try rw [←HW1.out]
  clear g0 g1
  (with_reducible refine KK14.mono ?_)
  rintro _ z14 ⟨rfl,hz14⟩
  clear KK14
  rw [hz14]
  clear hz14 z14
  cases b1
  case false=>
   have HF:Hid (ox=false):=hI0 (by rw [HRX.out]<;>simp)
   have HFO:Hid (rs=false):=hI0 (by rw [HRN10.out,HNO.out HF.out]<;>first|rfl|(simp;done))
   go_wp2_with fail
   go_ret
   exact ⟨by rw [HFO.out]<;>first|rfl|(simp;done),HBX.out⟩
  have KK15:=K2 W1 HBX.out
  go_wp2_with fail
  (with_reducible refine KK15.mono ?_)
  rintro _ z15 ⟨rfl,hz15⟩
  clear KK15
  rw [←hz15]
  clear hz15 z15
  cases b2
  case false=>
   have HF:Hid (ox=false):=hI0 (by rw [HRX.out]<;>simp)
   have HFO:Hid (rs=false):=hI0 (by rw [HRN10.out,HNO.out HF.out]<;>first|rfl|(simp;done))
   go_wp2_with fail
   go_ret
   exact ⟨by rw [HFO.out]<;>first|rfl|(simp;done),HBX.out⟩
  have HOX:Hid (ox=true):=hI0 (by rw [HRX.out]<;>first|rfl|(simp;done))
  have HN:Hid ((fors.take (j+1)).all RFor.ok=true):=hI0 (HS.out HOX.out)
  go_wp2_with fail
  go_roundw
  case rel=>exact ⟨j+1,by go_num,hltj,HN,HBX,HTB0⟩
  case measure=>simp [intOf];omega
 have hlt3:¬(j:Int)<(fors.length:Int):=by omega
 have HRN13:Hid (rs=(chks.all (okX 24))):=hI0 (by
  have h:=HG.out
  rw [List.take_of_length_le (by omega)] at h
  rw [HRN10.out,h]<;>first|rfl|(simp;done))
 have c0:wi13.cell? ⟨w.heap.size,0,none⟩=some (.string nm):=cW0 wi13 _ 0 _ _ _ HTB13.out
 have c1:wi13.cell? ⟨w.heap.size,1,none⟩=some (.slice colA cols.length colC):=cW0 wi13 _ 1 _ _ _ HTB13.out
 have c2:wi13.cell? ⟨w.heap.size,2,none⟩=some (.slice keyA key.length keyC):=cW0 wi13 _ 2 _ _ _ HTB13.out
 have c3:wi13.cell? ⟨w.heap.size,3,none⟩=some (.slice forA fors.length forC):=cW0 wi13 _ 3 _ _ _ HTB13.out
 have c4:wi13.cell? ⟨w.heap.size,4,none⟩=some (.slice chkA chks.length chkC):=cW0 wi13 _ 4 _ _ _ HTB13.out
 go_wp2_with fail
 clear c0 c1 c2 c3 c4
 go_loopw [86] (fun i wr=>∃j:Nat,i=.int .i64 (j:Int)∧j≤chks.length∧Hid ((chks.take j).all (okX 24)=true)∧Hid (Below w.heap.size w wr)∧Hid (wr.heap[w.heap.size]? =some (.cells #[.string nm,.slice colA cols.length colC,.slice keyA key.length keyC,.slice forA fors.length forC,.slice chkA chks.length chkC] 75 (0,0)))) (fun i _=>chks.length-(intOf i).toNat)
 case atStart=>exact ⟨0,rfl,Nat.zero_le _,hI0 rfl,HB13,HTB13⟩
 obtain ⟨j,rfl,hj,HG,HB16,HTB16⟩:=hrel
 obtain ⟨wi16,rfl⟩:∃wi:World,wi=wr:=⟨_,rfl⟩
 have HL16:Hid (w.heap.size<wi16.heap.size):=hI0 (Array.getElem?_eq_some_iff.1 HTB16.out).1
 by_cases hltj:j<chks.length
 case pos=>
  have hlt3:(j:Int)<(chks.length:Int):=by omega
  obtain ⟨b,off,rfl,hF,hcl⟩:=RdE.at_ (K:=7) (enc:=RE.enc) RE.enc_length (by omega) (HI.out.chks.below HB16.out) hltj
  have hcx:=hcl j hltj
  have hs:=fun h=>allP_snoc' (p:=(okX 24)) hltj HG.out h
  have hno:=allP_no (p:=(okX 24)) hltj
  have hmem:=List.getElem_mem hltj
  obtain ⟨x,hx⟩:∃x,x=chks[j]:=⟨_,rfl⟩
  rw [←hx] at hcx hno hmem
  have hs2:(okX 24) x=true→(chks.take (j+1)).all (okX 24)=true:=fun h=>hs (by rw [←hx];exact h)
  clear hs hx hcl hF
  obtain ⟨op2,it2,⟨vk2,vi2,vs2⟩,nm2,A2,c2,args2⟩:=x
  have g0:wi16.cell? ⟨b,off+j*7,none⟩=some (.int .i64 op2):=hcx 0 _ (by decide) rfl
  have g1:wi16.cell? ⟨b,off+j*7+1,none⟩=some (.int .i64 it2):=hcx 1 _ (by decide) rfl
  have g2:wi16.cell? ⟨b,off+j*7+2,none⟩=some (.int .i64 vk2):=hcx 2 _ (by decide) rfl
  have g3:wi16.cell? ⟨b,off+j*7+3,none⟩=some (.int .i64 vi2):=hcx 3 _ (by decide) rfl
  have g4:wi16.cell? ⟨b,off+j*7+4,none⟩=some (.string vs2):=hcx 4 _ (by decide) rfl
  have g5:wi16.cell? ⟨b,off+j*7+5,none⟩=some (.string nm2):=hcx 5 _ (by decide) rfl
  have g6:wi16.cell? ⟨b,off+j*7+6,none⟩=some (.slice A2 args2.length c2):=hcx 6 _ (by decide) rfl
  have hxI:=HI.out.chkI _ hmem
  obtain ⟨ox,hox⟩:∃bo,bo=(okX 24) (.mk op2 it2 ⟨vk2,vi2,vs2⟩ nm2 A2 c2 args2):=⟨_,rfl⟩
  rw [←hox] at hno hs2
  have HRX:Hid (ox=(okX 24 (.mk op2 it2 ⟨vk2,vi2,vs2⟩ nm2 A2 c2 args2)&&true)):=hI0 (by rw [hox,Bool.and_true])
  have HS:=hI0 hs2
  have HNO:=hI0 hno
  clear hs2 hno hox hcx
  obtain ⟨W1,hW1⟩:∃W1,W1=wi16.alloc (.cells #[.int .i64 op2,.int .i64 it2,.int .i64 vk2,.int .i64 vi2,.string vs2,.string nm2,.slice A2 args2.length c2] 212):=⟨_,rfl⟩
  have hb1:Below wi16.heap.size wi16 W1:=by rw [hW1];exact Below.of_alloc _
  have HX1:Hid (W1.heap[wi16.heap.size]? =some (.cells #[.int .i64 op2,.int .i64 it2,.int .i64 vk2,.int .i64 vi2,.string vs2,.string nm2,.slice A2 args2.length c2] 212 (0,0))):=hI0 (by rw [hW1];exact heap_alloc_new _ _)
  have HLX:Hid (wi16.heap.size<W1.heap.size):=hI0 (by rw [hW1];simp)
  have HBX:Hid (Below w.heap.size w W1):=hI0 (HB16.out.trans (hb1.mono HB16.out.size))
  have HTB0:=hI0 ((hb1.block w.heap.size (Array.getElem?_eq_some_iff.1 HTB16.out).1).trans HTB16.out)
  have HW1:=hI0 hW1
  clear hb1 hW1
  obtain ⟨bx,hbx⟩:∃bo,bo=okX 24 (.mk op2 it2 ⟨vk2,vi2,vs2⟩ nm2 A2 c2 args2):=⟨_,rfl⟩
  have K1:=fun (V:World) (hV:Below w.heap.size w V)=>(show Calls Tryz.prog 200 #[.agg #[.int .i64 op2,.int .i64 it2,.int .i64 vk2,.int .i64 vi2,.string vs2,.string nm2,.slice A2 args2.length c2],.int .i64 24] V fun x w'=>x=.returned (.bool (okX 24 (.mk op2 it2 ⟨vk2,vi2,vs2⟩ nm2 A2 c2 args2)))∧Below V.heap.size V w' from kexp_any 24 (.mk op2 it2 ⟨vk2,vi2,vs2⟩ nm2 A2 c2 args2) 24 V ⟨rfl,by omega⟩ (exIs_below hV 24 _ hxI))
  rw [←hbx] at K1 HRX
  clear hbx
  clear hmem
  have q0:W1.cell? ⟨wi16.heap.size,0,none⟩=some (.int .i64 op2):=cW0 W1 _ 0 _ _ _ HX1.out
  have q1:W1.cell? ⟨wi16.heap.size,1,none⟩=some (.int .i64 it2):=cW0 W1 _ 1 _ _ _ HX1.out
  have q2:W1.cell? ⟨wi16.heap.size,2,none⟩=some (.int .i64 vk2):=cW0 W1 _ 2 _ _ _ HX1.out
  have q3:W1.cell? ⟨wi16.heap.size,3,none⟩=some (.int .i64 vi2):=cW0 W1 _ 3 _ _ _ HX1.out
  have q4:W1.cell? ⟨wi16.heap.size,4,none⟩=some (.string vs2):=cW0 W1 _ 4 _ _ _ HX1.out
  have q5:W1.cell? ⟨wi16.heap.size,5,none⟩=some (.string nm2):=cW0 W1 _ 5 _ _ _ HX1.out
  have q6:W1.cell? ⟨wi16.heap.size,6,none⟩=some (.slice A2 args2.length c2):=cW0 W1 _ 6 _ _ _ HX1.out
  have KK17:=K1 W1 HBX.out
  go_wp2_with fail
  try rw [←HW1.out]
  clear g0 g1 g2 g3 g4 g5 g6
  (with_reducible refine KK17.mono ?_)
  rintro _ z17 ⟨rfl,hz17⟩
  clear KK17
  have HB18:Hid (Below w.heap.size w z17):=hI0 (HBX.out.trans (hz17.mono HBX.out.size))
  have HT18:=hI0 ((hz17.block wi16.heap.size HLX.out).trans HX1.out)
  have HL18:Hid (wi16.heap.size<z17.heap.size):=hI0 (Array.getElem?_eq_some_iff.1 HT18.out).1
  have HTB0_18:=hI0 ((hz17.block w.heap.size (Array.getElem?_eq_some_iff.1 HTB0.out).1).trans HTB0.out)
  clear hz17
  clear q0 q1 q2 q3 q4 q5 q6
  have q0:z17.cell? ⟨wi16.heap.size,0,none⟩=some (.int .i64 op2):=cW0 z17 _ 0 _ _ _ HT18.out
  have q1:z17.cell? ⟨wi16.heap.size,1,none⟩=some (.int .i64 it2):=cW0 z17 _ 1 _ _ _ HT18.out
  have q2:z17.cell? ⟨wi16.heap.size,2,none⟩=some (.int .i64 vk2):=cW0 z17 _ 2 _ _ _ HT18.out
  have q3:z17.cell? ⟨wi16.heap.size,3,none⟩=some (.int .i64 vi2):=cW0 z17 _ 3 _ _ _ HT18.out
  have q4:z17.cell? ⟨wi16.heap.size,4,none⟩=some (.string vs2):=cW0 z17 _ 4 _ _ _ HT18.out
  have q5:z17.cell? ⟨wi16.heap.size,5,none⟩=some (.string nm2):=cW0 z17 _ 5 _ _ _ HT18.out
  have q6:z17.cell? ⟨wi16.heap.size,6,none⟩=some (.slice A2 args2.length c2):=cW0 z17 _ 6 _ _ _ HT18.out
  cases bx
  case false=>
   have HF:Hid (ox=false):=hI0 (by rw [HRX.out]<;>simp)
   have HFO:Hid (rs=false):=hI0 (by rw [HRN13.out,HNO.out HF.out]<;>first|rfl|(simp;done))
   go_wp2_with fail
   go_ret
   exact ⟨by rw [HFO.out]<;>first|rfl|(simp;done),HB18.out⟩
  have HOX:Hid (ox=true):=hI0 (by rw [HRX.out]<;>first|rfl|(simp;done))
  have HN:Hid ((chks.take (j+1)).all (okX 24)=true):=hI0 (HS.out HOX.out)
  go_wp2_with fail
  go_roundw
  case rel=>exact ⟨j+1,by go_num,hltj,HN,HB18,HTB0_18⟩
  case measure=>simp [intOf];omega
 have hlt3:¬(j:Int)<(chks.length:Int):=by omega
 have HRN16:Hid (rs=(true)):=hI0 (by
  have h:=HG.out
  rw [List.take_of_length_le (by omega)] at h
  rw [HRN13.out,h]<;>first|rfl|(simp;done))
 have c0:wi16.cell? ⟨w.heap.size,0,none⟩=some (.string nm):=cW0 wi16 _ 0 _ _ _ HTB16.out
 have c1:wi16.cell? ⟨w.heap.size,1,none⟩=some (.slice colA cols.length colC):=cW0 wi16 _ 1 _ _ _ HTB16.out
 have c2:wi16.cell? ⟨w.heap.size,2,none⟩=some (.slice keyA key.length keyC):=cW0 wi16 _ 2 _ _ _ HTB16.out
 have c3:wi16.cell? ⟨w.heap.size,3,none⟩=some (.slice forA fors.length forC):=cW0 wi16 _ 3 _ _ _ HTB16.out
 have c4:wi16.cell? ⟨w.heap.size,4,none⟩=some (.slice chkA chks.length chkC):=cW0 wi16 _ 4 _ _ _ HTB16.out
 have HF:Hid (rs=true):=hI0 (by rw [HRN16.out]<;>first|rfl|(simp;done))
 go_wp2_with fail
 go_ret
 exact ⟨by rw [HF.out]<;>first|rfl|(simp;done),HB16.out⟩
end Go.Proofs.YtbfdegkickjbpaaGreat
