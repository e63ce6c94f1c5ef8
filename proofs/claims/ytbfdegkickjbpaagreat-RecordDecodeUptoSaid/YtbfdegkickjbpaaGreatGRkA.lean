/-
 RkA
-/
import Derived.Test.YtbfdegkickjbpaaGreatGRcG
namespace Go.Proofs.YtbfdegkickjbpaaGreat
set_option maxRecDepth 1000000
set_option maxHeartbeats 32000000
open Go.RowKit Go.Lib Go.IntWalk Go.Sort Go.Shelf
theorem printB_all (l:List UInt8):printB l=l.all chP:=by
 unfold printB
 congr 1
 funext c
 unfold chP
 simp [UInt8.le_iff_toNat_le]
 rw [Bool.eq_iff_iff];simp;omega
theorem kname_any (S:ByteArray) (w:World) (h:S.size≤maxLen):Calls Tryz.prog 44 #[.string S] w fun e w'=>e=.returned (.bool (nmB S))∧w=w':=by
 have k:=refName_any S.data.toList w (by rw [show S.data.toList.length=S.size from rfl];exact h)
 rw [strB_list] at k
 exact k
theorem kinst_any (n:Int) (w:World):Calls Tryz.prog 40 #[.int .i64 n] w fun e w'=>e=.returned (.bool (instB n))∧w'=w:=by
 unfold instB
 go_enter Tryz.func40,Tryz.ntmps40
 go_wp2
 all_goals
  go_ret
  refine ⟨ret_bool (by first|(symm;rw [decide_eq_false_iff_not];omega)|(symm;rw [decide_eq_true_eq];omega)|(rw [Bool.eq_iff_iff];simp;omega)),rfl⟩
theorem kper_any (f t:Int) (w:World):Calls Tryz.prog 203 #[.agg #[.int .i64 f,.int .i64 t]] w fun e w'=>e=.returned (.bool (validP f t))∧Below w.heap.size w w':=
 (refPeriodValid_any f t w).mono fun e w' ⟨h1,h2⟩=>⟨h1,by rw [←h2];exact Below.of_alloc _⟩
theorem kcols_any (v:Value) (xs:List Int) (w:World) (hv:RdE 1 intE w (·<w.heap.size) v xs):
  Calls Tryz.prog 199 #[v] w fun e w'=>e=.returned (.bool (ixF xs))∧w'=w:=by
 obtain ⟨A,c,rfl,hc1,hc2,hc3⟩:=Rd.open_ (show Rd w _ 1 v xs.length (xs.flatMap intE) from hv)
 unfold maxLen at hc2
 have HV:=hI0 hv
 have HE:Hid (ixF xs=(xs.all ix11&&decide (xs.length≤12))):=hI0 rfl
 generalize ixF xs=rs at *
 clear hv hc3
 go_enter Tryz.func199,Tryz.ntmps199
 go_wp2_with fail
 go_loopw [7] (fun i wr=>∃k:Nat,i=.int .i64 (k:Int)∧k≤xs.length∧Hid ((xs.take k).all ix11=true)∧wr=w) (fun i _=>xs.length-(intOf i).toNat)
 case atStart=>exact ⟨0,rfl,Nat.zero_le _,hI0 rfl,rfl⟩
 obtain ⟨k,rfl,hk,HA,hw⟩:=hrel
 rw [hw]
 clear hw
 by_cases hlt:k<xs.length
 case neg=>
  have hlt2:¬(k:Int)<(xs.length:Int):=by omega
  have HR:Hid (rs=decide (xs.length≤12)):=hI0 (by have h:=HA.out;rw [List.take_of_length_le (by omega)] at h;rw [HE.out,h];rfl)
  by_cases h12:xs.length≤12
  ·have h13:(xs.length:Int)≤12:=by omega
   have HF:Hid (rs=true):=hI0 (by rw [HR.out,decide_eq_true h12])
   clear h12
   go_wp2_with fail
   go_ret
   exact ⟨by rw [HF.out];rfl,rfl⟩
  ·have h13:¬(xs.length:Int)≤12:=by omega
   have HF:Hid (rs=false):=hI0 (by rw [HR.out,decide_eq_false h12])
   clear h12
   go_wp2_with fail
   go_ret
   exact ⟨by rw [HF.out];rfl,rfl⟩
 have hlt2:(k:Int)<(xs.length:Int):=by omega
 obtain ⟨b,off,rfl,hF,hcl⟩:=RdE.at_ (K:=1) (enc:=intE) (fun _=>rfl) (by omega) HV.out hlt
 have hcx:=hcl k hlt 0 _ (by decide) rfl
 rw [Nat.mul_one,Nat.add_zero] at hcx
 have hs:=fun h=>allP_snoc' (p:=ix11) hlt h
 have hn:=allP_no (p:=ix11) hlt
 obtain ⟨x,hx⟩:∃x,x=xs[k]:=⟨_,rfl⟩
 rw [←hx] at hcx hn
 have HS:Hid (ix11 x=true→(xs.take (k+1)).all ix11=true):=hI0 (fun h=>hs HA.out (by rw [←hx];exact h))
 have HN:=hI0 hn
 clear hcl hF hs hn hx
 by_cases g1:x<0
 ·have HF:Hid (rs=false):=hI0 (by rw [HE.out,HN.out (by unfold ix11;exact decide_eq_false (by omega))];rfl)
  go_wp2_with fail
  go_ret
  exact ⟨by rw [HF.out];rfl,rfl⟩
 ·by_cases g2:12≤x
  ·have HF:Hid (rs=false):=hI0 (by rw [HE.out,HN.out (by unfold ix11;exact decide_eq_false (by omega))];rfl)
   go_wp2_with fail
   go_ret
   exact ⟨by rw [HF.out];rfl,rfl⟩
  ·have HA2:Hid ((xs.take (k+1)).all ix11=true):=hI0 (HS.out (by unfold ix11;exact decide_eq_true (by omega)))
   go_wp2_with fail
   go_roundw
   case rel=>exact ⟨k+1,by go_num,hlt,HA2,by first|trivial|rfl⟩
   case measure=>simp [intOf];omega
theorem kexp_any:∀(d:Nat) (e:RE) (lv:Int) (w:World),(lv=d∧lv≤24)→exIs d w (·<w.heap.size) e→
  Calls Tryz.prog 200 #[.agg e.enc.toArray,.int .i64 lv] w fun x w'=>x=.returned (.bool (okX d e))∧Below w.heap.size w w':=by
 intro d
 induction d with
 |zero=>
  intro e lv w hlv _
  obtain ⟨op,it,⟨vk,vi,vs⟩,nm,A,c,args⟩:=e
  show Calls Tryz.prog 200 #[.agg #[.int .i64 op,.int .i64 it,.int .i64 vk,.int .i64 vi,.string vs,.string nm,.slice A args.length c],.int .i64 lv] w _
  have hl:lv<1:=by omega
  clear hlv
  go_enter Tryz.func200,Tryz.ntmps200
  go_wp2_with fail
  go_ret
  exact ⟨rfl,Below.of_alloc _⟩
 |succ d ih=>
  intro e lv w hlv he
  obtain ⟨op,it,⟨vk,vi,vs⟩,nm,A,c,args⟩:=e
  obtain ⟨h1,h2,h3,h4⟩:=he
  have IH:=hI0 ih
  obtain ⟨rs,hrs⟩:∃r,r=okX (d+1) (.mk op it ⟨vk,vi,vs⟩ nm A c args):=⟨_,rfl⟩
  rw [←hrs]
  have hpr:printB nm.data.toList=nm.data.toList.all chP:=printB_all _
  have HR:Hid (rs=(decide (1≤op∧op≤26)&&(decide (-1125899906842624≤it∧it≤1125899906842624)&&(validV ⟨vk,vi,vs⟩&&(decide (nm.size≤49)&&(printB nm.data.toList&&args.all (okX d))))))):=hI0 (by rw [hrs,hpr];rfl)
  show Calls Tryz.prog 200 #[.agg #[.int .i64 op,.int .i64 it,.int .i64 vk,.int .i64 vi,.string vs,.string nm,.slice A args.length c],.int .i64 lv] w _
  have HA:=hI0 h1
  have HA4:=hI0 h4
  have hl:¬lv<1:=by omega
  have HLV:=hI0 hlv
  have hs1:=h2.2.2
  clear h1 h4 hrs ih hpr h2 hlv
  obtain ⟨W,hW⟩:∃W,W=w.alloc (.cells #[.int .i64 op,.int .i64 it,.int .i64 vk,.int .i64 vi,.string vs,.string nm,.slice A args.length c] 212):=⟨_,rfl⟩
  have HBW:Hid (Below w.heap.size w W):=hI0 (by rw [hW];exact Below.of_alloc _)
  have HT:Hid (W.heap[w.heap.size]? =some (.cells #[.int .i64 op,.int .i64 it,.int .i64 vk,.int .i64 vi,.string vs,.string nm,.slice A args.length c] 212 (0,0))):=hI0 (by rw [hW];exact heap_alloc_new _ _)
  have HWS:Hid (w.heap.size<W.heap.size):=hI0 (by rw [hW];simp)
  have HW:=hI0 hW
  clear hW
  have c0:W.cell? ⟨w.heap.size,0,none⟩=some (.int .i64 op):=cW0 W _ 0 _ _ _ HT.out
  have c1:W.cell? ⟨w.heap.size,1,none⟩=some (.int .i64 it):=cW0 W _ 1 _ _ _ HT.out
  have c2:W.cell? ⟨w.heap.size,2,none⟩=some (.int .i64 vk):=cW0 W _ 2 _ _ _ HT.out
  have c3:W.cell? ⟨w.heap.size,3,none⟩=some (.int .i64 vi):=cW0 W _ 3 _ _ _ HT.out
  have c4:W.cell? ⟨w.heap.size,4,none⟩=some (.string vs):=cW0 W _ 4 _ _ _ HT.out
  have c5:W.cell? ⟨w.heap.size,5,none⟩=some (.string nm):=cW0 W _ 5 _ _ _ HT.out
  have c6:W.cell? ⟨w.heap.size,6,none⟩=some (.slice A args.length c):=cW0 W _ 6 _ _ _ HT.out
  obtain ⟨v1,hv1⟩:∃bo,bo=validV ⟨vk,vi,vs⟩:=⟨_,rfl⟩
  have K1:=fun (V:World) (hV:Below w.heap.size w V)=>refValidValue_any vk vi vs V hs1
  rw [←hv1] at K1 HR
  clear hv1
  obtain ⟨v2,hv2⟩:∃bo,bo=printB nm.data.toList:=⟨_,rfl⟩
  have K2:=fun (V:World) (hV:Below w.heap.size w V)=>refPrintable_any nm V h3
  rw [←hv2] at K2 HR
  clear hv2
  by_cases t1_0:op<1
  case pos=>
   have g1:decide (1≤op∧op≤26)=false:=decide_eq_false (by omega)
   have HF:Hid (rs=false):=hI0 (by rw [HR.out,g1];simp)
   go_enter Tryz.func200,Tryz.ntmps200
   go_wp2_with fail
   try rw [←HW.out]
   go_ret
   exact ⟨by rw [HF.out];first|rfl|(simp;done),HBW.out⟩
  by_cases t1_1:26<op
  case pos=>
   have g1:decide (1≤op∧op≤26)=false:=decide_eq_false (by omega)
   have HF:Hid (rs=false):=hI0 (by rw [HR.out,g1];simp)
   go_enter Tryz.func200,Tryz.ntmps200
   go_wp2_with fail
   try rw [←HW.out]
   go_ret
   exact ⟨by rw [HF.out];first|rfl|(simp;done),HBW.out⟩
  have g1:decide (1≤op∧op≤26)=true:=decide_eq_true (by omega)
  have G1:=hI0 g1
  clear g1
  by_cases t2_0:it< -1125899906842624
  case pos=>
   have g2:decide (-1125899906842624≤it∧it≤1125899906842624)=false:=decide_eq_false (by omega)
   have HF:Hid (rs=false):=hI0 (by rw [HR.out,g2];simp)
   go_enter Tryz.func200,Tryz.ntmps200
   go_wp2_with fail
   try rw [←HW.out]
   go_ret
   exact ⟨by rw [HF.out];first|rfl|(simp;done),HBW.out⟩
  by_cases t2_1:1125899906842624<it
  case pos=>
   have g2:decide (-1125899906842624≤it∧it≤1125899906842624)=false:=decide_eq_false (by omega)
   have HF:Hid (rs=false):=hI0 (by rw [HR.out,g2];simp)
   go_enter Tryz.func200,Tryz.ntmps200
   go_wp2_with fail
   try rw [←HW.out]
   go_ret
   exact ⟨by rw [HF.out];first|rfl|(simp;done),HBW.out⟩
  have g2:decide (-1125899906842624≤it∧it≤1125899906842624)=true:=decide_eq_true (by omega)
  have G2:=hI0 g2
  clear g2
  have KK3:=K1 W HBW.out
  go_enter Tryz.func200,Tryz.ntmps200
  go_wp2_with fail
  try rw [←HW.out]
  (with_reducible refine KK3.mono ?_)
  rintro _ z3 ⟨rfl,hz3⟩
  clear KK3
  have hz3':Below W.heap.size W z3:=by rw [←hz3];exact Below.of_alloc _
  have HB4:Hid (Below w.heap.size w z3):=hI0 (HBW.out.trans (hz3'.mono HBW.out.size))
  have HT4:=hI0 ((hz3'.block w.heap.size HWS.out).trans HT.out)
  have HL4:Hid (w.heap.size<z3.heap.size):=hI0 (Array.getElem?_eq_some_iff.1 HT4.out).1
  clear hz3'
  clear hz3
  clear c0 c1 c2 c3 c4 c5 c6
  have c0:z3.cell? ⟨w.heap.size,0,none⟩=some (.int .i64 op):=cW0 z3 _ 0 _ _ _ HT4.out
  have c1:z3.cell? ⟨w.heap.size,1,none⟩=some (.int .i64 it):=cW0 z3 _ 1 _ _ _ HT4.out
  have c2:z3.cell? ⟨w.heap.size,2,none⟩=some (.int .i64 vk):=cW0 z3 _ 2 _ _ _ HT4.out
  have c3:z3.cell? ⟨w.heap.size,3,none⟩=some (.int .i64 vi):=cW0 z3 _ 3 _ _ _ HT4.out
  have c4:z3.cell? ⟨w.heap.size,4,none⟩=some (.string vs):=cW0 z3 _ 4 _ _ _ HT4.out
  have c5:z3.cell? ⟨w.heap.size,5,none⟩=some (.string nm):=cW0 z3 _ 5 _ _ _ HT4.out
  have c6:z3.cell? ⟨w.heap.size,6,none⟩=some (.slice A args.length c):=cW0 z3 _ 6 _ _ _ HT4.out
  cases v1
  case false=>
   have HF:Hid (rs=false):=hI0 (by rw [HR.out];simp)
   go_wp2_with fail
   go_ret
   exact ⟨by rw [HF.out];first|rfl|(simp;done),HB4.out⟩
  by_cases t5_0:49<(nm.size:Int)
  case pos=>
   have g5:decide (nm.size≤49)=false:=decide_eq_false (by omega)
   have HF:Hid (rs=false):=hI0 (by rw [HR.out,g5];simp)
   go_wp2_with fail
   go_ret
   exact ⟨by rw [HF.out];first|rfl|(simp;done),HB4.out⟩
  have g5:decide (nm.size≤49)=true:=decide_eq_true (by omega)
  have G5:=hI0 g5
  clear g5
  have KK6:=K2 z3 HB4.out
  go_wp2_with fail
  (with_reducible refine KK6.mono ?_)
  rintro _ z6 ⟨rfl,hz6⟩
  clear KK6
  rw [←hz6]
  clear hz6 z6
  cases v2
  case false=>
   have HF:Hid (rs=false):=hI0 (by rw [HR.out];simp)
   go_wp2_with fail
   go_ret
   exact ⟨by rw [HF.out];first|rfl|(simp;done),HB4.out⟩
  have HR2:Hid (rs=args.all (okX d)):=hI0 (by rw [HR.out,G1.out,G2.out,G5.out];rfl)
  obtain ⟨n1,n2⟩:=RdE.bd HA.out
  go_wp2_with fail
  clear c0 c1 c2 c3 c4 c5 c6
  go_loopw [50] (fun i wr=>∃j:Nat,i=.int .i64 (j:Int)∧j≤args.length∧Hid ((args.take j).all (okX d)=true)∧Hid (Below w.heap.size w wr)∧Hid (wr.heap[w.heap.size]? =some (.cells #[.int .i64 op,.int .i64 it,.int .i64 vk,.int .i64 vi,.string vs,.string nm,.slice A args.length c] 212 (0,0)))) (fun i _=>args.length-(intOf i).toNat)
  case atStart=>exact ⟨0,rfl,Nat.zero_le _,hI0 rfl,HB4,HT4⟩
  obtain ⟨j,rfl,hj,HG,HB,HTB⟩:=hrel
  obtain ⟨wi,rfl⟩:∃wi:World,wi=wr:=⟨_,rfl⟩
  by_cases hltj:j<args.length
  case neg=>
   have hlt3:¬(j:Int)<(args.length:Int):=by omega
   have HF:Hid (rs=true):=hI0 (by
    have h:=HG.out
    rw [List.take_of_length_le (by omega)] at h
    rw [HR2.out,h])
   go_wp2_with fail
   go_ret
   exact ⟨by rw [HF.out];rfl,HB.out⟩
  have hlt3:(j:Int)<(args.length:Int):=by omega
  obtain ⟨b,off,rfl,hF,hcl⟩:=RdE.at_ (K:=7) (enc:=RE.enc) RE.enc_length (by omega) (HA.out.below HB.out) hltj
  have hcx:=hcl j hltj
  have hxi:=HA4.out _ (List.getElem_mem hltj)
  have hs:=fun h=>allP_snoc' (p:=okX d) hltj HG.out h
  have hno:=allP_no (p:=okX d) hltj
  obtain ⟨x,hx⟩:∃x,x=args[j]:=⟨_,rfl⟩
  rw [←hx] at hcx hxi hno
  have hs2:okX d x=true→(args.take (j+1)).all (okX d)=true:=fun h=>hs (by rw [←hx];exact h)
  have KX:∀V,Below w.heap.size w V→_:=fun V hV=>IH.out x (lv-1) V (by have:=HLV.out;omega) (exIs_below hV d x hxi)
  obtain ⟨v,hv⟩:∃bo,bo=okX d x:=⟨_,rfl⟩
  rw [←hv] at KX hno hs2
  have HS:=hI0 hs2
  have HNO:=hI0 hno
  clear hs hs2 hno hx hv hF hcl
  obtain ⟨op2,it2,⟨vk2,vi2,vs2⟩,nm2,A2,c2,args2⟩:=x
  have KX2:∀V,Below w.heap.size w V→Calls Tryz.prog 200 #[.agg #[.int .i64 op2,.int .i64 it2,.int .i64 vk2,.int .i64 vi2,.string vs2,.string nm2,.slice A2 args2.length c2],.int .i64 (lv-1)] V fun x w'=>x=.returned (.bool v)∧Below V.heap.size V w':=KX
  have g0:wi.cell? ⟨b,off+j*7,none⟩=some (.int .i64 op2):=hcx 0 _ (by decide) rfl
  have g1:wi.cell? ⟨b,off+j*7+1,none⟩=some (.int .i64 it2):=hcx 1 _ (by decide) rfl
  have g2:wi.cell? ⟨b,off+j*7+2,none⟩=some (.int .i64 vk2):=hcx 2 _ (by decide) rfl
  have g3:wi.cell? ⟨b,off+j*7+3,none⟩=some (.int .i64 vi2):=hcx 3 _ (by decide) rfl
  have g4:wi.cell? ⟨b,off+j*7+4,none⟩=some (.string vs2):=hcx 4 _ (by decide) rfl
  have g5:wi.cell? ⟨b,off+j*7+5,none⟩=some (.string nm2):=hcx 5 _ (by decide) rfl
  have g6:wi.cell? ⟨b,off+j*7+6,none⟩=some (.slice A2 args2.length c2):=hcx 6 _ (by decide) rfl
  obtain ⟨W1,hW1⟩:∃W1,W1=wi.alloc (.cells #[.int .i64 op2,.int .i64 it2,.int .i64 vk2,.int .i64 vi2,.string vs2,.string nm2,.slice A2 args2.length c2] 212):=⟨_,rfl⟩
  have hb1:Below wi.heap.size wi W1:=by rw [hW1];exact Below.of_alloc _
  have HTB1:=hI0 ((hb1.block w.heap.size (Array.getElem?_eq_some_iff.1 HTB.out).1).trans HTB.out)
  have HB1:Hid (Below w.heap.size w W1):=hI0 (HB.out.trans (hb1.mono HB.out.size))
  have KV:=KX2 W1 HB1.out
  have hlv1:lv-1≤9223372036854775807:=by have:=HLV.out;omega
  have hlv2: -9223372036854775808≤lv-1:=by have:=HLV.out;omega
  clear hcx hxi KX KX2 hb1
  go_wp2_with fail
  rw [←hW1]
  clear hW1 g0 g1 g2 g3 g4 g5 g6
  (with_reducible refine KV.mono ?_)
  rintro _ w2 ⟨rfl,hb2⟩
  have HTB2:=hI0 ((hb2.block w.heap.size (Array.getElem?_eq_some_iff.1 HTB1.out).1).trans HTB1.out)
  have HB2:Hid (Below w.heap.size w w2):=hI0 (HB1.out.trans (hb2.mono HB1.out.size))
  clear hb2 KV
  cases v
  case false=>
   have HF:Hid (rs=false):=hI0 (by rw [HR2.out,HNO.out (by first|rfl|trivial)])
   go_wp2_with fail
   go_ret
   exact ⟨by rw [HF.out];rfl,HB2.out⟩
  have HN:Hid ((args.take (j+1)).all (okX d)=true):=hI0 (HS.out (by first|rfl|trivial))
  go_wp2_with fail
  go_roundw
  case rel=>exact ⟨j+1,by go_num,hltj,HN,HB2,HTB2⟩
  case measure=>simp [intOf];omega
theorem khold_any (a b:ByteArray) (c d g h:Int) (w:World) (ha:a.size≤maxLen) (hb:b.size≤maxLen):Calls Tryz.prog 147 #[.agg #[.string a,.string b,.int .i64 c,.int .i64 d,.int .i64 g,.int .i64 h]] w fun e w'=>e=.returned (.bool (Hld.ok ⟨a,b,c,d,g,h⟩))∧Below w.heap.size w w':=by
 obtain ⟨rs,hrs⟩:∃r,r=Hld.ok ⟨a,b,c,d,g,h⟩:=⟨_,rfl⟩
 rw [←hrs]
 have HR:Hid (rs=(nmB a&&(nmB b&&(validP c d&&validP g h)))):=hI0 hrs
 clear hrs
 obtain ⟨W,hW⟩:∃W,W=w.alloc (.cells #[.string a,.string b,.int .i64 c,.int .i64 d,.int .i64 g,.int .i64 h] 109):=⟨_,rfl⟩
 have HBW:Hid (Below w.heap.size w W):=hI0 (by rw [hW];exact Below.of_alloc _)
 have HT:Hid (W.heap[w.heap.size]? =some (.cells #[.string a,.string b,.int .i64 c,.int .i64 d,.int .i64 g,.int .i64 h] 109 (0,0))):=hI0 (by rw [hW];exact heap_alloc_new _ _)
 have HWS:Hid (w.heap.size<W.heap.size):=hI0 (by rw [hW];simp)
 have HW:=hI0 hW
 clear hW
 have c0:W.cell? ⟨w.heap.size,0,none⟩=some (.string a):=cW0 W _ 0 _ _ _ HT.out
 have c1:W.cell? ⟨w.heap.size,1,none⟩=some (.string b):=cW0 W _ 1 _ _ _ HT.out
 have c2:W.cell? ⟨w.heap.size,2,none⟩=some (.int .i64 c):=cW0 W _ 2 _ _ _ HT.out
 have c3:W.cell? ⟨w.heap.size,3,none⟩=some (.int .i64 d):=cW0 W _ 3 _ _ _ HT.out
 have c4:W.cell? ⟨w.heap.size,4,none⟩=some (.int .i64 g):=cW0 W _ 4 _ _ _ HT.out
 have c5:W.cell? ⟨w.heap.size,5,none⟩=some (.int .i64 h):=cW0 W _ 5 _ _ _ HT.out
 obtain ⟨v1,hv1⟩:∃bo,bo=nmB a:=⟨_,rfl⟩
 have K1:=fun (V:World) (hV:Below w.heap.size w V)=>kname_any a V ha
 rw [←hv1] at K1 HR
 clear hv1
 obtain ⟨v2,hv2⟩:∃bo,bo=nmB b:=⟨_,rfl⟩
 have K2:=fun (V:World) (hV:Below w.heap.size w V)=>kname_any b V hb
 rw [←hv2] at K2 HR
 clear hv2
 obtain ⟨v3,hv3⟩:∃bo,bo=validP c d:=⟨_,rfl⟩
 have K3:=fun (V:World) (hV:Below w.heap.size w V)=>kper_any c d V
 rw [←hv3] at K3 HR
 clear hv3
 obtain ⟨v4,hv4⟩:∃bo,bo=validP g h:=⟨_,rfl⟩
 have K4:=fun (V:World) (hV:Below w.heap.size w V)=>kper_any g h V
 rw [←hv4] at K4 HR
 clear hv4
 have KK7:=K1 W HBW.out
 go_enter Tryz.func147,Tryz.ntmps147
 go_wp2_with fail
 try rw [←HW.out]
 (with_reducible refine KK7.mono ?_)
 rintro _ z7 ⟨rfl,hz7⟩
 clear KK7
 rw [←hz7]
 clear hz7 z7
 cases v1
 case false=>
  have HF:Hid (rs=false):=hI0 (by rw [HR.out];simp)
  go_wp2_with fail
  go_ret
  exact ⟨by rw [HF.out];first|rfl|(simp;done),HBW.out⟩
 have KK8:=K2 W HBW.out
 go_wp2_with fail
 (with_reducible refine KK8.mono ?_)
 rintro _ z8 ⟨rfl,hz8⟩
 clear KK8
 rw [←hz8]
 clear hz8 z8
 cases v2
 case false=>
  have HF:Hid (rs=false):=hI0 (by rw [HR.out];simp)
  go_wp2_with fail
  go_ret
  exact ⟨by rw [HF.out];first|rfl|(simp;done),HBW.out⟩
 have KK9:=K3 W HBW.out
 go_wp2_with fail
 (with_reducible refine KK9.mono ?_)
 rintro _ z9 ⟨rfl,hz9⟩
 clear KK9
 have HB10:Hid (Below w.heap.size w z9):=hI0 (HBW.out.trans (hz9.mono HBW.out.size))
 have HT10:=hI0 ((hz9.block w.heap.size HWS.out).trans HT.out)
 have HL10:Hid (w.heap.size<z9.heap.size):=hI0 (Array.getElem?_eq_some_iff.1 HT10.out).1
 clear hz9
 clear c0 c1 c2 c3 c4 c5
 have c0:z9.cell? ⟨w.heap.size,0,none⟩=some (.string a):=cW0 z9 _ 0 _ _ _ HT10.out
 have c1:z9.cell? ⟨w.heap.size,1,none⟩=some (.string b):=cW0 z9 _ 1 _ _ _ HT10.out
 have c2:z9.cell? ⟨w.heap.size,2,none⟩=some (.int .i64 c):=cW0 z9 _ 2 _ _ _ HT10.out
 have c3:z9.cell? ⟨w.heap.size,3,none⟩=some (.int .i64 d):=cW0 z9 _ 3 _ _ _ HT10.out
 have c4:z9.cell? ⟨w.heap.size,4,none⟩=some (.int .i64 g):=cW0 z9 _ 4 _ _ _ HT10.out
 have c5:z9.cell? ⟨w.heap.size,5,none⟩=some (.int .i64 h):=cW0 z9 _ 5 _ _ _ HT10.out
 cases v3
 case false=>
  have HF:Hid (rs=false):=hI0 (by rw [HR.out];simp)
  go_wp2_with fail
  go_ret
  exact ⟨by rw [HF.out];first|rfl|(simp;done),HB10.out⟩
 have KK11:=K4 z9 HB10.out
 go_wp2_with fail
 (with_reducible refine KK11.mono ?_)
 rintro _ z11 ⟨rfl,hz11⟩
 clear KK11
 have HB12:Hid (Below w.heap.size w z11):=hI0 (HB10.out.trans (hz11.mono HB10.out.size))
 have HT12:=hI0 ((hz11.block w.heap.size HL10.out).trans HT10.out)
 have HL12:Hid (w.heap.size<z11.heap.size):=hI0 (Array.getElem?_eq_some_iff.1 HT12.out).1
 clear hz11
 clear c0 c1 c2 c3 c4 c5
 have c0:z11.cell? ⟨w.heap.size,0,none⟩=some (.string a):=cW0 z11 _ 0 _ _ _ HT12.out
 have c1:z11.cell? ⟨w.heap.size,1,none⟩=some (.string b):=cW0 z11 _ 1 _ _ _ HT12.out
 have c2:z11.cell? ⟨w.heap.size,2,none⟩=some (.int .i64 c):=cW0 z11 _ 2 _ _ _ HT12.out
 have c3:z11.cell? ⟨w.heap.size,3,none⟩=some (.int .i64 d):=cW0 z11 _ 3 _ _ _ HT12.out
 have c4:z11.cell? ⟨w.heap.size,4,none⟩=some (.int .i64 g):=cW0 z11 _ 4 _ _ _ HT12.out
 have c5:z11.cell? ⟨w.heap.size,5,none⟩=some (.int .i64 h):=cW0 z11 _ 5 _ _ _ HT12.out
 cases v4
 case false=>
  have HF:Hid (rs=false):=hI0 (by rw [HR.out];simp)
  go_wp2_with fail
  go_ret
  exact ⟨by rw [HF.out];first|rfl|(simp;done),HB12.out⟩
 have HF:Hid (rs=true):=hI0 (by rw [HR.out];first|rfl|(simp;done))
 go_wp2_with fail
 go_ret
 exact ⟨by rw [HF.out];first|rfl|(simp;done),HB12.out⟩
theorem kfact_any (xA:Option Addr) (xn xc:Nat) (xr:List Val) (x1 x2:Int) (w:World) (hx:RdV w (·<w.heap.size) (.slice xA xn xc) xr) (hg:∀v∈xr,goV v):Calls Tryz.prog 146 #[.agg #[.slice xA xn xc,.int .i64 x1,.int .i64 x2]] w fun e w'=>e=.returned (.bool (Fct.ok ⟨xr,x1,x2⟩))∧Below w.heap.size w w':=by
 obtain ⟨rs,hrs⟩:∃r,r=Fct.ok ⟨xr,x1,x2⟩:=⟨_,rfl⟩
 rw [←hrs]
 have HR:Hid (rs=((xr.all validV&&decide (xr.length≤12))&&validP x1 x2)):=hI0 hrs
 clear hrs
 obtain ⟨W,hW⟩:∃W,W=w.alloc (.cells #[.slice xA xn xc,.int .i64 x1,.int .i64 x2] 68):=⟨_,rfl⟩
 have HBW:Hid (Below w.heap.size w W):=hI0 (by rw [hW];exact Below.of_alloc _)
 have HT:Hid (W.heap[w.heap.size]? =some (.cells #[.slice xA xn xc,.int .i64 x1,.int .i64 x2] 68 (0,0))):=hI0 (by rw [hW];exact heap_alloc_new _ _)
 have HWS:Hid (w.heap.size<W.heap.size):=hI0 (by rw [hW];simp)
 have HW:=hI0 hW
 clear hW
 have c0:W.cell? ⟨w.heap.size,0,none⟩=some (.slice xA xn xc):=cW0 W _ 0 _ _ _ HT.out
 have c1:W.cell? ⟨w.heap.size,1,none⟩=some (.int .i64 x1):=cW0 W _ 1 _ _ _ HT.out
 have c2:W.cell? ⟨w.heap.size,2,none⟩=some (.int .i64 x2):=cW0 W _ 2 _ _ _ HT.out
 obtain ⟨v1,hv1⟩:∃bo,bo=(xr.all validV&&decide (xr.length≤12)):=⟨_,rfl⟩
 have K1:=fun (V:World) (hV:Below w.heap.size w V)=>refValidRow_any (.slice xA xn xc) xr V ((Rd.keep hx (Keeps.below hV)).wide (fun b (hb:b<w.heap.size)=>by show b<V.heap.size;have:=hV.size;omega)) hg
 rw [←hv1] at K1 HR
 clear hv1
 obtain ⟨v2,hv2⟩:∃bo,bo=validP x1 x2:=⟨_,rfl⟩
 have K2:=fun (V:World) (hV:Below w.heap.size w V)=>kper_any x1 x2 V
 rw [←hv2] at K2 HR
 clear hv2
 have KK13:=K1 W HBW.out
 go_enter Tryz.func146,Tryz.ntmps146
 go_wp2_with fail
 try rw [←HW.out]
 (with_reducible refine KK13.mono ?_)
 rintro _ z13 ⟨rfl,hz13⟩
 clear KK13
 have HB14:Hid (Below w.heap.size w z13):=hI0 (HBW.out.trans (hz13.mono HBW.out.size))
 have HT14:=hI0 ((hz13.block w.heap.size HWS.out).trans HT.out)
 have HL14:Hid (w.heap.size<z13.heap.size):=hI0 (Array.getElem?_eq_some_iff.1 HT14.out).1
 clear hz13
 clear c0 c1 c2
 have c0:z13.cell? ⟨w.heap.size,0,none⟩=some (.slice xA xn xc):=cW0 z13 _ 0 _ _ _ HT14.out
 have c1:z13.cell? ⟨w.heap.size,1,none⟩=some (.int .i64 x1):=cW0 z13 _ 1 _ _ _ HT14.out
 have c2:z13.cell? ⟨w.heap.size,2,none⟩=some (.int .i64 x2):=cW0 z13 _ 2 _ _ _ HT14.out
 cases v1
 case false=>
  have HF:Hid (rs=false):=hI0 (by rw [HR.out];simp)
  go_wp2_with fail
  go_ret
  exact ⟨by rw [HF.out];first|rfl|(simp;done),HB14.out⟩
 have KK15:=K2 z13 HB14.out
 go_wp2_with fail
 (with_reducible refine KK15.mono ?_)
 rintro _ z15 ⟨rfl,hz15⟩
 clear KK15
 have HB16:Hid (Below w.heap.size w z15):=hI0 (HB14.out.trans (hz15.mono HB14.out.size))
 have HT16:=hI0 ((hz15.block w.heap.size HL14.out).trans HT14.out)
 have HL16:Hid (w.heap.size<z15.heap.size):=hI0 (Array.getElem?_eq_some_iff.1 HT16.out).1
 clear hz15
 clear c0 c1 c2
 have c0:z15.cell? ⟨w.heap.size,0,none⟩=some (.slice xA xn xc):=cW0 z15 _ 0 _ _ _ HT16.out
 have c1:z15.cell? ⟨w.heap.size,1,none⟩=some (.int .i64 x1):=cW0 z15 _ 1 _ _ _ HT16.out
 have c2:z15.cell? ⟨w.heap.size,2,none⟩=some (.int .i64 x2):=cW0 z15 _ 2 _ _ _ HT16.out
 cases v2
 case false=>
  have HF:Hid (rs=false):=hI0 (by rw [HR.out];simp)
  go_wp2_with fail
  go_ret
  exact ⟨by rw [HF.out];first|rfl|(simp;done),HB16.out⟩
 have HF:Hid (rs=true):=hI0 (by rw [HR.out];first|rfl|(simp;done))
 go_wp2_with fail
 go_ret
 exact ⟨by rw [HF.out];first|rfl|(simp;done),HB16.out⟩
end Go.Proofs.YtbfdegkickjbpaaGreat
