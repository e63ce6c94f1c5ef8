/-
 Rk1
-/
import Derived.Test.YtgfhknnklapldaaGreatDoorPRc3
import Derived.Test.YtgfhknnklapldaaGreatDoorPRcO
namespace Go.Proofs.YtgfhknnklapldaaGreatDoor
open Go.Proofs.Tryz
set_option maxRecDepth 99999
set_option maxHeartbeats 0
open Go.RowKit Go.Lib Go.IntWalk Go.Sort Go.Shelf
theorem printB_all (l:List UInt8):printB l=l.all chP:=by
 unfold printB
 congr 1
 funext c
 unfold chP
 simp [UInt8.le_iff_toNat_le]
 rw [Bool.eq_iff_iff];simp;omega
theorem kname_any (S:ByteArray) (w:World) (h:S.size≤maxLen):Calls prog 32 #[.string S] w fun e w'=>e=.returned (.bool (nmB S))∧w=w':=by
 have k:=refName_any S.data.toList w (by rw [show S.data.toList.length=S.size from rfl];exact h)
 rw [strB_list] at k
 exact k
theorem kinst_any (n:Int) (w:World):Calls prog 79 #[.int .i64 n] w fun e w'=>e=.returned (.bool (instB n))∧w'=w:=by
 unfold instB
 go_in
 go_wp2
 all_goals
  go_ret
  refine ⟨ret_bool (by first|(symm;rw [decide_eq_false_iff_not];omega)|(symm;rw [decide_eq_true_eq];omega)|(rw [Bool.eq_iff_iff];simp;omega)),rfl⟩
theorem kper_any (f t:Int) (w:World):Calls prog 89 #[.agg #[.int .i64 f,.int .i64 t]] w fun e w'=>e=.returned (.bool (validP f t))∧Bl w w':=
 (refPeriodValid_any f t w).mono fun e w' ⟨h1,h2⟩=>⟨h1,by rw [←h2];exact Below.of_alloc _⟩
theorem kcols_any (v:Value) (xs:List Int) (w:World) (hv:RdE 1 intE w (ltw w) v xs):
  Calls prog 191 #[v] w fun e w'=>e=.returned (.bool (ixF xs))∧w'=w:=by
 obtain ⟨A,c,rfl,hc1,hc2,hc3⟩:=Rd.open_ (show Rd w _ 1 v xs.length (xs.flatMap intE) from hv)
 unfold maxLen at hc2
 have HV:=hI0 hv
 have HE:Hid (ixF xs=(xs.all ix11&&decide (xs.length≤12))):=hI0 rfl
 generalize ixF xs=rs at *
 clear hv hc3
 go_in
 go_wp2_with fail
 go_loopw [7] (fun i wr=>∃k:Nat,i=.int .i64 (k:Int)∧k≤xs.length∧Hid ((xs.take k).all ix11=true)∧wr=w) (fun i _=>xs.length-(intOf i).toNat)
 case atStart=>exact ⟨0,rfl,Nat.zero_le _,hI0 rfl,rfl⟩
 obtain ⟨k,rfl,hk,HA,hw⟩:=hrel
 rw [hw]
 clear hw
 by_cases hlt:k<xs.length
 case neg=>
  have hlt2:¬(k:Int)<(xs.length:Int):=by omega
  have HR:Hid (rs=decide (xs.length≤12)):=hI0 (by have h:=HA.out;rw [List.take_of_length_le (by omega)] at h;rw [HE.out,h];rfl)
  by_cases h12:xs.length≤12
  ·have h13:(xs.length:Int)≤12:=by omega
   have HF:Hid (rs=true):=hI0 (by rw [HR.out,decide_eq_true h12])
   clear h12
   go_wp2_with fail
   go_ret
   exact ⟨by rw [HF.out];rfl,rfl⟩
  ·have h13:¬(xs.length:Int)≤12:=by omega
   have HF:Hid (rs=false):=hI0 (by rw [HR.out,decide_eq_false h12])
   clear h12
   go_wp2_with fail
   go_ret
   exact ⟨by rw [HF.out];rfl,rfl⟩
 have hlt2:(k:Int)<(xs.length:Int):=by omega
 obtain ⟨b,off,rfl,hF,hcl⟩:=RdE.at_ (K:=1) (enc:=intE) (fun _=>rfl) (by omega) HV.out hlt
 have hcx:=hcl k hlt 0 _ (by decide) rfl
 rw [Nat.mul_one,Nat.add_zero] at hcx
 have hs:=fun h=>allP_snoc' (p:=ix11) hlt h
 have hn:=allP_no (p:=ix11) hlt
 obtain ⟨x,hx⟩:=eN0 (xs[k])
 rw [←hx] at hcx hn
 have HS:Hid (ix11 x=true→(xs.take (k+1)).all ix11=true):=hI0 (fun h=>hs HA.out (by rw [←hx];exact h))
 have HN:=hI0 hn
 clear hcl hF hs hn hx
 by_cases g1:x<0
 ·have HF:Hid (rs=false):=hI0 (by rw [HE.out,HN.out (by unfold ix11;exact decide_eq_false (by omega))];rfl)
  go_wp2_with fail
  go_ret
  exact ⟨by rw [HF.out];rfl,rfl⟩
 ·by_cases g2:12≤x
  ·have HF:Hid (rs=false):=hI0 (by rw [HE.out,HN.out (by unfold ix11;exact decide_eq_false (by omega))];rfl)
   go_wp2_with fail
   go_ret
   exact ⟨by rw [HF.out];rfl,rfl⟩
  ·have HA2:Hid ((xs.take (k+1)).all ix11=true):=hI0 (HS.out (by unfold ix11;exact decide_eq_true (by omega)))
   go_wp2_with fail
   go_roundw
   case rel=>exact ⟨k+1,by go_num,hlt,HA2,by first|trivial|rfl⟩
   case measure=>simp [intOf];omega
theorem kexp_any:∀(d:Nat) (e:RE) (lv:Int) (w:World),(lv=d∧lv≤24)→exIs d w (ltw w) e→
  Calls prog 192 #[.agg e.enc.toArray,.int .i64 lv] w fun x w'=>x=.returned (.bool (okX d e))∧Bl w w':=by
 intro d
 induction d with
 |zero=>
  intro e lv w hlv _
  obtain ⟨op,it,⟨vk,vi,vs⟩,nm,A,c,args⟩:=e
  show Calls prog 192 #[.agg #[.int .i64 op,.int .i64 it,.int .i64 vk,.int .i64 vi,.string vs,.string nm,.slice A args.length c],.int .i64 lv] w _
  have hl:lv<1:=by omega
  clear hlv
  go_in
  go_wp2_with fail
  go_ret
  exact ⟨rfl,Below.of_alloc _⟩
 |succ d ih=>
  intro e lv w hlv he
  obtain ⟨op,it,⟨vk,vi,vs⟩,nm,A,c,args⟩:=e
  obtain ⟨h1,h2,h3,h4⟩:=he
  have IH:=hI0 ih
  obtain ⟨rs,hrs⟩:=eN0 (okX (d+1) (.mk op it ⟨vk,vi,vs⟩ nm A c args))
  rw [←hrs]
  have hpr:printB nm.data.toList=nm.data.toList.all chP:=printB_all _
  have HR:Hid (rs=(decide (1≤op∧op≤26)&&(decide (-1125899906842624≤it∧it≤1125899906842624)&&(validV ⟨vk,vi,vs⟩&&(decide (nm.size≤49)&&(printB nm.data.toList&&args.all (okX d))))))):=hI0 (by rw [hrs,hpr];rfl)
  show Calls prog 192 #[.agg #[.int .i64 op,.int .i64 it,.int .i64 vk,.int .i64 vi,.string vs,.string nm,.slice A args.length c],.int .i64 lv] w _
  have HA:=hI0 h1
  have HA4:=hI0 h4
  have hl:¬lv<1:=by omega
  have HLV:=hI0 hlv
  have hs1:=h2.2.2
  clear h1 h4 hrs ih hpr h2 hlv
  obtain ⟨W,hW⟩:=eN0 (w.alloc (.cells #[.int .i64 op,.int .i64 it,.int .i64 vk,.int .i64 vi,.string vs,.string nm,.slice A args.length c] 117))
  have HBW:Hid (Bl w W):=hI0 (by rw [hW];exact Below.of_alloc _)
  have HT:Hid (W.heap[w.heap.size]? =some (.cells #[.int .i64 op,.int .i64 it,.int .i64 vk,.int .i64 vi,.string vs,.string nm,.slice A args.length c] 117 (0,0))):=hI0 (by rw [hW];exact heap_alloc_new _ _)
  have HWS:Hid (w.heap.size<W.heap.size):=hI0 (by rw [hW];simp)
  have HW:=hI0 hW
  clear hW
  obtain ⟨c0,c1,c2,c3,c4,c5,c6⟩:=cX7 HT.out
  obtain ⟨v1,hv1⟩:=eN0 (validV ⟨vk,vi,vs⟩)
  have K1:=fun (V:World) (hV:Bl w V)=>refValidValue_any vk vi vs V hs1
  rw [←hv1] at K1 HR
  clear hv1
  obtain ⟨v2,hv2⟩:=eN0 (printB nm.data.toList)
  have K2:=fun (V:World) (hV:Bl w V)=>refPrintable_any nm V h3
  rw [←hv2] at K2 HR
  clear hv2
  by_cases t1_0:op<1
  case pos=>
   have g1:decide (1≤op∧op≤26)=false:=decide_eq_false (by omega)
   have HF:Hid (rs=false):=hI0 (by rw [HR.out,g1];simp)
   go_in
   go_wp2_with fail
   try rw [←HW.out]
   go_ret
   exact ⟨by rw [HF.out];first|rfl|(simp;done),HBW.out⟩
  by_cases t1_1:26<op
  case pos=>
   have g1:decide (1≤op∧op≤26)=false:=decide_eq_false (by omega)
   have HF:Hid (rs=false):=hI0 (by rw [HR.out,g1];simp)
   go_in
   go_wp2_with fail
   try rw [←HW.out]
   go_ret
   exact ⟨by rw [HF.out];first|rfl|(simp;done),HBW.out⟩
  have g1:decide (1≤op∧op≤26)=true:=decide_eq_true (by omega)
  have G1:=hI0 g1
  clear g1
  by_cases t2_0:it< -1125899906842624
  case pos=>
   have g2:decide (-1125899906842624≤it∧it≤1125899906842624)=false:=decide_eq_false (by omega)
   have HF:Hid (rs=false):=hI0 (by rw [HR.out,g2];simp)
   go_in
   go_wp2_with fail
   try rw [←HW.out]
   go_ret
   exact ⟨by rw [HF.out];first|rfl|(simp;done),HBW.out⟩
  by_cases t2_1:1125899906842624<it
  case pos=>
   have g2:decide (-1125899906842624≤it∧it≤1125899906842624)=false:=decide_eq_false (by omega)
   have HF:Hid (rs=false):=hI0 (by rw [HR.out,g2];simp)
   go_in
   go_wp2_with fail
   try rw [←HW.out]
   go_ret
   exact ⟨by rw [HF.out];first|rfl|(simp;done),HBW.out⟩
  have g2:decide (-1125899906842624≤it∧it≤1125899906842624)=true:=decide_eq_true (by omega)
  have G2:=hI0 g2
  clear g2
  have KK3:=K1 W HBW.out
  go_in
  go_wp2_with fail
  try rw [←HW.out]
  (with_reducible refine KK3.mono ?_)
  rintro _ z3 ⟨rfl,hz3⟩
  clear KK3
  have hz3':Bl W z3:=by rw [←hz3];exact Below.of_alloc _
  have HB4:Hid (Bl w z3):=hI0 (HBW.out.trans (hz3'.mono HBW.out.size))
  have HT4:=hI0 ((hz3'.block w.heap.size HWS.out).trans HT.out)
  have HL4:Hid (w.heap.size<z3.heap.size):=hI0 (gL0 HT4.out)
  clear hz3'
  clear hz3
  clear c0 c1 c2 c3 c4 c5 c6
  obtain ⟨c0,c1,c2,c3,c4,c5,c6⟩:=cX7 HT4.out
  cases v1
  case false=>
   have HF:Hid (rs=false):=hI0 (by rw [HR.out];simp)
   go_wp2_with fail
   go_ret
   exact ⟨by rw [HF.out];first|rfl|(simp;done),HB4.out⟩
  by_cases t5_0:49<(nm.size:Int)
  case pos=>
   have g5:decide (nm.size≤49)=false:=decide_eq_false (by omega)
   have HF:Hid (rs=false):=hI0 (by rw [HR.out,g5];simp)
   go_wp2_with fail
   go_ret
   exact ⟨by rw [HF.out];first|rfl|(simp;done),HB4.out⟩
  have g5:decide (nm.size≤49)=true:=decide_eq_true (by omega)
  have G5:=hI0 g5
  clear g5
  have KK6:=K2 z3 HB4.out
  go_wp2_with fail
  (with_reducible refine KK6.mono ?_)
  rintro _ z6 ⟨rfl,hz6⟩
  clear KK6
  rw [←hz6]
  clear hz6 z6
  cases v2
  case false=>
   have HF:Hid (rs=false):=hI0 (by rw [HR.out];simp)
   go_wp2_with fail
   go_ret
   exact ⟨by rw [HF.out];first|rfl|(simp;done),HB4.out⟩
  have HR2:Hid (rs=args.all (okX d)):=hI0 (by rw [HR.out,G1.out,G2.out,G5.out];rfl)
  obtain ⟨n1,n2⟩:=RdE.bd HA.out
  go_wp2_with fail
  clear c0 c1 c2 c3 c4 c5 c6
  go_loopw [50] (fun i wr=>∃j:Nat,i=.int .i64 (j:Int)∧j≤args.length∧Hid ((args.take j).all (okX d)=true)∧Hid (Bl w wr)∧Hid (wr.heap[w.heap.size]? =some (.cells #[.int .i64 op,.int .i64 it,.int .i64 vk,.int .i64 vi,.string vs,.string nm,.slice A args.length c] 117 (0,0)))) (fun i _=>args.length-(intOf i).toNat)
  case atStart=>exact ⟨0,rfl,Nat.zero_le _,hI0 rfl,HB4,HT4⟩
  obtain ⟨j,rfl,hj,HG,HB,HTB⟩:=hrel
  obtain ⟨wi,rfl⟩:=eN0 wr
  by_cases hltj:j<args.length
  case neg=>
   have hlt3:¬(j:Int)<(args.length:Int):=by omega
   have HF:Hid (rs=true):=hI0 (by
    have h:=HG.out
    rw [List.take_of_length_le (by omega)] at h
    rw [HR2.out,h])
   go_wp2_with fail
   go_ret
   exact ⟨by rw [HF.out];rfl,HB.out⟩
  have hlt3:(j:Int)<(args.length:Int):=by omega
  obtain ⟨b,off,rfl,hF,hcl⟩:=RdE.at_ (K:=7) (enc:=RE.enc) RE.enc_length (by omega) (HA.out.below HB.out) hltj
  have hcx:=hcl j hltj
  have hxi:=HA4.out _ (List.getElem_mem hltj)
  have hs:=fun h=>allP_snoc' (p:=okX d) hltj HG.out h
  have hno:=allP_no (p:=okX d) hltj
  obtain ⟨x,hx⟩:=eN0 (args[j])
  rw [←hx] at hcx hxi hno
  have hs2:okX d x=true→(args.take (j+1)).all (okX d)=true:=fun h=>hs (by rw [←hx];exact h)
  have KX:∀V,Bl w V→_:=fun V hV=>IH.out x (lv-1) V (by have:=HLV.out;omega) (exIs_below hV d x hxi)
  obtain ⟨v,hv⟩:=eN0 (okX d x)
  rw [←hv] at KX hno hs2
  have HS:=hI0 hs2
  have HNO:=hI0 hno
  clear hs hs2 hno hx hv hF hcl
  obtain ⟨op2,it2,⟨vk2,vi2,vs2⟩,nm2,A2,c2,args2⟩:=x
  have KX2:∀V,Bl w V→Calls prog 192 #[.agg #[.int .i64 op2,.int .i64 it2,.int .i64 vk2,.int .i64 vi2,.string vs2,.string nm2,.slice A2 args2.length c2],.int .i64 (lv-1)] V fun x w'=>x=.returned (.bool v)∧Bl V w':=KX
  obtain ⟨g0,g1,g2,g3,g4,g5,g6⟩:=cK7 hcx (show _=[.int .i64 op2,.int .i64 it2,.int .i64 vk2,.int .i64 vi2,.string vs2,.string nm2,.slice A2 args2.length c2] from rfl)
  obtain ⟨W1,hW1⟩:=eN0 (wi.alloc (.cells #[.int .i64 op2,.int .i64 it2,.int .i64 vk2,.int .i64 vi2,.string vs2,.string nm2,.slice A2 args2.length c2] 117))
  have hb1:=bN0 hW1
  have HTB1:=hI0 ((hb1.block w.heap.size (gL0 HTB.out)).trans HTB.out)
  have HB1:=bT0 HB hb1
  have KV:=KX2 W1 HB1.out
  have hlv1:lv-1≤9223372036854775807:=by have:=HLV.out;omega
  have hlv2: -9223372036854775808≤lv-1:=by have:=HLV.out;omega
  clear hcx hxi KX KX2 hb1
  go_wp2_with fail
  rw [←hW1]
  clear hW1 g0 g1 g2 g3 g4 g5 g6
  (with_reducible refine KV.mono ?_)
  rintro _ w2 ⟨rfl,hb2⟩
  have HTB2:=hI0 ((hb2.block w.heap.size (gL0 HTB1.out)).trans HTB1.out)
  have HB2:=bT0 HB1 hb2
  clear hb2 KV
  cases v
  case false=>
   have HF:Hid (rs=false):=hI0 (by rw [HR2.out,HNO.out (by first|rfl|trivial)])
   go_wp2_with fail
   go_ret
   exact ⟨by rw [HF.out];rfl,HB2.out⟩
  have HN:Hid ((args.take (j+1)).all (okX d)=true):=hI0 (HS.out (by first|rfl|trivial))
  go_wp2_with fail
  go_roundw
  case rel=>exact ⟨j+1,by go_num,hltj,HN,HB2,HTB2⟩
  case measure=>simp [intOf];omega
theorem khold_any (a b:ByteArray) (c d g h:Int) (w:World) (ha:a.size≤maxLen) (hb:b.size≤maxLen):Calls prog 126 #[.agg #[.string a,.string b,.int .i64 c,.int .i64 d,.int .i64 g,.int .i64 h]] w fun e w'=>e=.returned (.bool (Hld.ok ⟨a,b,c,d,g,h⟩))∧Bl w w':=by
 obtain ⟨rs,hrs⟩:=eN0 (Hld.ok ⟨a,b,c,d,g,h⟩)
 rw [←hrs]
 have HR:Hid (rs=(nmB a&&(nmB b&&(validP c d&&validP g h)))):=hI0 hrs
 clear hrs
 obtain ⟨W,hW⟩:=eN0 (w.alloc (.cells #[.string a,.string b,.int .i64 c,.int .i64 d,.int .i64 g,.int .i64 h] 87))
 have HBW:Hid (Bl w W):=hI0 (by rw [hW];exact Below.of_alloc _)
 have HT:Hid (W.heap[w.heap.size]? =some (.cells #[.string a,.string b,.int .i64 c,.int .i64 d,.int .i64 g,.int .i64 h] 87 (0,0))):=hI0 (by rw [hW];exact heap_alloc_new _ _)
 have HWS:Hid (w.heap.size<W.heap.size):=hI0 (by rw [hW];simp)
 have HW:=hI0 hW
 clear hW
 obtain ⟨c0,c1,c2,c3,c4,c5⟩:=cX6 HT.out
 obtain ⟨v1,hv1⟩:=eN0 (nmB a)
 have K1:=fun (V:World) (hV:Bl w V)=>kname_any a V ha
 rw [←hv1] at K1 HR
 clear hv1
 obtain ⟨v2,hv2⟩:=eN0 (nmB b)
 have K2:=fun (V:World) (hV:Bl w V)=>kname_any b V hb
 rw [←hv2] at K2 HR
 clear hv2
 obtain ⟨v3,hv3⟩:=eN0 (validP c d)
 have K3:=fun (V:World) (hV:Bl w V)=>kper_any c d V
 rw [←hv3] at K3 HR
 clear hv3
 obtain ⟨v4,hv4⟩:=eN0 (validP g h)
 have K4:=fun (V:World) (hV:Bl w V)=>kper_any g h V
 rw [←hv4] at K4 HR
 clear hv4
 have KK7:=K1 W HBW.out
 go_in
 go_wp2_with fail
 try rw [←HW.out]
 (with_reducible refine KK7.mono ?_)
 rintro _ z7 ⟨rfl,hz7⟩
 clear KK7
 rw [←hz7]
 clear hz7 z7
 cases v1
 case false=>
  have HF:Hid (rs=false):=hI0 (by rw [HR.out];simp)
  go_wp2_with fail
  go_ret
  exact ⟨by rw [HF.out];first|rfl|(simp;done),HBW.out⟩
 have KK8:=K2 W HBW.out
 go_wp2_with fail
 (with_reducible refine KK8.mono ?_)
 rintro _ z8 ⟨rfl,hz8⟩
 clear KK8
 rw [←hz8]
 clear hz8 z8
 cases v2
 case false=>
  have HF:Hid (rs=false):=hI0 (by rw [HR.out];simp)
  go_wp2_with fail
  go_ret
  exact ⟨by rw [HF.out];first|rfl|(simp;done),HBW.out⟩
 have KK9:=K3 W HBW.out
 go_wp2_with fail
 (with_reducible refine KK9.mono ?_)
 rintro _ z9 ⟨rfl,hz9⟩
 clear KK9
 have HB10:=bT0 HBW hz9
 have HT10:=hI0 ((hz9.block w.heap.size HWS.out).trans HT.out)
 have HL10:Hid (w.heap.size<z9.heap.size):=hI0 (gL0 HT10.out)
 clear hz9
 clear c0 c1 c2 c3 c4 c5
 obtain ⟨c0,c1,c2,c3,c4,c5⟩:=cX6 HT10.out
 cases v3
 case false=>
  have HF:Hid (rs=false):=hI0 (by rw [HR.out];simp)
  go_wp2_with fail
  go_ret
  exact ⟨by rw [HF.out];first|rfl|(simp;done),HB10.out⟩
 have KK11:=K4 z9 HB10.out
 go_wp2_with fail
 (with_reducible refine KK11.mono ?_)
 rintro _ z11 ⟨rfl,hz11⟩
 clear KK11
 have HB12:=bT0 HB10 hz11
 have HT12:=hI0 ((hz11.block w.heap.size HL10.out).trans HT10.out)
 have HL12:Hid (w.heap.size<z11.heap.size):=hI0 (gL0 HT12.out)
 clear hz11
 clear c0 c1 c2 c3 c4 c5
 obtain ⟨c0,c1,c2,c3,c4,c5⟩:=cX6 HT12.out
 cases v4
 case false=>
  have HF:Hid (rs=false):=hI0 (by rw [HR.out];simp)
  go_wp2_with fail
  go_ret
  exact ⟨by rw [HF.out];first|rfl|(simp;done),HB12.out⟩
 have HF:Hid (rs=true):=hI0 (by rw [HR.out];first|rfl|(simp;done))
 go_wp2_with fail
 go_ret
 exact ⟨by rw [HF.out];first|rfl|(simp;done),HB12.out⟩
theorem kword_any (S:ByteArray) (w:World) (h:S.size≤maxLen):Calls prog 32 #[.string S] w fun e w'=>e=.returned (.bool (nmB S))∧Bl w w':=
 (kname_any S w h).mono fun e w' ⟨h1,h2⟩=>⟨h1,by rw [←h2];exact Below.refl _ _⟩
theorem kchange_any (x1:Int) (x2 x3 x4:ByteArray) (x5:Int) (x6:Bool) (x7 x8:Int) (x9:ByteArray) (w:World) (hs:x9.size≤maxLen) (hx2:x2.size≤maxLen) (hx3:x3.size≤maxLen) (hx4:x4.size≤maxLen):
  Calls prog 125 #[.agg #[.int .i64 x1,.string x2,.string x3,.string x4,.int .i64 x5,.bool x6,.int .i64 x7,.int .i64 x8,.string x9]] w fun e w'=>e=.returned (.bool (Chn.ok ⟨x1,x2,x3,x4,x5,x6,⟨x7,x8,x9⟩⟩))∧Bl w w':=by
 obtain ⟨W0,hW0⟩:=eN0 (w.alloc (.cells #[.int .i64 x1,.string x2,.string x3,.string x4,.int .i64 x5,.bool x6,.int .i64 x7,.int .i64 x8,.string x9] 77))
 obtain ⟨W,hW⟩:=eN0 (W0.alloc (.cells #[.string x2,.string x3,.string x4] 9))
 have hb0:=bN0 hW0
 have hb1:=bN0 hW
 have hT0:=hN0 hW0
 have hz0:=sN0 hW0
 have hN:W.heap[w.heap.size+1]? =some (.cells #[.string x2,.string x3,.string x4] 9 (0,0)):=by rw [hW,←hz0];exact heap_alloc_new _ _
 have hz1:W.heap.size=w.heap.size+2:=by rw [hW];simp [hz0]
 have HT:=hI0 ((hb1.block w.heap.size (by omega)).trans hT0)
 have HN:=hI0 hN
 have HZ:=hI0 hz1
 have HBW:Hid (Bl w W):=hI0 (hb0.trans (hb1.mono hb0.size))
 obtain ⟨rs,hrs⟩:=eN0 (Chn.ok ⟨x1,x2,x3,x4,x5,x6,⟨x7,x8,x9⟩⟩)
 rw [←hrs]
 have HR:Hid (rs=(emW x2&&(emW x3&&(emW x4&&(decide (1≤x1∧x1≤4)&&(decide (0≤x5∧x5≤3)&&validV ⟨x7,x8,x9⟩)))))):=hI0 hrs
 clear hrs hb0 hb1 hT0 hN
 go_in
 go_wp2_with fail
 rw [←hW0,←hW]
 clear hW0 hW hz0 hz1
 go_loopw [14] (fun i wr=>∃k:Nat,i=.int .i64 (k:Int)∧k≤3∧Hid ((1≤k→emW x2=true)∧(2≤k→emW x3=true)∧(3≤k→emW x4=true))∧Hid (Bl W wr)) (fun i _=>3-(intOf i).toNat)
 case atStart=>exact ⟨0,rfl,by omega,hI0 ⟨fun h=>absurd h (by decide),fun h=>absurd h (by decide),fun h=>absurd h (by decide)⟩,hI0 (Below.refl _ _)⟩
 obtain ⟨k,rfl,hk,HG,HB⟩:=hrel
 obtain ⟨wi,rfl⟩:=eN0 wr
 have hNi:=(HB.out.block (w.heap.size+1) (by have:=HZ.out;omega)).trans HN.out
 obtain rfl|rfl|rfl|rfl:k=0∨k=1∨k=2∨k=3:=by omega
 ·have g:=cW1 0 hNi rfl
  clear hNi
  cases hem:x2.toList.isEmpty
  case true=>
   have HE:Hid ((1≤1→emW x2=true)∧(2≤1→emW x3=true)∧(3≤1→emW x4=true)):=hI0 ⟨fun _=>em_eq hem,fun h=>absurd h (by decide),fun h=>absurd h (by decide)⟩
   go_wp2_with fail
   go_roundw
   case rel=>exact ⟨1,by go_num,by omega,HE,HB⟩
   case measure=>simp [intOf]
  have hme:=em_ne hem
  have K:=kword_any x2 wi hx2
  obtain ⟨v,hv⟩:=eN0 (nmB x2)
  rw [←hv] at hme K
  have HME:=hI0 hme
  clear hme hv
  go_wp2_with fail
  (with_reducible refine K.mono ?_)
  rintro _ z1 ⟨rfl,hz⟩
  have HB1:=bT0 HB hz
  clear hz K g
  cases v
  case false=>
   have HF:Hid (rs=false):=hI0 (by rw [HR.out,HME.out];simp)
   go_wp2_with fail
   go_ret
   exact ⟨by rw [HF.out];rfl,HBW.out.trans (HB1.out.mono HBW.out.size)⟩
  have HE:Hid ((1≤1→emW x2=true)∧(2≤1→emW x3=true)∧(3≤1→emW x4=true)):=hI0 ⟨fun _=>HME.out,fun h=>absurd h (by decide),fun h=>absurd h (by decide)⟩
  go_wp2_with fail
  go_roundw
  case rel=>exact ⟨1,by go_num,by omega,HE,HB1⟩
  case measure=>simp [intOf]
 ·have g:=cW1 1 hNi rfl
  clear hNi
  cases hem:x3.toList.isEmpty
  case true=>
   have HE:Hid ((1≤2→emW x2=true)∧(2≤2→emW x3=true)∧(3≤2→emW x4=true)):=hI0 ⟨fun _=>HG.out.1 (by omega),fun _=>em_eq hem,fun h=>absurd h (by decide)⟩
   go_wp2_with fail
   go_roundw
   case rel=>exact ⟨2,by go_num,by omega,HE,HB⟩
   case measure=>simp [intOf]
  have hme:=em_ne hem
  have K:=kword_any x3 wi hx3
  obtain ⟨v,hv⟩:=eN0 (nmB x3)
  rw [←hv] at hme K
  have HME:=hI0 hme
  clear hme hv
  go_wp2_with fail
  (with_reducible refine K.mono ?_)
  rintro _ z1 ⟨rfl,hz⟩
  have HB1:=bT0 HB hz
  clear hz K g
  cases v
  case false=>
   have HF:Hid (rs=false):=hI0 (by rw [HR.out,HME.out];simp)
   go_wp2_with fail
   go_ret
   exact ⟨by rw [HF.out];rfl,HBW.out.trans (HB1.out.mono HBW.out.size)⟩
  have HE:Hid ((1≤2→emW x2=true)∧(2≤2→emW x3=true)∧(3≤2→emW x4=true)):=hI0 ⟨fun _=>HG.out.1 (by omega),fun _=>HME.out,fun h=>absurd h (by decide)⟩
  go_wp2_with fail
  go_roundw
  case rel=>exact ⟨2,by go_num,by omega,HE,HB1⟩
  case measure=>simp [intOf]
 ·have g:=cW1 2 hNi rfl
  clear hNi
  cases hem:x4.toList.isEmpty
  case true=>
   have HE:Hid ((1≤3→emW x2=true)∧(2≤3→emW x3=true)∧(3≤3→emW x4=true)):=hI0 ⟨fun _=>HG.out.1 (by omega),fun _=>HG.out.2.1 (by omega),fun _=>em_eq hem⟩
   go_wp2_with fail
   go_roundw
   case rel=>exact ⟨3,by go_num,by omega,HE,HB⟩
   case measure=>simp [intOf]
  have hme:=em_ne hem
  have K:=kword_any x4 wi hx4
  obtain ⟨v,hv⟩:=eN0 (nmB x4)
  rw [←hv] at hme K
  have HME:=hI0 hme
  clear hme hv
  go_wp2_with fail
  (with_reducible refine K.mono ?_)
  rintro _ z1 ⟨rfl,hz⟩
  have HB1:=bT0 HB hz
  clear hz K g
  cases v
  case false=>
   have HF:Hid (rs=false):=hI0 (by rw [HR.out,HME.out];simp)
   go_wp2_with fail
   go_ret
   exact ⟨by rw [HF.out];rfl,HBW.out.trans (HB1.out.mono HBW.out.size)⟩
  have HE:Hid ((1≤3→emW x2=true)∧(2≤3→emW x3=true)∧(3≤3→emW x4=true)):=hI0 ⟨fun _=>HG.out.1 (by omega),fun _=>HG.out.2.1 (by omega),fun _=>HME.out⟩
  go_wp2_with fail
  go_roundw
  case rel=>exact ⟨3,by go_num,by omega,HE,HB1⟩
  case measure=>simp [intOf]
 ·have hTi:=(HB.out.block w.heap.size (by have:=HZ.out;omega)).trans HT.out
  obtain ⟨c0,c1,c2,c3,c4,c5,c6,c7,c8⟩:=cX9 hTi
  have HR2:Hid (rs=(decide (1≤x1∧x1≤4)&&(decide (0≤x5∧x5≤3)&&validV ⟨x7,x8,x9⟩))):=hI0 (by rw [HR.out,HG.out.1 (by omega),HG.out.2.1 (by omega),HG.out.2.2 (by omega)];rfl)
  have HBF:Hid (Bl w wi):=hI0 (HBW.out.trans (HB.out.mono HBW.out.size))
  have HTF:=hI0 hTi
  have HLF:Hid (w.heap.size<wi.heap.size):=hI0 (Array.getElem?_eq_some_iff.1 hTi).1
  obtain ⟨v3,hv3⟩:=eN0 (validV ⟨x7,x8,x9⟩)
  have K3:=fun (V:World) (hV:Bl w V)=>refValidValue_any x7 x8 x9 V hs
  rw [←hv3] at K3 HR2
  clear hTi hNi hv3
  by_cases t1_0:x1<1
  case pos=>
   have g1:decide (1≤x1∧x1≤4)=false:=decide_eq_false (by omega)
   have HF:Hid (rs=false):=hI0 (by rw [HR2.out,g1]<;>simp)
   go_wp2_with fail
   go_ret
   exact ⟨by rw [HF.out]<;>first|rfl|(simp;done),HBF.out⟩
  by_cases t1_1:4<x1
  case pos=>
   have g1:decide (1≤x1∧x1≤4)=false:=decide_eq_false (by omega)
   have HF:Hid (rs=false):=hI0 (by rw [HR2.out,g1]<;>simp)
   go_wp2_with fail
   go_ret
   exact ⟨by rw [HF.out]<;>first|rfl|(simp;done),HBF.out⟩
  have g1:decide (1≤x1∧x1≤4)=true:=decide_eq_true (by omega)
  have G1:=hI0 g1
  clear g1
  by_cases t2_0:x5<0
  case pos=>
   have g2:decide (0≤x5∧x5≤3)=false:=decide_eq_false (by omega)
   have HF:Hid (rs=false):=hI0 (by rw [HR2.out,g2]<;>simp)
   go_wp2_with fail
   go_ret
   exact ⟨by rw [HF.out]<;>first|rfl|(simp;done),HBF.out⟩
  by_cases t2_1:3<x5
  case pos=>
   have g2:decide (0≤x5∧x5≤3)=false:=decide_eq_false (by omega)
   have HF:Hid (rs=false):=hI0 (by rw [HR2.out,g2]<;>simp)
   go_wp2_with fail
   go_ret
   exact ⟨by rw [HF.out]<;>first|rfl|(simp;done),HBF.out⟩
  have g2:decide (0≤x5∧x5≤3)=true:=decide_eq_true (by omega)
  have G2:=hI0 g2
  clear g2
  have KK3:=K3 wi HBF.out
  go_wp2_with fail
  (with_reducible refine KK3.mono ?_)
  rintro _ z3 ⟨rfl,hz3⟩
  clear KK3
  have hz3':Bl wi z3:=by rw [←hz3];exact Below.of_alloc _
  have HB4:Hid (Bl w z3):=hI0 (HBF.out.trans (hz3'.mono HBF.out.size))
  have HT4:=hI0 ((hz3'.block w.heap.size HLF.out).trans HTF.out)
  have HL4:Hid (w.heap.size<z3.heap.size):=hI0 (gL0 HT4.out)
  clear hz3'
  clear hz3
  clear c0 c1 c2 c3 c4 c5 c6 c7 c8
  obtain ⟨c0,c1,c2,c3,c4,c5,c6,c7,c8⟩:=cX9 HT4.out
  cases v3
  case false=>
   have HF:Hid (rs=false):=hI0 (by rw [HR2.out]<;>simp)
   go_wp2_with fail
   go_ret
   exact ⟨by rw [HF.out]<;>first|rfl|(simp;done),HB4.out⟩
  have HF:Hid (rs=true):=hI0 (by rw [HR2.out,G1.out,G2.out]<;>first|rfl|(simp;done))
  go_wp2_with fail
  go_ret
  exact ⟨by rw [HF.out]<;>first|rfl|(simp;done),HB4.out⟩
theorem ktable_any (t:RTab) (w:World) (ht:t.is w (ltw w)) (hsm:t.sm):Calls prog 124 #[.agg t.enc.toArray] w fun e w'=>e=.returned (.bool t.ok)∧Bl w w':=by
 have HI0:=hI0 ht
 obtain ⟨nm,colA,colC,cols,keyA,keyC,key,forA,forC,fors,chkA,chkC,chks⟩:=t
 have HI:Hid (RTab.is w (ltw w) ⟨nm,colA,colC,cols,keyA,keyC,key,forA,forC,fors,chkA,chkC,chks⟩):=HI0
 have HS0:Hid (RTab.sm ⟨nm,colA,colC,cols,keyA,keyC,key,forA,forC,fors,chkA,chkC,chks⟩):=hI0 hsm
 have hnm:nm.size≤maxLen:=hsm.name
 obtain ⟨a1,a2⟩:=ht.cols.bd
 obtain ⟨b1,b2⟩:=ht.fors.bd
 obtain ⟨c1,c2⟩:=ht.chks.bd
 simp only at a1 a2 b1 b2 c1 c2
 obtain ⟨rs,hrs⟩:=eN0 (RTab.ok ⟨nm,colA,colC,cols,keyA,keyC,key,forA,forC,fors,chkA,chkC,chks⟩)
 rw [←hrs]
 have HR:Hid (rs=(nmB nm&&(decide (1≤(cols.length:Int)∧(cols.length:Int)≤12)&&(ixF key&&(decide (fors.length≤4)&&(decide (chks.length≤4)&&(cols.all RCol.ok&&(fors.all RFor.ok&&chks.all (okX 24))))))))):=hI0 hrs
 show Calls prog 124 #[.agg #[.string nm,.slice colA cols.length colC,.slice keyA key.length keyC,.slice forA fors.length forC,.slice chkA chks.length chkC]] w _
 clear hrs ht hsm HI0
 obtain ⟨W,hW⟩:=eN0 (w.alloc (.cells #[.string nm,.slice colA cols.length colC,.slice keyA key.length keyC,.slice forA fors.length forC,.slice chkA chks.length chkC] 73))
 have HBW:Hid (Bl w W):=hI0 (by rw [hW];exact Below.of_alloc _)
 have HT:Hid (W.heap[w.heap.size]? =some (.cells #[.string nm,.slice colA cols.length colC,.slice keyA key.length keyC,.slice forA fors.length forC,.slice chkA chks.length chkC] 73 (0,0))):=hI0 (by rw [hW];exact heap_alloc_new _ _)
 have HWS:Hid (w.heap.size<W.heap.size):=hI0 (by rw [hW];simp)
 have HW:=hI0 hW
 clear hW
 obtain ⟨c0,c1,c2,c3,c4⟩:=cX5 HT.out
 obtain ⟨v1,hv1⟩:=eN0 (nmB nm)
 have K1:=fun (V:World) (hV:Bl w V)=>kname_any nm V hnm
 rw [←hv1] at K1 HR
 clear hv1
 obtain ⟨v2,hv2⟩:=eN0 (ixF key)
 have K2:=fun (V:World) (hV:Bl w V)=>kcols_any (.slice keyA key.length keyC) key V (HI.out.key.below hV)
 rw [←hv2] at K2 HR
 clear hv2
 have KK5:=K1 W HBW.out
 go_in
 go_wp2_with fail
 try rw [←HW.out]
 (with_reducible refine KK5.mono ?_)
 rintro _ z5 ⟨rfl,hz5⟩
 clear KK5
 rw [←hz5]
 clear hz5 z5
 cases v1
 case false=>
  have HF:Hid (rs=false):=hI0 (by rw [HR.out]<;>simp)
  go_wp2_with fail
  go_ret
  exact ⟨by rw [HF.out]<;>first|rfl|(simp;done),HBW.out⟩
 by_cases t6_0:(cols.length:Int)<1
 case pos=>
  have g6:decide (1≤(cols.length:Int)∧(cols.length:Int)≤12)=false:=decide_eq_false (by omega)
  have HF:Hid (rs=false):=hI0 (by rw [HR.out,g6]<;>simp)
  go_wp2_with fail
  go_ret
  exact ⟨by rw [HF.out]<;>first|rfl|(simp;done),HBW.out⟩
 by_cases t6_1:12<(cols.length:Int)
 case pos=>
  have g6:decide (1≤(cols.length:Int)∧(cols.length:Int)≤12)=false:=decide_eq_false (by omega)
  have HF:Hid (rs=false):=hI0 (by rw [HR.out,g6]<;>simp)
  go_wp2_with fail
  go_ret
  exact ⟨by rw [HF.out]<;>first|rfl|(simp;done),HBW.out⟩
 have g6:decide (1≤(cols.length:Int)∧(cols.length:Int)≤12)=true:=decide_eq_true (by omega)
 have G6:=hI0 g6
 clear g6
 have KK7:=K2 W HBW.out
 go_wp2_with fail
 (with_reducible refine KK7.mono ?_)
 rintro _ z7 ⟨rfl,hz7⟩
 clear KK7
 rw [hz7]
 clear hz7 z7
 cases v2
 case false=>
  have HF:Hid (rs=false):=hI0 (by rw [HR.out]<;>simp)
  go_wp2_with fail
  go_ret
  exact ⟨by rw [HF.out]<;>first|rfl|(simp;done),HBW.out⟩
 by_cases t8_0:4<(fors.length:Int)
 case pos=>
  have g8:decide (fors.length≤4)=false:=decide_eq_false (by omega)
  have HF:Hid (rs=false):=hI0 (by rw [HR.out,g8]<;>simp)
  go_wp2_with fail
  go_ret
  exact ⟨by rw [HF.out]<;>first|rfl|(simp;done),HBW.out⟩
 have g8:decide (fors.length≤4)=true:=decide_eq_true (by omega)
 have G8:=hI0 g8
 clear g8
 by_cases t9_0:4<(chks.length:Int)
 case pos=>
  have g9:decide (chks.length≤4)=false:=decide_eq_false (by omega)
  have HF:Hid (rs=false):=hI0 (by rw [HR.out,g9]<;>simp)
  go_wp2_with fail
  go_ret
  exact ⟨by rw [HF.out]<;>first|rfl|(simp;done),HBW.out⟩
 have g9:decide (chks.length≤4)=true:=decide_eq_true (by omega)
 have G9:=hI0 g9
 clear g9
 have HR1:Hid (rs=(cols.all RCol.ok&&(fors.all RFor.ok&&chks.all (okX 24)))):=hI0 (by rw [HR.out,G6.out,G8.out,G9.out];rfl)
 go_wp2_with fail
 clear c0 c1 c2 c3 c4
 go_loopw [46] (fun i wr=>∃j:Nat,i=.int .i64 (j:Int)∧j≤cols.length∧Hid ((cols.take j).all RCol.ok=true)∧Hid (Bl w wr)∧Hid (wr.heap[w.heap.size]? =some (.cells #[.string nm,.slice colA cols.length colC,.slice keyA key.length keyC,.slice forA fors.length forC,.slice chkA chks.length chkC] 73 (0,0)))) (fun i _=>cols.length-(intOf i).toNat)
 case atStart=>exact ⟨0,rfl,Nat.zero_le _,hI0 rfl,HBW,HT⟩
 obtain ⟨j,rfl,hj,HG,HB10,HTB10⟩:=hrel
 obtain ⟨wi10,rfl⟩:=eN0 wr
 have HL10:Hid (w.heap.size<wi10.heap.size):=hI0 (gL0 HTB10.out)
 by_cases hltj:j<cols.length
 case pos=>
  have hlt3:(j:Int)<(cols.length:Int):=by omega
  obtain ⟨b,off,rfl,hF,hcl⟩:=RdE.at_ (K:=3) (enc:=RCol.enc) (fun _=>rfl) (by omega) (HI.out.cols.below HB10.out) hltj
  have hcx:=hcl j hltj
  have hs:=fun h=>allP_snoc' (p:=RCol.ok) hltj HG.out h
  have hno:=allP_no (p:=RCol.ok) hltj
  have hmem:=List.getElem_mem hltj
  obtain ⟨x,hx⟩:=eN0 (cols[j])
  rw [←hx] at hcx hno hmem
  have hs2:RCol.ok x=true→(cols.take (j+1)).all RCol.ok=true:=fun h=>hs (by rw [←hx];exact h)
  clear hs hx hcl hF
  obtain ⟨n1,k1,b1⟩:=x
  obtain ⟨g0,g1,g2⟩:=cK3 hcx (show _=[.string n1,.int .i64 k1,.bool b1] from rfl)
  have hxS:n1.size≤maxLen:=HS0.out.cols _ hmem
  obtain ⟨ox,hox⟩:=eN0 (RCol.ok ⟨n1,k1,b1⟩)
  rw [←hox] at hno hs2
  have HRX:Hid (ox=(nmB n1&&decide (1≤k1∧k1≤3))):=hI0 hox
  have HS:=hI0 hs2
  have HNO:=hI0 hno
  clear hs2 hno hox hcx
  obtain ⟨W1,hW1⟩:=eN0 (wi10.alloc (.cells #[.string n1,.int .i64 k1,.bool b1] 75))
  have hb1:=bN0 hW1
  have HX1:Hid (W1.heap[wi10.heap.size]? =some (.cells #[.string n1,.int .i64 k1,.bool b1] 75 (0,0))):=hI0 (by rw [hW1];exact heap_alloc_new _ _)
  have HLX:Hid (wi10.heap.size<W1.heap.size):=hI0 (by rw [hW1];simp)
  have HBX:=bT0 HB10 hb1
  have HTB0:=hI0 ((hb1.block w.heap.size (gL0 HTB10.out)).trans HTB10.out)
  have HW1:=hI0 hW1
  clear hb1 hW1
  obtain ⟨v1,hv1⟩:=eN0 (nmB n1)
  have K1:=fun (V:World) (hV:Bl w V)=>kname_any n1 V hxS
  rw [←hv1] at K1 HRX
  clear hv1
  clear hmem
  obtain ⟨q0,q1,q2⟩:=cX3 HX1.out
  have KK11:=K1 W1 HBX.out
  go_wp2_with fail
  try rw [←HW1.out]
  clear g0 g1 g2
  (with_reducible refine KK11.mono ?_)
  rintro _ z11 ⟨rfl,hz11⟩
  clear KK11
  rw [←hz11]
  clear hz11 z11
  cases v1
  case false=>
   have HF:Hid (ox=false):=hI0 (by rw [HRX.out]<;>simp)
   have HFO:Hid (rs=false):=hI0 (by rw [HR1.out,HNO.out HF.out]<;>first|rfl|(simp;done))
   go_wp2_with fail
   go_ret
   exact ⟨by rw [HFO.out]<;>first|rfl|(simp;done),HBX.out⟩
  by_cases t12_0:k1<1
  case pos=>
   have g12:decide (1≤k1∧k1≤3)=false:=decide_eq_false (by omega)
   have HF:Hid (ox=false):=hI0 (by rw [HRX.out,g12]<;>simp)
   have HFO:Hid (rs=false):=hI0 (by rw [HR1.out,HNO.out HF.out]<;>first|rfl|(simp;done))
   go_wp2_with fail
   go_ret
   exact ⟨by rw [HFO.out]<;>first|rfl|(simp;done),HBX.out⟩
  by_cases t12_1:3<k1
  case pos=>
   have g12:decide (1≤k1∧k1≤3)=false:=decide_eq_false (by omega)
   have HF:Hid (ox=false):=hI0 (by rw [HRX.out,g12]<;>simp)
   have HFO:Hid (rs=false):=hI0 (by rw [HR1.out,HNO.out HF.out]<;>first|rfl|(simp;done))
   go_wp2_with fail
   go_ret
   exact ⟨by rw [HFO.out]<;>first|rfl|(simp;done),HBX.out⟩
  have g12:decide (1≤k1∧k1≤3)=true:=decide_eq_true (by omega)
  have G12:=hI0 g12
  clear g12
  have HOX:Hid (ox=true):=hI0 (by rw [HRX.out,G12.out]<;>first|rfl|(simp;done))
  have HN:Hid ((cols.take (j+1)).all RCol.ok=true):=hI0 (HS.out HOX.out)
  go_wp2_with fail
  go_roundw
  case rel=>exact ⟨j+1,by go_num,hltj,HN,HBX,HTB0⟩
  case measure=>simp [intOf];omega
 have hlt3:¬(j:Int)<(cols.length:Int):=by omega
 have HRN10:Hid (rs=(fors.all RFor.ok&&chks.all (okX 24))):=hI0 (by
  have h:=HG.out
  rw [List.take_of_length_le (by omega)] at h
  rw [HR1.out,h]<;>first|rfl|(simp;done))
 obtain ⟨c0,c1,c2,c3,c4⟩:=cX5 HTB10.out
 go_wp2_with fail
 clear c0 c1 c2 c3 c4
 go_loopw [68] (fun i wr=>∃j:Nat,i=.int .i64 (j:Int)∧j≤fors.length∧Hid ((fors.take j).all RFor.ok=true)∧Hid (Bl w wr)∧Hid (wr.heap[w.heap.size]? =some (.cells #[.string nm,.slice colA cols.length colC,.slice keyA key.length keyC,.slice forA fors.length forC,.slice chkA chks.length chkC] 73 (0,0)))) (fun i _=>fors.length-(intOf i).toNat)
 case atStart=>exact ⟨0,rfl,Nat.zero_le _,hI0 rfl,HB10,HTB10⟩
 obtain ⟨j,rfl,hj,HG,HB13,HTB13⟩:=hrel
 obtain ⟨wi13,rfl⟩:=eN0 wr
 have HL13:Hid (w.heap.size<wi13.heap.size):=hI0 (gL0 HTB13.out)
 by_cases hltj:j<fors.length
 case pos=>
  have hlt3:(j:Int)<(fors.length:Int):=by omega
  obtain ⟨b,off,rfl,hF,hcl⟩:=RdE.at_ (K:=2) (enc:=RFor.enc) (fun _=>rfl) (by omega) (HI.out.fors.below HB13.out) hltj
  have hcx:=hcl j hltj
  have hs:=fun h=>allP_snoc' (p:=RFor.ok) hltj HG.out h
  have hno:=allP_no (p:=RFor.ok) hltj
  have hmem:=List.getElem_mem hltj
  obtain ⟨x,hx⟩:=eN0 (fors[j])
  rw [←hx] at hcx hno hmem
  have hs2:RFor.ok x=true→(fors.take (j+1)).all RFor.ok=true:=fun h=>hs (by rw [←hx];exact h)
  clear hs hx hcl hF
  obtain ⟨fA,fc,fl,ft⟩:=x
  obtain ⟨g0,g1⟩:=cK2 hcx (show _=[.slice fA fl.length fc,.string ft] from rfl)
  have hxI:RdE 1 intE w (ltw w) (.slice fA fl.length fc) fl:=HI.out.forI _ hmem
  have hxS:ft.size≤maxLen:=HS0.out.fors _ hmem
  obtain ⟨ox,hox⟩:=eN0 (RFor.ok ⟨fA,fc,fl,ft⟩)
  rw [←hox] at hno hs2
  have HRX:Hid (ox=(ixF fl&&nmB ft)):=hI0 hox
  have HS:=hI0 hs2
  have HNO:=hI0 hno
  clear hs2 hno hox hcx
  obtain ⟨W1,hW1⟩:=eN0 (wi13.alloc (.cells #[.slice fA fl.length fc,.string ft] 158))
  have hb1:=bN0 hW1
  have HX1:Hid (W1.heap[wi13.heap.size]? =some (.cells #[.slice fA fl.length fc,.string ft] 158 (0,0))):=hI0 (by rw [hW1];exact heap_alloc_new _ _)
  have HLX:Hid (wi13.heap.size<W1.heap.size):=hI0 (by rw [hW1];simp)
  have HBX:=bT0 HB13 hb1
  have HTB0:=hI0 ((hb1.block w.heap.size (gL0 HTB13.out)).trans HTB13.out)
  have HW1:=hI0 hW1
  clear hb1 hW1
  obtain ⟨b1,hb1⟩:=eN0 (ixF fl)
  have K1:=fun (V:World) (hV:Bl w V)=>kcols_any (.slice fA fl.length fc) fl V (RdE.below hxI hV)
  rw [←hb1] at K1 HRX
  clear hb1
  obtain ⟨b2,hb2⟩:=eN0 (nmB ft)
  have K2:=fun (V:World) (hV:Bl w V)=>kname_any ft V hxS
  rw [←hb2] at K2 HRX
  clear hb2
  clear hmem
  obtain ⟨q0,q1⟩:=cX2 HX1.out
  have KK14:=K1 W1 HBX.out
  go_wp2_with fail
  try rw [←HW1.out]
  clear g0 g1
  (with_reducible refine KK14.mono ?_)
  rintro _ z14 ⟨rfl,hz14⟩
  clear KK14
  rw [hz14]
  clear hz14 z14
  cases b1
  case false=>
   have HF:Hid (ox=false):=hI0 (by rw [HRX.out]<;>simp)
   have HFO:Hid (rs=false):=hI0 (by rw [HRN10.out,HNO.out HF.out]<;>first|rfl|(simp;done))
   go_wp2_with fail
   go_ret
   exact ⟨by rw [HFO.out]<;>first|rfl|(simp;done),HBX.out⟩
  have KK15:=K2 W1 HBX.out
  go_wp2_with fail
  (with_reducible refine KK15.mono ?_)
  rintro _ z15 ⟨rfl,hz15⟩
  clear KK15
  rw [←hz15]
  clear hz15 z15
  cases b2
  case false=>
   have HF:Hid (ox=false):=hI0 (by rw [HRX.out]<;>simp)
   have HFO:Hid (rs=false):=hI0 (by rw [HRN10.out,HNO.out HF.out]<;>first|rfl|(simp;done))
   go_wp2_with fail
   go_ret
   exact ⟨by rw [HFO.out]<;>first|rfl|(simp;done),HBX.out⟩
  have HOX:Hid (ox=true):=hI0 (by rw [HRX.out]<;>first|rfl|(simp;done))
  have HN:Hid ((fors.take (j+1)).all RFor.ok=true):=hI0 (HS.out HOX.out)
  go_wp2_with fail
  go_roundw
  case rel=>exact ⟨j+1,by go_num,hltj,HN,HBX,HTB0⟩
  case measure=>simp [intOf];omega
 have hlt3:¬(j:Int)<(fors.length:Int):=by omega
 have HRN13:Hid (rs=(chks.all (okX 24))):=hI0 (by
  have h:=HG.out
  rw [List.take_of_length_le (by omega)] at h
  rw [HRN10.out,h]<;>first|rfl|(simp;done))
 obtain ⟨c0,c1,c2,c3,c4⟩:=cX5 HTB13.out
 go_wp2_with fail
 clear c0 c1 c2 c3 c4
 go_loopw [86] (fun i wr=>∃j:Nat,i=.int .i64 (j:Int)∧j≤chks.length∧Hid ((chks.take j).all (okX 24)=true)∧Hid (Bl w wr)∧Hid (wr.heap[w.heap.size]? =some (.cells #[.string nm,.slice colA cols.length colC,.slice keyA key.length keyC,.slice forA fors.length forC,.slice chkA chks.length chkC] 73 (0,0)))) (fun i _=>chks.length-(intOf i).toNat)
 case atStart=>exact ⟨0,rfl,Nat.zero_le _,hI0 rfl,HB13,HTB13⟩
 obtain ⟨j,rfl,hj,HG,HB16,HTB16⟩:=hrel
 obtain ⟨wi16,rfl⟩:=eN0 wr
 have HL16:Hid (w.heap.size<wi16.heap.size):=hI0 (gL0 HTB16.out)
 by_cases hltj:j<chks.length
 case pos=>
  have hlt3:(j:Int)<(chks.length:Int):=by omega
  obtain ⟨b,off,rfl,hF,hcl⟩:=RdE.at_ (K:=7) (enc:=RE.enc) RE.enc_length (by omega) (HI.out.chks.below HB16.out) hltj
  have hcx:=hcl j hltj
  have hs:=fun h=>allP_snoc' (p:=(okX 24)) hltj HG.out h
  have hno:=allP_no (p:=(okX 24)) hltj
  have hmem:=List.getElem_mem hltj
  obtain ⟨x,hx⟩:=eN0 (chks[j])
  rw [←hx] at hcx hno hmem
  have hs2:(okX 24) x=true→(chks.take (j+1)).all (okX 24)=true:=fun h=>hs (by rw [←hx];exact h)
  clear hs hx hcl hF
  obtain ⟨op2,it2,⟨vk2,vi2,vs2⟩,nm2,A2,c2,args2⟩:=x
  obtain ⟨g0,g1,g2,g3,g4,g5,g6⟩:=cK7 hcx (show _=[.int .i64 op2,.int .i64 it2,.int .i64 vk2,.int .i64 vi2,.string vs2,.string nm2,.slice A2 args2.length c2] from rfl)
  have hxI:=HI.out.chkI _ hmem
  obtain ⟨ox,hox⟩:=eN0 ((okX 24) (.mk op2 it2 ⟨vk2,vi2,vs2⟩ nm2 A2 c2 args2))
  rw [←hox] at hno hs2
  have HRX:Hid (ox=(okX 24 (.mk op2 it2 ⟨vk2,vi2,vs2⟩ nm2 A2 c2 args2)&&true)):=hI0 (by rw [hox,Bool.and_true])
  have HS:=hI0 hs2
  have HNO:=hI0 hno
  clear hs2 hno hox hcx
  obtain ⟨W1,hW1⟩:=eN0 (wi16.alloc (.cells #[.int .i64 op2,.int .i64 it2,.int .i64 vk2,.int .i64 vi2,.string vs2,.string nm2,.slice A2 args2.length c2] 117))
  have hb1:=bN0 hW1
  have HX1:Hid (W1.heap[wi16.heap.size]? =some (.cells #[.int .i64 op2,.int .i64 it2,.int .i64 vk2,.int .i64 vi2,.string vs2,.string nm2,.slice A2 args2.length c2] 117 (0,0))):=hI0 (by rw [hW1];exact heap_alloc_new _ _)
  have HLX:Hid (wi16.heap.size<W1.heap.size):=hI0 (by rw [hW1];simp)
  have HBX:=bT0 HB16 hb1
  have HTB0:=hI0 ((hb1.block w.heap.size (gL0 HTB16.out)).trans HTB16.out)
  have HW1:=hI0 hW1
  clear hb1 hW1
  obtain ⟨bx,hbx⟩:=eN0 (okX 24 (.mk op2 it2 ⟨vk2,vi2,vs2⟩ nm2 A2 c2 args2))
  have K1:=fun (V:World) (hV:Bl w V)=>(show Calls prog 192 #[.agg #[.int .i64 op2,.int .i64 it2,.int .i64 vk2,.int .i64 vi2,.string vs2,.string nm2,.slice A2 args2.length c2],.int .i64 24] V fun x w'=>x=.returned (.bool (okX 24 (.mk op2 it2 ⟨vk2,vi2,vs2⟩ nm2 A2 c2 args2)))∧Bl V w' from kexp_any 24 (.mk op2 it2 ⟨vk2,vi2,vs2⟩ nm2 A2 c2 args2) 24 V ⟨rfl,by omega⟩ (exIs_below hV 24 _ hxI))
  rw [←hbx] at K1 HRX
  clear hbx
  clear hmem
  obtain ⟨q0,q1,q2,q3,q4,q5,q6⟩:=cX7 HX1.out
  have KK17:=K1 W1 HBX.out
  go_wp2_with fail
  try rw [←HW1.out]
  clear g0 g1 g2 g3 g4 g5 g6
  (with_reducible refine KK17.mono ?_)
  rintro _ z17 ⟨rfl,hz17⟩
  clear KK17
  have HB18:=bT0 HBX hz17
  have HT18:=hI0 ((hz17.block wi16.heap.size HLX.out).trans HX1.out)
  have HL18:Hid (wi16.heap.size<z17.heap.size):=hI0 (gL0 HT18.out)
  have HTB0_18:=hI0 ((hz17.block w.heap.size (gL0 HTB0.out)).trans HTB0.out)
  clear hz17
  clear q0 q1 q2 q3 q4 q5 q6
  obtain ⟨q0,q1,q2,q3,q4,q5,q6⟩:=cX7 HT18.out
  cases bx
  case false=>
   have HF:Hid (ox=false):=hI0 (by rw [HRX.out]<;>simp)
   have HFO:Hid (rs=false):=hI0 (by rw [HRN13.out,HNO.out HF.out]<;>first|rfl|(simp;done))
   go_wp2_with fail
   go_ret
   exact ⟨by rw [HFO.out]<;>first|rfl|(simp;done),HB18.out⟩
  have HOX:Hid (ox=true):=hI0 (by rw [HRX.out]<;>first|rfl|(simp;done))
  have HN:Hid ((chks.take (j+1)).all (okX 24)=true):=hI0 (HS.out HOX.out)
  go_wp2_with fail
  go_roundw
  case rel=>exact ⟨j+1,by go_num,hltj,HN,HB18,HTB0_18⟩
  case measure=>simp [intOf];omega
 have hlt3:¬(j:Int)<(chks.length:Int):=by omega
 have HRN16:Hid (rs=(true)):=hI0 (by
  have h:=HG.out
  rw [List.take_of_length_le (by omega)] at h
  rw [HRN13.out,h]<;>first|rfl|(simp;done))
 obtain ⟨c0,c1,c2,c3,c4⟩:=cX5 HTB16.out
 have HF:Hid (rs=true):=hI0 (by rw [HRN16.out]<;>first|rfl|(simp;done))
 go_wp2_with fail
 go_ret
 exact ⟨by rw [HF.out]<;>first|rfl|(simp;done),HB16.out⟩
theorem kentry_any (x:REn) (w:World) (ht:x.create.is w (ltw w)) (hf:x.create.few) (hs:x.change.def_.text.size≤maxLen) (hsm:x.sm):Calls prog 80 #[.agg x.enc.toArray] w fun e w'=>e=.returned (.bool x.ok)∧Bl w w':=by
 obtain ⟨tm,tb,⟨nm,colA,colC,cols,keyA,keyC,key,forA,forC,fors,chkA,chkC,chks⟩,⟨x1,x2,x3,x4,x5,x6,⟨x7,x8,x9⟩⟩⟩:=x
 have hs1:=hsm.table
 have hs2:=hsm.create
 have hs3:=hsm.change.name
 have hs4:=hsm.change.to
 have hs5:=hsm.change.cname
 simp only at ht hf hs hs1 hs2 hs3 hs4 hs5
 obtain ⟨f1,f2,f3,f4⟩:=hf
 simp only at f1 f2 f3 f4
 obtain ⟨rs,hrs⟩:=eN0 (REn.ok ⟨tm,tb,⟨nm,colA,colC,cols,keyA,keyC,key,forA,forC,fors,chkA,chkC,chks⟩,⟨x1,x2,x3,x4,x5,x6,⟨x7,x8,x9⟩⟩⟩)
 rw [←hrs]
 obtain ⟨T,hTe⟩:=eN0 (⟨nm,colA,colC,cols,keyA,keyC,key,forA,forC,fors,chkA,chkC,chks⟩:RTab)
 obtain ⟨C,hCe⟩:=eN0 (⟨x1,x2,x3,x4,x5,x6,⟨x7,x8,x9⟩⟩:Chn)
 have HR:Hid (rs=(instB tm&&(nmB tb&&(if x1=0 then C.zero&&(T.ok&&(nm.toList==tb.toList)) else C.ok&&T.blank)))):=hI0 (by rw [hrs,hTe,hCe];rfl)
 have HBL:Hid (T.blank=(nm.toList.isEmpty&&decide (cols.length+key.length+fors.length+chks.length=0))):=hI0 (by rw [hTe];rfl)
 show Calls prog 80 #[.agg #[.int .i64 tm,.string tb,.string nm,.slice colA cols.length colC,.slice keyA key.length keyC,.slice forA fors.length forC,.slice chkA chks.length chkC,.int .i64 x1,.string x2,.string x3,.string x4,.int .i64 x5,.bool x6,.int .i64 x7,.int .i64 x8,.string x9]] w _
 obtain ⟨W,hW⟩:=eN0 (w.alloc (.cells #[.int .i64 tm,.string tb,.string nm,.slice colA cols.length colC,.slice keyA key.length keyC,.slice forA fors.length forC,.slice chkA chks.length chkC,.int .i64 x1,.string x2,.string x3,.string x4,.int .i64 x5,.bool x6,.int .i64 x7,.int .i64 x8,.string x9] 79))
 have hbW:=bN0 hW
 have hT:=hN0 hW
 have HBW:=hI0 hbW
 have HT:=hI0 hT
 have HWS:Hid (w.heap.size<W.heap.size):=hI0 (by rw [hW];simp)
 have K1:=kinst_any tm W
 have K2:=kname_any tb W hs1
 have K3:∀V,Bl w V→Calls prog 124 #[.agg #[.string nm,.slice colA cols.length colC,.slice keyA key.length keyC,.slice forA fors.length forC,.slice chkA chks.length chkC]] V fun e w'=>e=.returned (.bool T.ok)∧Bl V w':=fun V hV=>by rw [hTe];exact ktable_any ⟨nm,colA,colC,cols,keyA,keyC,key,forA,forC,fors,chkA,chkC,chks⟩ V (ht.below hV) hs2
 have K5:∀V,Calls prog 125 #[.agg #[.int .i64 x1,.string x2,.string x3,.string x4,.int .i64 x5,.bool x6,.int .i64 x7,.int .i64 x8,.string x9]] V fun e w'=>e=.returned (.bool C.ok)∧Bl V w':=fun V=>by rw [hCe];exact kchange_any x1 x2 x3 x4 x5 x6 x7 x8 x9 V hs hs3 hs4 hs5
 have HCZ:Hid (C.zero=(decide (x1=0)&&(x2.toList.isEmpty&&(x3.toList.isEmpty&&(x4.toList.isEmpty&&(decide (x5=0)&&(!x6&&(decide (x7=0)&&(decide (x8=0)&&x9.toList.isEmpty))))))))):=hI0 (by rw [hCe];rfl)
 obtain ⟨v1,hv1⟩:=eN0 (instB tm)
 obtain ⟨v2,hv2⟩:=eN0 (nmB tb)
 obtain ⟨v3,hv3⟩:=eN0 T.ok
 obtain ⟨v5,hv5⟩:=eN0 C.ok
 rw [←hv1] at K1 HR
 rw [←hv2] at K2 HR
 rw [←hv3] at K3 HR
 rw [←hv5] at K5 HR
 obtain ⟨c0,c1,c2,c3,c4,c5,c6,c7,c8,c9,c10,c11,c12,c13,c14,c15⟩:=cX16 hT
 clear hbW hT hv1 hv2 hv3 hv5 hrs ht hs hs1 hs2 hs3 hs4 hs5 hsm hTe hCe
 go_in
 go_wp2_with fail
 rw [←hW]
 clear hW
 (with_reducible refine K1.mono ?_)
 rintro _ z1 ⟨rfl,hz⟩
 rw [hz]
 clear hz z1 K1
 cases v1
 case false=>
  have HF:Hid (rs=false):=hI0 (by rw [HR.out];rfl)
  go_wp2_with fail
  go_ret
  exact ⟨by rw [HF.out];first|rfl|(simp;done)|(simp;omega),HBW.out⟩
 go_wp2_with fail
 (with_reducible refine K2.mono ?_)
 rintro _ y1 ⟨rfl,hz⟩
 rw [←hz]
 clear hz K2 y1
 cases v2
 case false=>
  have HF:Hid (rs=false):=hI0 (by rw [HR.out];rfl)
  go_wp2_with fail
  go_ret
  exact ⟨by rw [HF.out];first|rfl|(simp;done)|(simp;omega),HBW.out⟩
 by_cases hk:x1=0
 case pos=>
  subst hk
  have HR2:Hid (rs=(C.zero&&(v3&&(nm.toList==tb.toList)))):=hI0 (by rw [HR.out];rfl)
  have K3:=K3 W HBW.out
  go_wp2_with fail
  (with_reducible refine K3.mono ?_)
  rintro _ y2 ⟨rfl,hz⟩
  have HB2:=bT0 HBW hz
  have hT2:=(hz.block _ HWS.out).trans HT.out
  clear hz K3 c0 c1 c2 c3 c4 c5 c6 c7 c8 c9 c10 c11 c12 c13 c14 c15
  obtain ⟨c0,c1,c2,c3,c4,c5,c6,c7,c8,c9,c10,c11,c12,c13,c14,c15⟩:=cX16 hT2
  clear hT2
  cases v3
  case false=>
   have HF:Hid (rs=false):=hI0 (by rw [HR2.out];simp)
   go_wp2_with fail
   go_ret
   exact ⟨by rw [HF.out];first|rfl|(simp;done)|(simp;omega),HB2.out⟩
  cases eq1:(nm.toList==tb.toList)
  case false=>
   have HF:Hid (rs=false):=hI0 (by rw [HR2.out,eq1];simp)
   go_wp2_with fail
   go_ret
   exact ⟨by rw [HF.out];first|rfl|(simp;done)|(simp;omega),HB2.out⟩
  cases e0:x2.toList.isEmpty
  case false=>
   have HF:Hid (rs=false):=hI0 (by rw [HR2.out,HCZ.out];simp [e0])
   go_wp2_with fail
   go_ret
   exact ⟨by rw [HF.out];first|rfl|(simp;done)|(simp;omega),HB2.out⟩
  cases e1:x3.toList.isEmpty
  case false=>
   have HF:Hid (rs=false):=hI0 (by rw [HR2.out,HCZ.out];simp [e1])
   go_wp2_with fail
   go_ret
   exact ⟨by rw [HF.out];first|rfl|(simp;done)|(simp;omega),HB2.out⟩
  cases e2:x4.toList.isEmpty
  case false=>
   have HF:Hid (rs=false):=hI0 (by rw [HR2.out,HCZ.out];simp [e2])
   go_wp2_with fail
   go_ret
   exact ⟨by rw [HF.out];first|rfl|(simp;done)|(simp;omega),HB2.out⟩
  by_cases e3:x5=0
  case neg=>
   have HF:Hid (rs=false):=hI0 (by rw [HR2.out,HCZ.out];simp [e3])
   go_wp2_with fail
   go_ret
   exact ⟨by rw [HF.out];first|rfl|(simp;done)|(simp;omega),HB2.out⟩
  subst e3
  cases x6
  case true=>
   have HF:Hid (rs=false):=hI0 (by rw [HR2.out,HCZ.out];simp [Bool.not_true])
   go_wp2_with fail
   go_ret
   exact ⟨by rw [HF.out];first|rfl|(simp;done)|(simp;omega),HB2.out⟩
  by_cases e5:x7=0
  case neg=>
   have HF:Hid (rs=false):=hI0 (by rw [HR2.out,HCZ.out];simp [e5])
   go_wp2_with fail
   go_ret
   exact ⟨by rw [HF.out];first|rfl|(simp;done)|(simp;omega),HB2.out⟩
  subst e5
  by_cases e6:x8=0
  case neg=>
   have HF:Hid (rs=false):=hI0 (by rw [HR2.out,HCZ.out];simp [e6])
   go_wp2_with fail
   go_ret
   exact ⟨by rw [HF.out];first|rfl|(simp;done)|(simp;omega),HB2.out⟩
  subst e6
  cases e7:x9.toList.isEmpty
  case false=>
   have HF:Hid (rs=false):=hI0 (by rw [HR2.out,HCZ.out];simp [e7])
   go_wp2_with fail
   go_ret
   exact ⟨by rw [HF.out];first|rfl|(simp;done)|(simp;omega),HB2.out⟩
  have HF:Hid (rs=true):=hI0 (by rw [HR2.out,HCZ.out,eq1];simp [e0,e1,e2,e7])
  go_wp2_with fail
  go_ret
  exact ⟨by rw [HF.out];first|rfl|(simp;done)|(simp;omega),HB2.out⟩
 have HR2:Hid (rs=(v5&&(nm.toList.isEmpty&&decide (cols.length+key.length+fors.length+chks.length=0)))):=hI0 (by rw [HR.out,if_neg hk,HBL.out];rfl)
 go_upto_region 5 with (fail)
 clear hk
 obtain ⟨W2,hW2⟩:=eN0 (W.alloc (.cells #[.string nm,.slice colA cols.length colC,.slice keyA key.length keyC,.slice forA fors.length forC,.slice chkA chks.length chkC] 73))
 have hb2:=bN0 hW2
 have hN2:=hN0 hW2
 have hL2:W.heap.size<W2.heap.size:=by rw [hW2];simp
 have hT2:=(hb2.block _ HWS.out).trans HT.out
 have HB2:=bT0 HBW hb2
 have K5:=K5 W2
 go_upto_region 6 with (fail)
 rw [←hW2]
 clear hW2 hb2 c0 c1 c2 c3 c4 c5 c6 c7 c8 c9 c10 c11 c12 c13 c14 c15
 have c7:=cW1 7 hT2 rfl
 have c8:=cW1 8 hT2 rfl
 have c9:=cW1 9 hT2 rfl
 have c10:=cW1 10 hT2 rfl
 have c11:=cW1 11 hT2 rfl
 have c12:=cW1 12 hT2 rfl
 have c13:=cW1 13 hT2 rfl
 have c14:=cW1 14 hT2 rfl
 have c15:=cW1 15 hT2 rfl
 clear hT2
 have HN2:=hI0 hN2
 have HL2:=hI0 hL2
 clear hN2 hL2
 go_wp2_with fail
 (with_reducible refine K5.mono ?_)
 rintro _ y2 ⟨rfl,hz⟩
 have HB3:=bT0 HB2 hz
 have hN3:=(hz.block _ HL2.out).trans HN2.out
 clear hz K5 c7 c8 c9 c10 c11 c12 c13 c14 c15
 obtain ⟨t0,t1,t2,t3,t4⟩:=cX5 hN3
 clear hN3
 cases v5
 case false=>
  have HF:Hid (rs=false):=hI0 (by rw [HR2.out];rfl)
  go_wp2_with fail
  go_ret
  exact ⟨by rw [HF.out];first|rfl|(simp;done)|(simp;omega),HB3.out⟩
 cases hem:nm.toList.isEmpty
 case false=>
  have HF:Hid (rs=false):=hI0 (by rw [HR2.out,hem];simp)
  go_wp2_with fail
  go_ret
  exact ⟨by rw [HF.out];first|rfl|(simp;done)|(simp;omega),HB3.out⟩
 by_cases h0:cols.length+key.length+fors.length+chks.length=0
 case pos=>
  have HF:Hid (rs=true):=hI0 (by rw [HR2.out,hem,decide_eq_true h0];rfl)
  have z1:(cols.length:Int)=0:=by omega
  have z2:(key.length:Int)=0:=by omega
  have z3:(fors.length:Int)=0:=by omega
  have z4:(chks.length:Int)=0:=by omega
  clear h0 f1 f2 f3 f4
  go_wp2_with fail
  go_ret
  exact ⟨by rw [HF.out];first|rfl|(simp;done)|(simp;omega),HB3.out⟩
 have HF:Hid (rs=false):=hI0 (by rw [HR2.out,hem,decide_eq_false h0];rfl)
 have i1:(cols.length:Int)+(key.length:Int)≤9223372036854775807:=by omega
 have i2:(cols.length:Int)+(key.length:Int)+(fors.length:Int)≤9223372036854775807:=by omega
 have i3:(cols.length:Int)+(key.length:Int)+(fors.length:Int)+(chks.length:Int)≤9223372036854775807:=by omega
 have i4:¬(cols.length:Int)+(key.length:Int)+(fors.length:Int)+(chks.length:Int)=0:=by omega
 clear h0
 go_wp2_with fail
 go_ret
 exact ⟨by rw [HF.out];first|rfl|(simp;done)|(simp;omega),HB3.out⟩
theorem kholds_any (v:Value) (l:List Hld) (w:World) (hv:RdE 6 Hld.enc w (ltw w) v l) (hs:∀x∈l,x.sm):Calls prog 82 #[v] w fun e w'=>e=.returned (.int .i64 (holdsF l))∧Bl w w':=by
 obtain ⟨A,c,rfl,hc1,hc2,hc3⟩:=Rd.open_ (show Rd w _ 6 v l.length (l.flatMap Hld.enc) from hv)
 unfold maxLen at hc2
 have HV:=hI0 hv
 have HS:=hI0 hs
 obtain ⟨rs,hrs⟩:=eN0 (holdsF l)
 rw [←hrs]
 have HR:Hid (rs=namedF Hld.name Hld.ok none l):=hI0 hrs
 clear hv hs hc3 hrs
 have HBW:Hid (Bl w w):=hI0 (Below.refl _ _)
 go_in
 go_wp2_with fail
 go_loopw [7] (fun i wr=>∃k:Nat,i=.int .i64 (k:Int)∧k≤l.length∧Hid (namedF Hld.name Hld.ok (prevN Hld.name l k) (l.drop k)=namedF Hld.name Hld.ok none l)∧Hid (Bl w wr)) (fun i _=>l.length-(intOf i).toNat)
 case atStart=>exact ⟨0,rfl,Nat.zero_le _,hI0 rfl,HBW⟩
 case round=>
  obtain ⟨k,rfl,hk,HG,HB1⟩:=hrel
  obtain ⟨wi1,rfl⟩:=eN0 wr
  by_cases hlt:k<l.length
  case pos=>
   have hlt2:(k:Int)<(l.length:Int):=by omega
   obtain ⟨b,off,rfl,hF,hcl⟩:=RdE.at_ (K:=6) (enc:=Hld.enc) (fun _=>rfl) (by omega) (HV.out.below HB1.out) hlt
   have HCL:Hid (∀i (hi:i<l.length) j u,j<6→(Hld.enc l[i])[j]? =some u→wi1.cell? ⟨b,off+i*6+j,none⟩=some u):=hI0 hcl
   obtain ⟨BB,hBB⟩:∃B0,wi1.heap[b]? =some B0:=⟨_,Array.getElem?_eq_getElem hF⟩
   have HBB:=hI0 hBB
   have HBB0:=hI0 hBB
   have HLK:=hI0 hlt
   have hg:=HG.out
   rw [namedF_at hlt] at hg
   have hmem:=List.getElem_mem hlt
   have hcx0:=HCL.out k hlt
   obtain ⟨x,hx⟩:=eN0 (l[k]'hlt)
   rw [←hx] at hcx0
   rw [←hx] at hmem
   rw [←hx] at hg
   have hcx:∀j u,j<6→(Hld.enc x)[j]? =some u→wi1.cell? ⟨b,off+k*6+j,none⟩=some u:=hcx0
   clear hcl hx hBB hcx0
   obtain ⟨a,b1,c,d,g,h⟩:=x
   obtain ⟨g0,g1,g2,g3,g4,g5⟩:=cK6 hcx (show _=[.string a,.string b1,.int .i64 c,.int .i64 d,.int .i64 g,.int .i64 h] from rfl)
   have hsx:=HS.out _ hmem
   obtain ⟨ox,hox⟩:=eN0 (Hld.ok ⟨a,b1,c,d,g,h⟩)
   have HG2:Hid (((if ox=false then 8 else if (match (prevN Hld.name l k) with|some q=>bleS a q|none=>false)=true then 9 else namedF Hld.name Hld.ok (prevN Hld.name l (k+1)) (l.drop (k+1)))=namedF Hld.name Hld.ok none l)):=hI0 (by rw [hox];exact hg)
   have HRX:Hid (ox=(Hld.ok ⟨a,b1,c,d,g,h⟩)):=hI0 (hox)
   clear hg hox hcx
   obtain ⟨W1,hW1⟩:=eN0 (wi1.alloc (.cells #[.string a,.string b1,.int .i64 c,.int .i64 d,.int .i64 g,.int .i64 h] 87))
   have hb1:=bN0 hW1
   have HX1:Hid (W1.heap[wi1.heap.size]? =some (.cells #[.string a,.string b1,.int .i64 c,.int .i64 d,.int .i64 g,.int .i64 h] 87 (0,0))):=hI0 (by rw [hW1];exact heap_alloc_new _ _)
   have HLX:Hid (wi1.heap.size<W1.heap.size):=hI0 (by rw [hW1];simp)
   have HBX:=bT0 HB1 hb1
   have HBBX:Hid (W1.heap[b]? =some BB):=hI0 ((hb1.block b hF).trans HBB.out)
   have HW1:=hI0 hW1
   clear hb1 hW1
   obtain ⟨bx,hbx⟩:=eN0 (Hld.ok ⟨a,b1,c,d,g,h⟩)
   have K1:=fun (V:World) (hV:Bl w V)=>khold_any a b1 c d g h V hsx.1 hsx.2
   rw [←hbx] at K1 HRX
   clear hbx
   clear hmem hF
   obtain ⟨q0,q1,q2,q3,q4,q5⟩:=cX6 HX1.out
   have KK2:=K1 W1 HBX.out
   go_wp2_with fail
   try rw [←HW1.out]
   clear g0 g1 g2 g3 g4 g5
   (with_reducible refine KK2.mono ?_)
   rintro _ z2 ⟨rfl,hz2⟩
   clear KK2
   have HB3:=bT0 HBX hz2
   have HT3:=hI0 ((hz2.block wi1.heap.size HLX.out).trans HX1.out)
   have HL3:Hid (wi1.heap.size<z2.heap.size):=hI0 (gL0 HT3.out)
   have HBBX_3:=hI0 ((hz2.block b (gL0 HBBX.out)).trans HBBX.out)
   clear hz2
   clear q0 q1 q2 q3 q4 q5
   obtain ⟨q0,q1,q2,q3,q4,q5⟩:=cX6 HT3.out
   cases bx
   case false=>
    have HF:Hid (ox=false):=hI0 (by rw [HRX.out]<;>simp)
    have HFO:Hid (rs=8):=hI0 (by
     have h:=HG2.out
     rw [if_pos HF.out] at h
     rw [HR.out,←h]<;>rfl)
    go_wp2_with fail
    go_ret
    exact ⟨by rw [HFO.out]<;>first|rfl|(simp;done),HB3.out⟩
   case true=>
    have HOX:Hid (ox=true):=hI0 (by rw [HRX.out]<;>first|rfl|(simp;done))
    have HG3:Hid ((if (match (prevN Hld.name l k) with|some q=>bleS a q|none=>false)=true then 9 else namedF Hld.name Hld.ok (prevN Hld.name l (k+1)) (l.drop (k+1)))=namedF Hld.name Hld.ok none l):=hI0 (by
     have h:=HG2.out
     rw [if_neg (by rw [HOX.out];simp)] at h
     exact h)
    go_upto_region 6 with (fail)
    clear q0 q1 q2 q3 q4 q5
    by_cases hk0:k=0
    case pos=>
     have HG4:Hid (namedF Hld.name Hld.ok (prevN Hld.name l (k+1)) (l.drop (k+1))=namedF Hld.name Hld.ok none l):=hI0 (by rw [←HG3.out];exact (if_neg (by simp [prevN,hk0])).symm)
     subst hk0
     have h00:¬(0:Int)<((0:Nat):Int):=by omega
     refine rB0 z2 (fun zh=>?_)
     refine hT 0 15 ?_
     refine hT 1 16 ?_
     refine hT 2 17 ?_
     refine hK 3 18 ?_
     refine hK 4 19 ?_
     refine hK 5 20 ?_
     refine hK 6 21 ?_
     refine hK 7 22 ?_
     refine hK 8 23 ?_
     refine hK 9 24 ?_
     refine hK 10 25 ?_
     refine hK 11 26 ?_
     refine hT 12 27 ?_
     refine rD0 ?_
     clear zh h00
     go_wp2_with fail
     go_roundw
     case rel=>exact ⟨0+1,by go_num,by have:=HLK.out;omega,HG4,(hI0 HB3.out.drew)⟩
     case measure=>have:=HLK.out;simp [intOf];omega
    case neg=>
     obtain ⟨m,rfl⟩:∃m,k=m+1:=⟨k-1,by omega⟩
     have hml:m<l.length:=by omega
     have hcy0:=HCL.out m hml
     have hpv0:prevN Hld.name l (m+1)=some (Hld.name l[m]):=prevN_succ hml
     obtain ⟨y,hy⟩:=eN0 (l[m])
     rw [←hy] at hcy0 hpv0
     have hcy:∀j u,j<6→(Hld.enc y)[j]? =some u→wi1.cell? ⟨b,off+m*6+j,none⟩=some u:=hcy0
     have hpv:prevN Hld.name l (m+1)=some (Hld.name y):=hpv0
     have hg3:=HG3.out
     rw [hpv] at hg3
     clear hy hpv hpv0 hcy0
     obtain ⟨yn,y2,y3,y4,y5,y6⟩:=y
     have HG5:Hid ((if bleS a yn=true then 9 else namedF Hld.name Hld.ok (prevN Hld.name l ((m+1)+1)) (l.drop ((m+1)+1)))=namedF Hld.name Hld.ok none l):=hI0 hg3
     have p0:z2.cell? ⟨b,off+m*6,none⟩=some (.string yn):=(World.cell?_of_block (HBBX_3.out.trans HBB0.out.symm)).trans (hcy 0 _ (by decide) rfl)
     have HBL:Hid (b<z2.heap.size):=hI0 (gL0 HBBX_3.out)
     have hm63:m≤9223372036854775807:=by omega
     have hm64:(m:Int)≤9223372036854775807:=by omega
     have hm65: -9223372036854775808≤(m:Int):=by omega
     clear hcy hg3
     rcases hlt1:Go.Op.bytesLess a.toList yn.toList with _|_<;>rcases heq1:(a.toList==yn.toList) with _|_
     all_goals
      have HLE:Hid (bleS a yn=(Go.Op.bytesLess a.toList yn.toList||(a.toList==yn.toList))):=hI0 rfl
      rw [hlt1,heq1] at HLE
      refine rB0 z2 (fun zh=>?_)
      refine hT 0 15 ?_
      refine hU 1 16 (v:=?_) zh ?_ ?_
      rotate_left
      ·intro w' hSw;(try dsimp only at hSw);have hkp2:(0:Int)<(m:Int)+1:=(by omega);have hkn:0<m+1:=(by omega);go_simp<;>with_reducible rfl
      refine hT 2 17 ?_
      refine hT 3 18 ?_
      refine hU 4 19 (v:=?_) zh ?_ ?_
      rotate_left
      ·intro w' hSw;(try dsimp only at hSw);have q:=(World.cell?_of_block (hSw.block _ HL3.out)).trans (cW0 z2 wi1.heap.size 0 _ _ _ HT3.out);go_simp<;>with_reducible rfl
      refine hT 5 20 ?_
      refine hT 6 21 ?_
      refine hU 7 22 (v:=?_) zh ?_ ?_
      rotate_left
      ·intro w' hSw;(try dsimp only at hSw);have e1:((m+1:Nat):Int)-1=(m:Int):=(by omega);have e2:IntKind.i64.wrap (m:Int)=(m:Int):=(by rw [Go.IntWalk.i64_left,Go.IntWalk.wrap64_in _ ⟨hm65,hm64⟩]);go_simp<;>(try rw [e2])<;>with_reducible rfl
      refine hT 8 23 ?_
      refine hT 9 24 ?_
      refine hU 10 25 (v:=?_) zh ?_ ?_
      rotate_left
      ·intro w' hSw;(try dsimp only at hSw);have q:=(World.cell?_of_block (hSw.block _ HBL.out)).trans p0;go_simp<;>with_reducible rfl
      refine hT 11 26 ?_
      refine hT 12 27 ?_
      refine rD0 ?_
      clear zh p0
     case false.false=>
      have HG4:Hid (namedF Hld.name Hld.ok (prevN Hld.name l ((m+1)+1)) (l.drop ((m+1)+1))=namedF Hld.name Hld.ok none l):=hI0 (by
       have h:=HG5.out
       have hb:bleS a yn=false:=HLE.out
       simp only [hb,Bool.false_eq_true,if_false] at h
       exact h)
      go_wp2_with fail
      go_roundw
      case rel=>exact ⟨m+1+1,by go_num,by have:=HLK.out;omega,HG4,(hI0 HB3.out.drew)⟩
      case measure=>have:=HLK.out;simp [intOf];omega
     all_goals
      have HF:Hid (rs=9):=hI0 (by
       have h:=HG5.out
       have hb:bleS a yn=true:=HLE.out
       simp only [hb,if_true] at h
       rw [HR.out,←h]<;>rfl)
      go_wp2_with fail
      go_ret
      exact ⟨by rw [HF.out]<;>first|rfl|(simp;done),HB3.out.drew⟩
  have hlt2:¬(k:Int)<(l.length:Int):=by omega
  have HRN1:Hid (rs=(0)):=hI0 (by
   have h:=HG.out
   rw [namedF_end (by omega)] at h
   rw [HR.out,←h]<;>rfl)
  go_wp2_with fail
  go_ret
  exact ⟨by rw [HRN1.out]<;>first|rfl|(simp;done),HB1.out⟩
theorem krules_any (v1 v2:Value) (pl:List Pol) (hl:List Hor) (w:World) (hv:RdE 2 Pol.enc w (ltw w) v1 pl) (hv2:RdE 2 Hor.enc w (ltw w) v2 hl) (hs:∀x∈pl,x.sm) (hs2:∀x∈hl,x.sm):Calls prog 83 #[v1,v2] w fun e w'=>e=.returned (.int .i64 (restF pl hl))∧Bl w w':=by
 obtain ⟨A,c,rfl,hc1,hc2,hc3⟩:=Rd.open_ (show Rd w _ 2 v1 pl.length (pl.flatMap Pol.enc) from hv)
 obtain ⟨A2,c2,rfl,hd1,hd2,hd3⟩:=Rd.open_ (show Rd w _ 2 v2 hl.length (hl.flatMap Hor.enc) from hv2)
 unfold maxLen at hc2 hd2
 have HV:=hI0 hv
 have HS:=hI0 hs
 have HVH:=hI0 hv2
 have HSH:=hI0 hs2
 obtain ⟨rs,hrs⟩:=eN0 (restF pl hl)
 rw [←hrs]
 have HR:Hid (rs=if namedF Pol.table Pol.ok none pl≠0 then namedF Pol.table Pol.ok none pl else namedF Hor.table Hor.ok none hl):=hI0 hrs
 clear hv hs hv2 hs2 hc3 hd3 hrs
 have HBW:Hid (Bl w w):=hI0 (Below.refl _ _)
 go_in
 go_wp2_with fail
 go_loopw [11] (fun i wr=>∃k:Nat,i=.int .i64 (k:Int)∧k≤pl.length∧Hid (namedF Pol.table Pol.ok (prevN Pol.table pl k) (pl.drop k)=namedF Pol.table Pol.ok none pl)∧Hid (Bl w wr)) (fun i _=>pl.length-(intOf i).toNat)
 case atStart=>exact ⟨0,rfl,Nat.zero_le _,hI0 rfl,HBW⟩
 case round=>
  obtain ⟨k,rfl,hk,HG,HB4⟩:=hrel
  obtain ⟨wi4,rfl⟩:=eN0 wr
  by_cases hlt:k<pl.length
  case pos=>
   have hlt2:(k:Int)<(pl.length:Int):=by omega
   obtain ⟨b,off,rfl,hF,hcl⟩:=RdE.at_ (K:=2) (enc:=Pol.enc) (fun _=>rfl) (by omega) (HV.out.below HB4.out) hlt
   have HCL:Hid (∀i (hi:i<pl.length) j u,j<2→(Pol.enc pl[i])[j]? =some u→wi4.cell? ⟨b,off+i*2+j,none⟩=some u):=hI0 hcl
   obtain ⟨BB,hBB⟩:∃B0,wi4.heap[b]? =some B0:=⟨_,Array.getElem?_eq_getElem hF⟩
   have HBB:=hI0 hBB
   have HBB0:=hI0 hBB
   have HLK:=hI0 hlt
   have hg:=HG.out
   rw [namedF_at hlt] at hg
   have hmem:=List.getElem_mem hlt
   have hcx0:=HCL.out k hlt
   obtain ⟨x,hx⟩:=eN0 (pl[k]'hlt)
   rw [←hx] at hcx0
   rw [←hx] at hmem
   rw [←hx] at hg
   have hcx:∀j u,j<2→(Pol.enc x)[j]? =some u→wi4.cell? ⟨b,off+k*2+j,none⟩=some u:=hcx0
   clear hcl hx hBB hcx0
   obtain ⟨a,t⟩:=x
   obtain ⟨g0,g1⟩:=cK2 hcx (show _=[.string a,.int .i64 t] from rfl)
   have hsx:a.size≤maxLen:=HS.out _ hmem
   obtain ⟨ox,hox⟩:=eN0 (Pol.ok ⟨a,t⟩)
   have HG2:Hid (((if ox=false then 8 else if (match (prevN Pol.table pl k) with|some q=>bleS a q|none=>false)=true then 9 else namedF Pol.table Pol.ok (prevN Pol.table pl (k+1)) (pl.drop (k+1)))=namedF Pol.table Pol.ok none pl)):=hI0 (by rw [hox];exact hg)
   have HRX:Hid (ox=(nmB a&&decide (0≤t∧t≤1099511627776))):=hI0 (hox)
   clear hg hox hcx
   obtain ⟨W1,hW1⟩:=eN0 (wi4.alloc (.cells #[.string a,.int .i64 t] 90))
   have hb1:=bN0 hW1
   have HX1:Hid (W1.heap[wi4.heap.size]? =some (.cells #[.string a,.int .i64 t] 90 (0,0))):=hI0 (by rw [hW1];exact heap_alloc_new _ _)
   have HLX:Hid (wi4.heap.size<W1.heap.size):=hI0 (by rw [hW1];simp)
   have HBX:=bT0 HB4 hb1
   have HBBX:Hid (W1.heap[b]? =some BB):=hI0 ((hb1.block b hF).trans HBB.out)
   have HW1:=hI0 hW1
   clear hb1 hW1
   obtain ⟨b1,hb1⟩:=eN0 (nmB a)
   have K1:=fun (V:World) (hV:Bl w V)=>kname_any a V hsx
   rw [←hb1] at K1 HRX
   clear hb1
   clear hmem hF
   obtain ⟨q0,q1⟩:=cX2 HX1.out
   have KK5:=K1 W1 HBX.out
   go_wp2_with fail
   try rw [←HW1.out]
   clear g0 g1
   (with_reducible refine KK5.mono ?_)
   rintro _ z5 ⟨rfl,hz5⟩
   clear KK5
   rw [←hz5]
   clear hz5 z5
   cases b1
   case false=>
    have HF:Hid (ox=false):=hI0 (by rw [HRX.out]<;>simp)
    have HFO:Hid (rs=8):=hI0 (by
     have h:=HG2.out
     rw [if_pos HF.out] at h
     rw [HR.out,←h]<;>rfl)
    go_wp2_with fail
    go_ret
    exact ⟨by rw [HFO.out]<;>first|rfl|(simp;done),HBX.out⟩
   case true=>
    by_cases t6_0:t<0
    case pos=>
     have g6:decide (0≤t∧t≤1099511627776)=false:=decide_eq_false (by omega)
     have HF:Hid (ox=false):=hI0 (by rw [HRX.out,g6]<;>simp)
     have HFO:Hid (rs=8):=hI0 (by
      have h:=HG2.out
      rw [if_pos HF.out] at h
      rw [HR.out,←h]<;>rfl)
     go_wp2_with fail
     go_ret
     exact ⟨by rw [HFO.out]<;>first|rfl|(simp;done),HBX.out⟩
    case neg=>
     by_cases t6_1:1099511627776<t
     case pos=>
      have g6:decide (0≤t∧t≤1099511627776)=false:=decide_eq_false (by omega)
      have HF:Hid (ox=false):=hI0 (by rw [HRX.out,g6]<;>simp)
      have HFO:Hid (rs=8):=hI0 (by
       have h:=HG2.out
       rw [if_pos HF.out] at h
       rw [HR.out,←h]<;>rfl)
      go_wp2_with fail
      go_ret
      exact ⟨by rw [HFO.out]<;>first|rfl|(simp;done),HBX.out⟩
     case neg=>
      have g6:decide (0≤t∧t≤1099511627776)=true:=decide_eq_true (by omega)
      have G6:=hI0 g6
      clear g6
      have HOX:Hid (ox=true):=hI0 (by rw [HRX.out,G6.out]<;>first|rfl|(simp;done))
      have HG3:Hid ((if (match (prevN Pol.table pl k) with|some q=>bleS a q|none=>false)=true then 9 else namedF Pol.table Pol.ok (prevN Pol.table pl (k+1)) (pl.drop (k+1)))=namedF Pol.table Pol.ok none pl):=hI0 (by
       have h:=HG2.out
       rw [if_neg (by rw [HOX.out];simp)] at h
       exact h)
      go_upto_region 6 with (fail)
      clear q0 q1
      by_cases hk0:k=0
      case pos=>
       have HG4:Hid (namedF Pol.table Pol.ok (prevN Pol.table pl (k+1)) (pl.drop (k+1))=namedF Pol.table Pol.ok none pl):=hI0 (by rw [←HG3.out];exact (if_neg (by simp [prevN,hk0])).symm)
       subst hk0
       have h00:¬(0:Int)<((0:Nat):Int):=by omega
       refine rB0 W1 (fun zh=>?_)
       refine hT 0 30 ?_
       refine hT 1 31 ?_
       refine hT 2 32 ?_
       refine hK 3 33 ?_
       refine hK 4 34 ?_
       refine hK 5 35 ?_
       refine hK 6 36 ?_
       refine hK 7 37 ?_
       refine hK 8 38 ?_
       refine hK 9 39 ?_
       refine hK 10 40 ?_
       refine hK 11 41 ?_
       refine hT 12 42 ?_
       refine rD0 ?_
       clear zh h00
       go_wp2_with fail
       go_roundw
       case rel=>exact ⟨0+1,by go_num,by have:=HLK.out;omega,HG4,(hI0 HBX.out.drew)⟩
       case measure=>have:=HLK.out;simp [intOf];omega
      case neg=>
       obtain ⟨m,rfl⟩:∃m,k=m+1:=⟨k-1,by omega⟩
       have hml:m<pl.length:=by omega
       have hcy0:=HCL.out m hml
       have hpv0:prevN Pol.table pl (m+1)=some (Pol.table pl[m]):=prevN_succ hml
       obtain ⟨y,hy⟩:=eN0 (pl[m])
       rw [←hy] at hcy0 hpv0
       have hcy:∀j u,j<2→(Pol.enc y)[j]? =some u→wi4.cell? ⟨b,off+m*2+j,none⟩=some u:=hcy0
       have hpv:prevN Pol.table pl (m+1)=some (Pol.table y):=hpv0
       have hg3:=HG3.out
       rw [hpv] at hg3
       clear hy hpv hpv0 hcy0
       obtain ⟨yn,y2⟩:=y
       have HG5:Hid ((if bleS a yn=true then 9 else namedF Pol.table Pol.ok (prevN Pol.table pl ((m+1)+1)) (pl.drop ((m+1)+1)))=namedF Pol.table Pol.ok none pl):=hI0 hg3
       have p0:W1.cell? ⟨b,off+m*2,none⟩=some (.string yn):=(World.cell?_of_block (HBBX.out.trans HBB0.out.symm)).trans (hcy 0 _ (by decide) rfl)
       have HBL:Hid (b<W1.heap.size):=hI0 (gL0 HBBX.out)
       have hm63:m≤9223372036854775807:=by omega
       have hm64:(m:Int)≤9223372036854775807:=by omega
       have hm65: -9223372036854775808≤(m:Int):=by omega
       clear hcy hg3
       rcases hlt1:Go.Op.bytesLess a.toList yn.toList with _|_<;>rcases heq1:(a.toList==yn.toList) with _|_
       all_goals
        have HLE:Hid (bleS a yn=(Go.Op.bytesLess a.toList yn.toList||(a.toList==yn.toList))):=hI0 rfl
        rw [hlt1,heq1] at HLE
        refine rB0 W1 (fun zh=>?_)
        refine hT 0 30 ?_
        refine hU 1 31 (v:=?_) zh ?_ ?_
        rotate_left
        ·intro w' hSw;(try dsimp only at hSw);have hkp2:(0:Int)<(m:Int)+1:=(by omega);have hkn:0<m+1:=(by omega);go_simp<;>with_reducible rfl
        refine hT 2 32 ?_
        refine hT 3 33 ?_
        refine hU 4 34 (v:=?_) zh ?_ ?_
        rotate_left
        ·intro w' hSw;(try dsimp only at hSw);have q:=(World.cell?_of_block (hSw.block _ HLX.out)).trans (cW0 W1 wi4.heap.size 0 _ _ _ HX1.out);go_simp<;>with_reducible rfl
        refine hT 5 35 ?_
        refine hT 6 36 ?_
        refine hU 7 37 (v:=?_) zh ?_ ?_
        rotate_left
        ·intro w' hSw;(try dsimp only at hSw);have e1:((m+1:Nat):Int)-1=(m:Int):=(by omega);have e2:IntKind.i64.wrap (m:Int)=(m:Int):=(by rw [Go.IntWalk.i64_left,Go.IntWalk.wrap64_in _ ⟨hm65,hm64⟩]);go_simp<;>(try rw [e2])<;>with_reducible rfl
        refine hT 8 38 ?_
        refine hT 9 39 ?_
        refine hU 10 40 (v:=?_) zh ?_ ?_
        rotate_left
        ·intro w' hSw;(try dsimp only at hSw);have q:=(World.cell?_of_block (hSw.block _ HBL.out)).trans p0;go_simp<;>with_reducible rfl
        refine hT 11 41 ?_
        refine hT 12 42 ?_
        refine rD0 ?_
        clear zh p0
       case false.false=>
        have HG4:Hid (namedF Pol.table Pol.ok (prevN Pol.table pl ((m+1)+1)) (pl.drop ((m+1)+1))=namedF Pol.table Pol.ok none pl):=hI0 (by
         have h:=HG5.out
         have hb:bleS a yn=false:=HLE.out
         simp only [hb,Bool.false_eq_true,if_false] at h
         exact h)
        go_wp2_with fail
        go_roundw
        case rel=>exact ⟨m+1+1,by go_num,by have:=HLK.out;omega,HG4,(hI0 HBX.out.drew)⟩
        case measure=>have:=HLK.out;simp [intOf];omega
       all_goals
        have HF:Hid (rs=9):=hI0 (by
         have h:=HG5.out
         have hb:bleS a yn=true:=HLE.out
         simp only [hb,if_true] at h
         rw [HR.out,←h]<;>rfl)
        go_wp2_with fail
        go_ret
        exact ⟨by rw [HF.out]<;>first|rfl|(simp;done),HBX.out.drew⟩
  case neg=>
   have hlt2:¬(k:Int)<(pl.length:Int):=by omega
   have HRN4:Hid (rs=(namedF Hor.table Hor.ok none hl)):=hI0 (by
    have h:=HG.out
    rw [namedF_end (by omega)] at h
    rw [HR.out,←h]<;>rfl)
   go_wp2_with fail
   go_loopw [46] (fun i wr=>∃k:Nat,i=.int .i64 (k:Int)∧k≤hl.length∧Hid (namedF Hor.table Hor.ok (prevN Hor.table hl k) (hl.drop k)=namedF Hor.table Hor.ok none hl)∧Hid (Bl w wr)) (fun i _=>hl.length-(intOf i).toNat)
   case atStart=>exact ⟨0,rfl,Nat.zero_le _,hI0 rfl,HB4⟩
   case round=>
    obtain ⟨k,rfl,hk,HG,HB7⟩:=hrel
    obtain ⟨wi7,rfl⟩:=eN0 wr
    by_cases hlt:k<hl.length
    case pos=>
     have hlt2:(k:Int)<(hl.length:Int):=by omega
     obtain ⟨b,off,rfl,hF,hcl⟩:=RdE.at_ (K:=2) (enc:=Hor.enc) (fun _=>rfl) (by omega) (HVH.out.below HB7.out) hlt
     have HCL:Hid (∀i (hi:i<hl.length) j u,j<2→(Hor.enc hl[i])[j]? =some u→wi7.cell? ⟨b,off+i*2+j,none⟩=some u):=hI0 hcl
     obtain ⟨BB,hBB⟩:∃B0,wi7.heap[b]? =some B0:=⟨_,Array.getElem?_eq_getElem hF⟩
     have HBB:=hI0 hBB
     have HBB0:=hI0 hBB
     have HLK:=hI0 hlt
     have hg:=HG.out
     rw [namedF_at hlt] at hg
     have hmem:=List.getElem_mem hlt
     have hcx0:=HCL.out k hlt
     obtain ⟨x,hx⟩:=eN0 (hl[k]'hlt)
     rw [←hx] at hcx0
     rw [←hx] at hmem
     rw [←hx] at hg
     have hcx:∀j u,j<2→(Hor.enc x)[j]? =some u→wi7.cell? ⟨b,off+k*2+j,none⟩=some u:=hcx0
     clear hcl hx hBB hcx0
     obtain ⟨a,t⟩:=x
     obtain ⟨g0,g1⟩:=cK2 hcx (show _=[.string a,.int .i64 t] from rfl)
     have hsx:a.size≤maxLen:=HSH.out _ hmem
     obtain ⟨ox,hox⟩:=eN0 (Hor.ok ⟨a,t⟩)
     have HG2:Hid (((if ox=false then 8 else if (match (prevN Hor.table hl k) with|some q=>bleS a q|none=>false)=true then 9 else namedF Hor.table Hor.ok (prevN Hor.table hl (k+1)) (hl.drop (k+1)))=namedF Hor.table Hor.ok none hl)):=hI0 (by rw [hox];exact hg)
     have HRX:Hid (ox=(nmB a&&instB t)):=hI0 (hox)
     clear hg hox hcx
     obtain ⟨W1,hW1⟩:=eN0 (wi7.alloc (.cells #[.string a,.int .i64 t] 93))
     have hb1:=bN0 hW1
     have HX1:Hid (W1.heap[wi7.heap.size]? =some (.cells #[.string a,.int .i64 t] 93 (0,0))):=hI0 (by rw [hW1];exact heap_alloc_new _ _)
     have HLX:Hid (wi7.heap.size<W1.heap.size):=hI0 (by rw [hW1];simp)
     have HBX:=bT0 HB7 hb1
     have HBBX:Hid (W1.heap[b]? =some BB):=hI0 ((hb1.block b hF).trans HBB.out)
     have HW1:=hI0 hW1
     clear hb1 hW1
     obtain ⟨b1,hb1⟩:=eN0 (nmB a)
     have K1:=fun (V:World) (hV:Bl w V)=>kname_any a V hsx
     rw [←hb1] at K1 HRX
     clear hb1
     obtain ⟨b2,hb2⟩:=eN0 (instB t)
     have K2:=fun (V:World) (hV:Bl w V)=>kinst_any t V
     rw [←hb2] at K2 HRX
     clear hb2
     clear hmem hF
     obtain ⟨q0,q1⟩:=cX2 HX1.out
     have KK8:=K1 W1 HBX.out
     go_wp2_with fail
     try rw [←HW1.out]
     clear g0 g1
     (with_reducible refine KK8.mono ?_)
     rintro _ z8 ⟨rfl,hz8⟩
     clear KK8
     rw [←hz8]
     clear hz8 z8
     cases b1
     case false=>
      have HF:Hid (ox=false):=hI0 (by rw [HRX.out]<;>simp)
      have HFO:Hid (rs=8):=hI0 (by
       have h:=HG2.out
       rw [if_pos HF.out] at h
       rw [HRN4.out,←h]<;>rfl)
      go_wp2_with fail
      go_ret
      exact ⟨by rw [HFO.out]<;>first|rfl|(simp;done),HBX.out⟩
     case true=>
      have KK9:=K2 W1 HBX.out
      go_wp2_with fail
      (with_reducible refine KK9.mono ?_)
      rintro _ z9 ⟨rfl,hz9⟩
      clear KK9
      rw [hz9]
      clear hz9 z9
      cases b2
      case false=>
       have HF:Hid (ox=false):=hI0 (by rw [HRX.out]<;>simp)
       have HFO:Hid (rs=8):=hI0 (by
        have h:=HG2.out
        rw [if_pos HF.out] at h
        rw [HRN4.out,←h]<;>rfl)
       go_wp2_with fail
       go_ret
       exact ⟨by rw [HFO.out]<;>first|rfl|(simp;done),HBX.out⟩
      case true=>
       have HOX:Hid (ox=true):=hI0 (by rw [HRX.out]<;>first|rfl|(simp;done))
       have HG3:Hid ((if (match (prevN Hor.table hl k) with|some q=>bleS a q|none=>false)=true then 9 else namedF Hor.table Hor.ok (prevN Hor.table hl (k+1)) (hl.drop (k+1)))=namedF Hor.table Hor.ok none hl):=hI0 (by
        have h:=HG2.out
        rw [if_neg (by rw [HOX.out];simp)] at h
        exact h)
       go_upto_region 14 with (fail)
       clear q0 q1
       by_cases hk0:k=0
       case pos=>
        have HG4:Hid (namedF Hor.table Hor.ok (prevN Hor.table hl (k+1)) (hl.drop (k+1))=namedF Hor.table Hor.ok none hl):=hI0 (by rw [←HG3.out];exact (if_neg (by simp [prevN,hk0])).symm)
        subst hk0
        have h00:¬(0:Int)<((0:Nat):Int):=by omega
        refine rB0 W1 (fun zh=>?_)
        refine hT 0 61 ?_
        refine hT 1 62 ?_
        refine hT 2 63 ?_
        refine hK 3 64 ?_
        refine hK 4 65 ?_
        refine hK 5 66 ?_
        refine hK 6 67 ?_
        refine hK 7 68 ?_
        refine hK 8 69 ?_
        refine hK 9 70 ?_
        refine hK 10 71 ?_
        refine hK 11 72 ?_
        refine hT 12 73 ?_
        refine rD0 ?_
        clear zh h00
        go_wp2_with fail
        go_roundw
        case rel=>exact ⟨0+1,by go_num,by have:=HLK.out;omega,HG4,(hI0 HBX.out.drew)⟩
        case measure=>have:=HLK.out;simp [intOf];omega
       case neg=>
        obtain ⟨m,rfl⟩:∃m,k=m+1:=⟨k-1,by omega⟩
        have hml:m<hl.length:=by omega
        have hcy0:=HCL.out m hml
        have hpv0:prevN Hor.table hl (m+1)=some (Hor.table hl[m]):=prevN_succ hml
        obtain ⟨y,hy⟩:=eN0 (hl[m])
        rw [←hy] at hcy0 hpv0
        have hcy:∀j u,j<2→(Hor.enc y)[j]? =some u→wi7.cell? ⟨b,off+m*2+j,none⟩=some u:=hcy0
        have hpv:prevN Hor.table hl (m+1)=some (Hor.table y):=hpv0
        have hg3:=HG3.out
        rw [hpv] at hg3
        clear hy hpv hpv0 hcy0
        obtain ⟨yn,y2⟩:=y
        have HG5:Hid ((if bleS a yn=true then 9 else namedF Hor.table Hor.ok (prevN Hor.table hl ((m+1)+1)) (hl.drop ((m+1)+1)))=namedF Hor.table Hor.ok none hl):=hI0 hg3
        have p0:W1.cell? ⟨b,off+m*2,none⟩=some (.string yn):=(World.cell?_of_block (HBBX.out.trans HBB0.out.symm)).trans (hcy 0 _ (by decide) rfl)
        have HBL:Hid (b<W1.heap.size):=hI0 (gL0 HBBX.out)
        have hm63:m≤9223372036854775807:=by omega
        have hm64:(m:Int)≤9223372036854775807:=by omega
        have hm65: -9223372036854775808≤(m:Int):=by omega
        clear hcy hg3
        rcases hlt1:Go.Op.bytesLess a.toList yn.toList with _|_<;>rcases heq1:(a.toList==yn.toList) with _|_
        all_goals
         have HLE:Hid (bleS a yn=(Go.Op.bytesLess a.toList yn.toList||(a.toList==yn.toList))):=hI0 rfl
         rw [hlt1,heq1] at HLE
         refine rB0 W1 (fun zh=>?_)
         refine hT 0 61 ?_
         refine hU 1 62 (v:=?_) zh ?_ ?_
         rotate_left
         ·intro w' hSw;(try dsimp only at hSw);have hkp2:(0:Int)<(m:Int)+1:=(by omega);have hkn:0<m+1:=(by omega);go_simp<;>with_reducible rfl
         refine hT 2 63 ?_
         refine hT 3 64 ?_
         refine hU 4 65 (v:=?_) zh ?_ ?_
         rotate_left
         ·intro w' hSw;(try dsimp only at hSw);have q:=(World.cell?_of_block (hSw.block _ HLX.out)).trans (cW0 W1 wi7.heap.size 0 _ _ _ HX1.out);go_simp<;>with_reducible rfl
         refine hT 5 66 ?_
         refine hT 6 67 ?_
         refine hU 7 68 (v:=?_) zh ?_ ?_
         rotate_left
         ·intro w' hSw;(try dsimp only at hSw);have e1:((m+1:Nat):Int)-1=(m:Int):=(by omega);have e2:IntKind.i64.wrap (m:Int)=(m:Int):=(by rw [Go.IntWalk.i64_left,Go.IntWalk.wrap64_in _ ⟨hm65,hm64⟩]);go_simp<;>(try rw [e2])<;>with_reducible rfl
         refine hT 8 69 ?_
         refine hT 9 70 ?_
         refine hU 10 71 (v:=?_) zh ?_ ?_
         rotate_left
         ·intro w' hSw;(try dsimp only at hSw);have q:=(World.cell?_of_block (hSw.block _ HBL.out)).trans p0;go_simp<;>with_reducible rfl
         refine hT 11 72 ?_
         refine hT 12 73 ?_
         refine rD0 ?_
         clear zh p0
        case false.false=>
         have HG4:Hid (namedF Hor.table Hor.ok (prevN Hor.table hl ((m+1)+1)) (hl.drop ((m+1)+1))=namedF Hor.table Hor.ok none hl):=hI0 (by
          have h:=HG5.out
          have hb:bleS a yn=false:=HLE.out
          simp only [hb,Bool.false_eq_true,if_false] at h
          exact h)
         go_wp2_with fail
         go_roundw
         case rel=>exact ⟨m+1+1,by go_num,by have:=HLK.out;omega,HG4,(hI0 HBX.out.drew)⟩
         case measure=>have:=HLK.out;simp [intOf];omega
        all_goals
         have HF:Hid (rs=9):=hI0 (by
          have h:=HG5.out
          have hb:bleS a yn=true:=HLE.out
          simp only [hb,if_true] at h
          rw [HRN4.out,←h]<;>rfl)
         go_wp2_with fail
         go_ret
         exact ⟨by rw [HF.out]<;>first|rfl|(simp;done),HBX.out.drew⟩
    have hlt2:¬(k:Int)<(hl.length:Int):=by omega
    have HRN7:Hid (rs=(0)):=hI0 (by
     have h:=HG.out
     rw [namedF_end (by omega)] at h
     rw [HRN4.out,←h]<;>rfl)
    go_wp2_with fail
    go_ret
    exact ⟨by rw [HRN7.out]<;>first|rfl|(simp;done),HB7.out⟩
theorem knum_any (n:Int) (w:World):Calls prog 78 #[.int .i64 n] w fun e w'=>e=.returned (.bool (decide (0≤n∧n≤1125899906842624)))∧w'=w:=by
 go_in
 go_wp2
 all_goals
  go_ret
  refine ⟨ret_bool (by first|(symm;rw [decide_eq_false_iff_not];omega)|(symm;rw [decide_eq_true_eq];omega)|(rw [Bool.eq_iff_iff];simp;omega)),rfl⟩
end Go.Proofs.YtgfhknnklapldaaGreatDoor
