/-
 Rc3
-/
import Derived.Test.YtbfdegkickjbpaaGreatVRc1
namespace Go.Proofs.YtbfdegkickjbpaaGreat
open Tryz
set_option maxRecDepth 99999
set_option maxHeartbeats 0
open Go.RowKit Go.Lib Go.IntWalk Go.Sort Go.Shelf
theorem zq6 {P:Prop} (i:Nat) (h:Tg i→P:=by
 intro zT6
 obtain ⟨tm,tb,⟨nm,colA,colC,cols,keyA,keyC,key,forA,forC,fors,chkA,chkC,chks⟩,⟨x1,x2,x3,x4,x5,x6,⟨x7,x8,x9⟩⟩⟩:=x
 first
  |guard_hyp zT6:Tg 1;simp only at ht hf hs
  |have hs1:=hsm.table
   have hs2:=hsm.create
   have hs3:=hsm.change.name
   have hs4:=hsm.change.to
   have hs5:=hsm.change.cname
   simp only at ht hf hs hs1 hs2 hs3 hs4 hs5
   obtain ⟨f1,f2,f3,f4⟩:=hf
   simp only at f1 f2 f3 f4
 obtain ⟨rs,hrs⟩:=eN0 (REn.ok ⟨tm,tb,⟨nm,colA,colC,cols,keyA,keyC,key,forA,forC,fors,chkA,chkC,chks⟩,⟨x1,x2,x3,x4,x5,x6,⟨x7,x8,x9⟩⟩⟩)
 rw [←hrs]
 obtain ⟨T,hTe⟩:=eN0 (⟨nm,colA,colC,cols,keyA,keyC,key,forA,forC,fors,chkA,chkC,chks⟩:RTab)
 obtain ⟨C,hCe⟩:=eN0 (⟨x1,x2,x3,x4,x5,x6,⟨x7,x8,x9⟩⟩:Chn)
 have HR:Hid (rs=(instB tm&&(nmB tb&&(if x1=0 then C.zero&&(T.ok&&(nm.toList==tb.toList)) else C.ok&&T.blank)))):=hI0 (by rw [hrs,hTe,hCe];rfl)
 first
  |guard_hyp zT6:Tg 1;show Calls prog 32 #[.agg #[.int .i64 tm,.string tb,.string nm,.slice colA cols.length colC,.slice keyA key.length keyC,.slice forA fors.length forC,.slice chkA chks.length chkC,.int .i64 x1,.string x2,.string x3,.string x4,.int .i64 x5,.bool x6,.int .i64 x7,.int .i64 x8,.string x9]] w _
  |have HBL:Hid (T.blank=(nm.toList.isEmpty&&decide (cols.length+key.length+fors.length+chks.length=0))):=hI0 (by rw [hTe];rfl)
   show Calls prog 41 #[.agg #[.int .i64 tm,.string tb,.string nm,.slice colA cols.length colC,.slice keyA key.length keyC,.slice forA fors.length forC,.slice chkA chks.length chkC,.int .i64 x1,.string x2,.string x3,.string x4,.int .i64 x5,.bool x6,.int .i64 x7,.int .i64 x8,.string x9]] w _
 obtain ⟨W,hW⟩:=eN0 (w.alloc (.cells #[.int .i64 tm,.string tb,.string nm,.slice colA cols.length colC,.slice keyA key.length keyC,.slice forA fors.length forC,.slice chkA chks.length chkC,.int .i64 x1,.string x2,.string x3,.string x4,.int .i64 x5,.bool x6,.int .i64 x7,.int .i64 x8,.string x9] 83))
 have hbW:=bN0 hW
 have hT:=hN0 hW
 first
  |done
  |guard_hyp zT6:Tg 1;have hWs:w.heap.size<W.heap.size:=by rw [hW];simp
  |skip
 have HBW:=hI0 hbW
 have HT:=hI0 hT
 first
  |guard_hyp zT6:Tg 1;have HWS:=hI0 hWs
   have K1:=instant_any tm W
   have K2:=word_any tb W
   have K3:∀V,Bl w V→Calls prog 130 #[.agg #[.string nm,.slice colA cols.length colC,.slice keyA key.length keyC,.slice forA fors.length forC,.slice chkA chks.length chkC]] V fun e w'=>e=.returned (.bool T.ok)∧Bl V w':=fun V hV=>by rw [hTe];exact storedTable_any ⟨nm,colA,colC,cols,keyA,keyC,key,forA,forC,fors,chkA,chkC,chks⟩ V (ht.below hV)
   have K4:∀V,Calls prog 132 #[.agg #[.string nm,.slice colA cols.length colC,.slice keyA key.length keyC,.slice forA fors.length forC,.slice chkA chks.length chkC]] V fun e w'=>e=.returned (.bool T.blank)∧Bl V w':=fun V=>by rw [hTe];exact blank_any ⟨nm,colA,colC,cols,keyA,keyC,key,forA,forC,fors,chkA,chkC,chks⟩ V hf
   have K5:∀V,Calls prog 131 #[.agg #[.int .i64 x1,.string x2,.string x3,.string x4,.int .i64 x5,.bool x6,.int .i64 x7,.int .i64 x8,.string x9]] V fun e w'=>e=.returned (.bool C.ok)∧Bl V w':=fun V=>by rw [hCe];exact storedChange_any x1 x2 x3 x4 x5 x6 x7 x8 x9 V hs
  |have HWS:Hid (w.heap.size<W.heap.size):=hI0 (by rw [hW];simp)
   have K1:=kinst_any tm W
   have K2:=kname_any tb W hs1
   have K3:∀V,Bl w V→Calls prog 144 #[.agg #[.string nm,.slice colA cols.length colC,.slice keyA key.length keyC,.slice forA fors.length forC,.slice chkA chks.length chkC]] V fun e w'=>e=.returned (.bool T.ok)∧Bl V w':=fun V hV=>by rw [hTe];exact ktable_any ⟨nm,colA,colC,cols,keyA,keyC,key,forA,forC,fors,chkA,chkC,chks⟩ V (ht.below hV) hs2
   have K5:∀V,Calls prog 145 #[.agg #[.int .i64 x1,.string x2,.string x3,.string x4,.int .i64 x5,.bool x6,.int .i64 x7,.int .i64 x8,.string x9]] V fun e w'=>e=.returned (.bool C.ok)∧Bl V w':=fun V=>by rw [hCe];exact kchange_any x1 x2 x3 x4 x5 x6 x7 x8 x9 V hs hs3 hs4 hs5
 have HCZ:Hid (C.zero=(decide (x1=0)&&(x2.toList.isEmpty&&(x3.toList.isEmpty&&(x4.toList.isEmpty&&(decide (x5=0)&&(!x6&&(decide (x7=0)&&(decide (x8=0)&&x9.toList.isEmpty))))))))):=hI0 (by rw [hCe];rfl)
 obtain ⟨v1,hv1⟩:=eN0 (instB tm)
 obtain ⟨v2,hv2⟩:=eN0 (nmB tb)
 obtain ⟨v3,hv3⟩:=eN0 T.ok
 first
  |done
  |guard_hyp zT6:Tg 1;obtain ⟨v4,hv4⟩:=eN0 T.blank
  |skip
 obtain ⟨v5,hv5⟩:=eN0 C.ok
 rw [←hv1] at K1 HR
 rw [←hv2] at K2 HR
 rw [←hv3] at K3 HR
 first
  |done
  |guard_hyp zT6:Tg 1;rw [←hv4] at K4 HR
  |skip
 rw [←hv5] at K5 HR
 obtain ⟨c0,c1,c2,c3,c4,c5,c6,c7,c8,c9,c10,c11,c12,c13,c14,c15⟩:=cX16 hT
 first
  |guard_hyp zT6:Tg 1;clear hbW hT hWs hv1 hv2 hv3 hv4 hv5 hrs ht hf hs hTe hCe
  |clear hbW hT hv1 hv2 hv3 hv5 hrs ht hs hs1 hs2 hs3 hs4 hs5 hsm hTe hCe
 go_in
 go_wp2_with fail
 rw [←hW]
 clear hW
 (with_reducible refine K1.mono ?_)
 rintro _ z1 ⟨rfl,hz⟩
 rw [hz]
 clear hz z1 K1
 cases v1
 case false=>
  first
   |done
   |guard_hyp zT6:Tg 1
   |have HF:Hid (rs=false):=hI0 (by rw [HR.out];rfl)
  go_wp2_with fail
  go_ret
  first
   |guard_hyp zT6:Tg 1;exact ⟨by rw [HR.out];rfl,HBW.out⟩
   |exact ⟨by rw [HF.out];first|rfl|(simp;done)|(simp;omega),HBW.out⟩
 go_wp2_with fail
 (with_reducible refine K2.mono ?_)
 rintro _ y1 ⟨rfl,hz⟩
 first
  |guard_hyp zT6:Tg 1;have HB1:=bT0 HBW hz
   have HT1:=hI0 ((hz.block _ HWS.out).trans HT.out)
   have HL1:Hid (w.heap.size<y1.heap.size):=hI0 (by have:=HWS.out;have:=hz.size;omega)
   clear hz K2 c0 c1 c2 c3 c4 c5 c6 c7 c8 c9 c10 c11 c12 c13 c14 c15
  |rw [←hz]
   clear hz K2 y1
 cases v2
 case false=>
  first
   |done
   |guard_hyp zT6:Tg 1
   |have HF:Hid (rs=false):=hI0 (by rw [HR.out];rfl)
  go_wp2_with fail
  go_ret
  first
   |guard_hyp zT6:Tg 1;exact ⟨by rw [HR.out];rfl,HB1.out⟩
   |exact ⟨by rw [HF.out];first|rfl|(simp;done)|(simp;omega),HBW.out⟩
 first
  |done
  |guard_hyp zT6:Tg 1;obtain ⟨c0,c1,c2,c3,c4,c5,c6,c7,c8,c9,c10,c11,c12,c13,c14,c15⟩:=cX16 HT1.out
  |skip
 by_cases hk:x1=0
 case pos=>
  subst hk
  have HR2:Hid (rs=(C.zero&&(v3&&(nm.toList==tb.toList)))):=hI0 (by rw [HR.out];rfl)
  first
   |guard_hyp zT6:Tg 1;go_upto_region 4 with (fail)
   |have K3:=K3 W HBW.out
    go_wp2_with fail
    (with_reducible refine K3.mono ?_)
    rintro _ y2 ⟨rfl,hz⟩
    have HB2:=bT0 HBW hz
    have hT2:=(hz.block _ HWS.out).trans HT.out
    clear hz K3 c0 c1 c2 c3 c4 c5 c6 c7 c8 c9 c10 c11 c12 c13 c14 c15
    obtain ⟨c0,c1,c2,c3,c4,c5,c6,c7,c8,c9,c10,c11,c12,c13,c14,c15⟩:=cX16 hT2
    clear hT2
    cases v3
    case false=>
     have HF:Hid (rs=false):=hI0 (by rw [HR2.out];simp)
     go_wp2_with fail
     go_ret
     exact ⟨by rw [HF.out];first|rfl|(simp;done)|(simp;omega),HB2.out⟩
    cases eq1:(nm.toList==tb.toList)
    case false=>
     have HF:Hid (rs=false):=hI0 (by rw [HR2.out,eq1];simp)
     go_wp2_with fail
     go_ret
     exact ⟨by rw [HF.out];first|rfl|(simp;done)|(simp;omega),HB2.out⟩
  cases e0:x2.toList.isEmpty
  case false=>
   have HF:Hid (rs=false):=hI0 (by rw [HR2.out,HCZ.out];simp [e0])
   go_wp2_with fail
   go_ret
   first
    |guard_hyp zT6:Tg 1;exact ⟨by rw [HF.out];rfl,HB1.out⟩
    |exact ⟨by rw [HF.out];first|rfl|(simp;done)|(simp;omega),HB2.out⟩
  cases e1:x3.toList.isEmpty
  case false=>
   have HF:Hid (rs=false):=hI0 (by rw [HR2.out,HCZ.out];simp [e1])
   go_wp2_with fail
   go_ret
   first
    |guard_hyp zT6:Tg 1;exact ⟨by rw [HF.out];rfl,HB1.out⟩
    |exact ⟨by rw [HF.out];first|rfl|(simp;done)|(simp;omega),HB2.out⟩
  cases e2:x4.toList.isEmpty
  case false=>
   have HF:Hid (rs=false):=hI0 (by rw [HR2.out,HCZ.out];simp [e2])
   go_wp2_with fail
   go_ret
   first
    |guard_hyp zT6:Tg 1;exact ⟨by rw [HF.out];rfl,HB1.out⟩
    |exact ⟨by rw [HF.out];first|rfl|(simp;done)|(simp;omega),HB2.out⟩
  by_cases e3:x5=0
  case neg=>
   have HF:Hid (rs=false):=hI0 (by rw [HR2.out,HCZ.out];simp [e3])
   go_wp2_with fail
   go_ret
   first
    |guard_hyp zT6:Tg 1;exact ⟨by rw [HF.out];rfl,HB1.out⟩
    |exact ⟨by rw [HF.out];first|rfl|(simp;done)|(simp;omega),HB2.out⟩
  subst e3
  cases x6
  case true=>
   have HF:Hid (rs=false):=hI0 (by rw [HR2.out,HCZ.out];simp [Bool.not_true])
   go_wp2_with fail
   go_ret
   first
    |guard_hyp zT6:Tg 1;exact ⟨by rw [HF.out];rfl,HB1.out⟩
    |exact ⟨by rw [HF.out];first|rfl|(simp;done)|(simp;omega),HB2.out⟩
  by_cases e5:x7=0
  case neg=>
   have HF:Hid (rs=false):=hI0 (by rw [HR2.out,HCZ.out];simp [e5])
   go_wp2_with fail
   go_ret
   first
    |guard_hyp zT6:Tg 1;exact ⟨by rw [HF.out];rfl,HB1.out⟩
    |exact ⟨by rw [HF.out];first|rfl|(simp;done)|(simp;omega),HB2.out⟩
  subst e5
  by_cases e6:x8=0
  case neg=>
   have HF:Hid (rs=false):=hI0 (by rw [HR2.out,HCZ.out];simp [e6])
   go_wp2_with fail
   go_ret
   first
    |guard_hyp zT6:Tg 1;exact ⟨by rw [HF.out];rfl,HB1.out⟩
    |exact ⟨by rw [HF.out];first|rfl|(simp;done)|(simp;omega),HB2.out⟩
  subst e6
  cases e7:x9.toList.isEmpty
  case false=>
   have HF:Hid (rs=false):=hI0 (by rw [HR2.out,HCZ.out];simp [e7])
   go_wp2_with fail
   go_ret
   first
    |guard_hyp zT6:Tg 1;exact ⟨by rw [HF.out];rfl,HB1.out⟩
    |exact ⟨by rw [HF.out];first|rfl|(simp;done)|(simp;omega),HB2.out⟩
  first
   |guard_hyp zT6:Tg 1;have HR3:Hid (rs=(v3&&(nm.toList==tb.toList))):=hI0 (by rw [HR2.out,HCZ.out];simp [e0,e1,e2,e7])
    have K3:=K3 y1 HB1.out
   |have HF:Hid (rs=true):=hI0 (by rw [HR2.out,HCZ.out,eq1];simp [e0,e1,e2,e7])
  go_wp2_with fail
  first
   |guard_hyp zT6:Tg 1;(with_reducible refine K3.mono ?_)
    rintro _ y2 ⟨rfl,hz⟩
    have HB2:=bT0 HB1 hz
    have hT2:=(hz.block _ HL1.out).trans HT1.out
    clear hz K3 c0 c1 c2 c3 c4 c5 c6 c7 c8 c9 c10 c11 c12 c13 c14 c15
    have c1:=cW1 1 hT2 rfl
    have c2:=cW1 2 hT2 rfl
    clear hT2
    cases v3
    case false=>
     go_wp2_with fail
     go_ret
     exact ⟨by rw [HR3.out];rfl,HB2.out⟩
    cases eq1:(nm.toList==tb.toList)
    all_goals
     have HR4:Hid (rs=(nm.toList==tb.toList)):=hI0 (by rw [HR3.out];rfl)
     rw [eq1] at HR4
     go_wp2_with fail
     go_ret
     exact ⟨by rw [HR4.out];rfl,HB2.out⟩
   |go_ret
    exact ⟨by rw [HF.out];first|rfl|(simp;done)|(simp;omega),HB2.out⟩
 first
  |guard_hyp zT6:Tg 1;have HR2:Hid (rs=(v5&&v4)):=hI0 (by rw [HR.out,if_neg hk];rfl)
   have K5:=K5 y1
  |have HR2:Hid (rs=(v5&&(nm.toList.isEmpty&&decide (cols.length+key.length+fors.length+chks.length=0)))):=hI0 (by rw [HR.out,if_neg hk,HBL.out];rfl)
 go_upto_region 5 with (fail)
 clear hk
 first
  |done
  |guard_hyp zT6:Tg 1
  |obtain ⟨W2,hW2⟩:=eN0 (W.alloc (.cells #[.string nm,.slice colA cols.length colC,.slice keyA key.length keyC,.slice forA fors.length forC,.slice chkA chks.length chkC] 75))
   have hb2:=bN0 hW2
   have hN2:=hN0 hW2
   have hL2:W.heap.size<W2.heap.size:=by rw [hW2];simp
   have hT2:=(hb2.block _ HWS.out).trans HT.out
   have HB2:=bT0 HBW hb2
   have K5:=K5 W2
   go_upto_region 6 with (fail)
   rw [←hW2]
   clear hW2 hb2 c0 c1 c2 c3 c4 c5 c6 c7 c8 c9 c10 c11 c12 c13 c14 c15
   have c7:=cW1 7 hT2 rfl
   have c8:=cW1 8 hT2 rfl
   have c9:=cW1 9 hT2 rfl
   have c10:=cW1 10 hT2 rfl
   have c11:=cW1 11 hT2 rfl
   have c12:=cW1 12 hT2 rfl
   have c13:=cW1 13 hT2 rfl
   have c14:=cW1 14 hT2 rfl
   have c15:=cW1 15 hT2 rfl
   clear hT2
   have HN2:=hI0 hN2
   have HL2:=hI0 hL2
   clear hN2 hL2
 go_wp2_with fail
 (with_reducible refine K5.mono ?_)
 rintro _ y2 ⟨rfl,hz⟩
 first
  |guard_hyp zT6:Tg 1;have HB2:=bT0 HB1 hz
   have hT2:=(hz.block _ HL1.out).trans HT1.out
   clear hz K5 c0 c1 c2 c3 c4 c5 c6 c7 c8 c9 c10 c11 c12 c13 c14 c15
   have c2:=cW1 2 hT2 rfl
   have c3:=cW1 3 hT2 rfl
   have c4:=cW1 4 hT2 rfl
   have c5:=cW1 5 hT2 rfl
   have c6:=cW1 6 hT2 rfl
   clear hT2
  |have HB3:=bT0 HB2 hz
   have hN3:=(hz.block _ HL2.out).trans HN2.out
   clear hz K5 c7 c8 c9 c10 c11 c12 c13 c14 c15
   obtain ⟨t0,t1,t2,t3,t4⟩:=cX5 hN3
   clear hN3
 cases v5
 case false=>
  first
   |done
   |guard_hyp zT6:Tg 1
   |have HF:Hid (rs=false):=hI0 (by rw [HR2.out];rfl)
  go_wp2_with fail
  go_ret
  first
   |guard_hyp zT6:Tg 1;exact ⟨by rw [HR2.out];rfl,HB2.out⟩
   |exact ⟨by rw [HF.out];first|rfl|(simp;done)|(simp;omega),HB3.out⟩
 first
  |guard_hyp zT6:Tg 1;have K4:=K4 y2
   go_wp2_with fail
   (with_reducible refine K4.mono ?_)
   rintro _ y3 ⟨rfl,hz⟩
   have HB3:=bT0 HB2 hz
   clear hz K4 c2 c3 c4 c5 c6
  |cases hem:nm.toList.isEmpty
   case false=>
    have HF:Hid (rs=false):=hI0 (by rw [HR2.out,hem];simp)
    go_wp2_with fail
    go_ret
    exact ⟨by rw [HF.out];first|rfl|(simp;done)|(simp;omega),HB3.out⟩
   by_cases h0:cols.length+key.length+fors.length+chks.length=0
   case pos=>
    have HF:Hid (rs=true):=hI0 (by rw [HR2.out,hem,decide_eq_true h0];rfl)
    have z1:(cols.length:Int)=0:=by omega
    have z2:(key.length:Int)=0:=by omega
    have z3:(fors.length:Int)=0:=by omega
    have z4:(chks.length:Int)=0:=by omega
    clear h0 f1 f2 f3 f4
    go_wp2_with fail
    go_ret
    exact ⟨by rw [HF.out];first|rfl|(simp;done)|(simp;omega),HB3.out⟩
   have HF:Hid (rs=false):=hI0 (by rw [HR2.out,hem,decide_eq_false h0];rfl)
   have i1:(cols.length:Int)+(key.length:Int)≤9223372036854775807:=by omega
   have i2:(cols.length:Int)+(key.length:Int)+(fors.length:Int)≤9223372036854775807:=by omega
   have i3:(cols.length:Int)+(key.length:Int)+(fors.length:Int)+(chks.length:Int)≤9223372036854775807:=by omega
   have i4:¬(cols.length:Int)+(key.length:Int)+(fors.length:Int)+(chks.length:Int)=0:=by omega
   clear h0
 go_wp2_with fail
 go_ret
 first
  |guard_hyp zT6:Tg 1;exact ⟨by rw [HR2.out];rfl,HB3.out⟩
  |exact ⟨by rw [HF.out];first|rfl|(simp;done)|(simp;omega),HB3.out⟩) : P := h ⟨⟩
theorem zq56 {P:Prop} (i:Nat) (h:Tg i→P:=by
 intro zT56
 first
  |guard_hyp zT56:Tg 1;have HG4:Hid ((if de≠0 then de else deltasF fi (prevN RDl.name dels (m+1+1)) (dels.drop (m+1+1)))=deltasF fi none dels):=hI0 (by
    have h:=HG5.out
    have hb:bleS dn yn=false:=HLE.out
    simp only [hb,Bool.false_eq_true,if_false] at h
    exact h)
  |have HG4:Hid ((if de≠0 then de else deltasF fi (prevN RDl.name dels (k+1)) (dels.drop (k+1)))=deltasF fi none dels):=hI0 zi26
   subst hk0
   have h00:¬(0:Int)<((0:Nat):Int):=by omega
   refine rB0 y1 (fun zh=>?_)
   refine hT 0 74 ?_
   refine hT 1 75 ?_
   refine hT 2 76 ?_
   refine hK 3 77 ?_
   refine hK 4 78 ?_
   refine hK 5 79 ?_
   refine hK 6 80 ?_
   refine hK 7 81 ?_
   refine hK 8 82 ?_
   refine hK 9 83 ?_
   refine hK 10 84 ?_
   refine hK 11 85 ?_
   refine hK 12 86 ?_
   refine hT 13 87 ?_
   refine rD0 ?_
   clear zh h00
 have KD:=KDX.out y1.drew HBY.out.drew
 have hTd:=HTD.out
 obtain ⟨p0,p1,p2⟩:=cX3 hTd
 have c3:=cW1 3 HTB2.out rfl
 clear hTd
 go_wp2_with fail
 (with_reducible refine KD.mono ?_)
 rintro _ z1 ⟨rfl,hz⟩
 have hz2:Bl y1 z1:=Below.undrew hz
 have HBZ:=bT0 HBY hz2
 have HTZ:=hI0 ((hz2.block w.heap.size HBXL.out).trans HTB2.out)
 clear hz hz2 KD p0 p1 p2 c3
 by_cases hde:de=0
 case neg=>
  have HF:Hid (rs=de):=hI0 (by
   have h:=HG4.out
   rw [if_pos hde] at h
   rw [HR2.out,←h]
   exact if_pos hde)
  go_wp2_with fail
  go_ret
  exact ⟨by rw [HF.out];rfl,HBZ.out⟩
 first
  |guard_hyp zT56:Tg 1;have HN:Hid (deltasF fi (prevN RDl.name dels (m+1+1)) (dels.drop (m+1+1))=deltasF fi none dels):=hI0 (by rw [←HG4.out];exact (if_neg (by simpa using hde)).symm)
  |have HN:Hid (deltasF fi (prevN RDl.name dels (0+1)) (dels.drop (0+1))=deltasF fi none dels):=hI0 (by rw [←HG4.out];exact (if_neg (by simpa using hde)).symm)
 subst hde
 go_wp2_with fail
 go_roundw
 first
  |guard_hyp zT56:Tg 1
   case rel=>exact ⟨m+1+1,by go_num,by have:=HLK.out;omega,HN,HBZ,HTZ⟩
  |case rel=>exact ⟨0+1,by go_num,by have:=HLK.out;omega,HN,HBZ,HTZ⟩
 case measure=>have:=HLK.out;simp [intOf];omega) : P := h ⟨⟩
theorem zq95 {P:Prop} (h:P:=by
 intro w' hSw;(try dsimp only at hSw);have q:=(World.cell?_of_block (hSw.block _ HTL.out)).trans (cW0 y1 wi.heap.size 0 _ _ _ HTD.out);go_simp<;>with_reducible rfl) : P := h
theorem zq97 {P:Prop} (h:P:=by
 have HF:Hid (rs=false):=hI0 (by rw [HR1.out,HNO.out (by first|rfl|trivial)];first|rfl|simp)
 go_wp2_with fail
 go_ret
 exact ⟨by rw [HF.out];rfl,HB2.out⟩) : P := h
theorem zq107 {P:Prop} (h:P:=by
 intro w' hSw;(try dsimp only at hSw);have q:=(World.cell?_of_block (hSw.block _ HBL.out)).trans p0;go_simp<;>with_reducible rfl) : P := h
theorem zq111 {P:Prop} (h:P:=by
 have HF:Hid (rs=6):=hI0 zi20
 go_wp2_with fail
 go_ret
 exact ⟨by rw [HF.out];rfl,HBW.out⟩) : P := h
theorem zi20 {P:Prop} (h:P:=by rw [HR.out];exact if_pos (by simp)):P:=h
theorem zi26 {P:Prop} (h:P:=by rw [←HG3.out];exact (if_neg (by simp [prevN,hk0])).symm):P:=h
structure RCol where
 name:ByteArray
 kind:Int
 null:Bool
def RCol.enc (x:RCol):List Value:=[.string x.name,.int .i64 x.kind,.bool x.null]
def RCol.ok (x:RCol):Bool:=nmB x.name&&decide (1≤x.kind∧x.kind≤3)
structure RFor where
 cA:Option Addr
 cc:Nat
 cols:List Int
 table:ByteArray
def RFor.enc (x:RFor):List Value:=[.slice x.cA x.cols.length x.cc,.string x.table]
def RFor.ok (x:RFor):Bool:=ixF x.cols&&nmB x.table
def RFor.is (w:World) (F:Nat→Prop) (x:RFor):Prop:=RdE 1 intE w F (.slice x.cA x.cols.length x.cc) x.cols
structure RTab where
 name:ByteArray
 colA:Option Addr
 colC:Nat
 cols:List RCol
 keyA:Option Addr
 keyC:Nat
 key:List Int
 forA:Option Addr
 forC:Nat
 fors:List RFor
 chkA:Option Addr
 chkC:Nat
 chks:List RE
def RTab.enc (t:RTab):List Value:=[.string t.name,.slice t.colA t.cols.length t.colC,.slice t.keyA t.key.length t.keyC,.slice t.forA t.fors.length t.forC,.slice t.chkA t.chks.length t.chkC]
structure RTab.is (w:World) (F:Nat→Prop) (t:RTab):Prop where
 cols:RdE 3 RCol.enc w F (.slice t.colA t.cols.length t.colC) t.cols
 key:RdE 1 intE w F (.slice t.keyA t.key.length t.keyC) t.key
 fors:RdE 2 RFor.enc w F (.slice t.forA t.fors.length t.forC) t.fors
 forI:∀x∈t.fors,x.is w F
 chks:RdE 7 RE.enc w F (.slice t.chkA t.chks.length t.chkC) t.chks
 chkI:∀x∈t.chks,exIs 24 w F x
theorem RTab.is.below {w w':World} {t:RTab} (h:t.is w (ltw w)) (hb:Bl w w'):t.is w' (ltw w'):=
 ⟨h.cols.below hb,h.key.below hb,h.fors.below hb,fun x hx=>RdE.below (h.forI x hx) hb,h.chks.below hb,fun x hx=>exIs_below hb 24 x (h.chkI x hx)⟩
def RTab.ok (t:RTab):Bool:=nmB t.name&&(decide (1≤(t.cols.length:Int)∧(t.cols.length:Int)≤12)&&(ixF t.key&&(decide (t.fors.length≤4)&&(decide (t.chks.length≤4)&&(t.cols.all RCol.ok&&(t.fors.all RFor.ok&&t.chks.all (okX 24)))))))
theorem RdE.bd {α:Type} {K:Nat} {enc:α→List Value} {w:World} {F:Nat→Prop} {A:Option Addr} {c:Nat} {l:List α} (h:RdE K enc w F (.slice A l.length c) l):l.length≤c∧c≤9223372036854775807:=by
 obtain ⟨A0,c0,hAc,n1,n2,n3⟩:=Rd.open_ (show Rd w F K (.slice A l.length c) l.length (l.flatMap enc) from h)
 simp only [Value.slice.injEq] at hAc
 obtain ⟨rfl,-,rfl⟩:=hAc
 unfold maxLen at n2
 exact ⟨n1,by omega⟩
theorem storedTable_any (t:RTab) (w:World) (ht:t.is w (ltw w)):Calls prog 130 #[.agg t.enc.toArray] w fun e w'=>e=.returned (.bool t.ok)∧Bl w w':=by
 have HI0:=hI0 ht
 obtain ⟨nm,colA,colC,cols,keyA,keyC,key,forA,forC,fors,chkA,chkC,chks⟩:=t
 have HI:Hid (RTab.is w (ltw w) ⟨nm,colA,colC,cols,keyA,keyC,key,forA,forC,fors,chkA,chkC,chks⟩):=HI0
 obtain ⟨a1,a2⟩:=ht.cols.bd
 obtain ⟨b1,b2⟩:=ht.fors.bd
 obtain ⟨c1,c2⟩:=ht.chks.bd
 simp only at a1 a2 b1 b2 c1 c2
 obtain ⟨rs,hrs⟩:=eN0 (RTab.ok ⟨nm,colA,colC,cols,keyA,keyC,key,forA,forC,fors,chkA,chkC,chks⟩)
 rw [←hrs]
 have HR:Hid (rs=(nmB nm&&(decide (1≤(cols.length:Int)∧(cols.length:Int)≤12)&&(ixF key&&(decide (fors.length≤4)&&(decide (chks.length≤4)&&(cols.all RCol.ok&&(fors.all RFor.ok&&chks.all (okX 24))))))))):=hI0 hrs
 show Calls prog 130 #[.agg #[.string nm,.slice colA cols.length colC,.slice keyA key.length keyC,.slice forA fors.length forC,.slice chkA chks.length chkC]] w _
 obtain ⟨W,hW⟩:=eN0 (w.alloc (.cells #[.string nm,.slice colA cols.length colC,.slice keyA key.length keyC,.slice forA fors.length forC,.slice chkA chks.length chkC] 75))
 have hbW:=bN0 hW
 have hT:=hN0 hW
 have hWs:w.heap.size<W.heap.size:=by rw [hW];simp
 have HBW:=hI0 hbW
 have HT:=hI0 hT
 have HWS:=hI0 hWs
 have K1:=word_any nm W
 obtain ⟨v1,hv1⟩:=eN0 (nmB nm)
 obtain ⟨v2,hv2⟩:=eN0 (decide (1≤(cols.length:Int)∧(cols.length:Int)≤12))
 obtain ⟨v3,hv3⟩:=eN0 (ixF key)
 have K2:=fun V=>within_any (cols.length:Int) 1 12 V
 have K3:=fun V (h:Bl w V)=>indexes_any _ key V (HI.out.key.below h)
 rw [←hv1] at K1 HR
 rw [←hv2] at K2 HR
 rw [←hv3] at K3 HR
 obtain ⟨c0,c1,c2,c3,c4⟩:=cX5 hT
 clear hbW hT hWs hv1 hv2 hv3 hrs ht HI0
 go_in
 go_wp2_with fail
 rw [←hW]
 clear hW
 (with_reducible refine K1.mono ?_)
 rintro _ y1 ⟨rfl,hz⟩
 have HB2:=bT0 HBW hz
 have HT2:=hI0 ((hz.block _ HWS.out).trans HT.out)
 clear hz K1 c0 c1 c2 c3 c4
 obtain ⟨c0,c1,c2,c3,c4⟩:=cX5 HT2.out
 cases v1
 case false=>
  go_wp2_with fail
  go_ret
  exact ⟨by rw [HR.out];rfl,HB2.out⟩
 have K2:=K2 y1
 go_wp2_with fail
 (with_reducible refine K2.mono ?_)
 rintro _ z1 ⟨rfl,hz⟩
 rw [hz]
 clear hz z1 K2
 cases v2
 case false=>
  go_wp2_with fail
  go_ret
  exact ⟨by rw [HR.out];rfl,HB2.out⟩
 have K3:=K3 y1 HB2.out
 go_wp2_with fail
 (with_reducible refine K3.mono ?_)
 rintro _ z1 ⟨rfl,hz⟩
 rw [hz]
 clear hz z1 K3
 cases v3
 case false=>
  go_wp2_with fail
  go_ret
  exact ⟨by rw [HR.out];rfl,HB2.out⟩
 by_cases h4:fors.length≤4
 case neg=>
  have h4i:(4:Int)<(fors.length:Int):=by omega
  have HF:Hid (rs=false):=hI0 (by rw [HR.out];simp [h4])
  go_wp2_with fail
  go_ret
  exact ⟨by rw [HF.out];rfl,HB2.out⟩
 have h4i:¬(4:Int)<(fors.length:Int):=by omega
 by_cases h5:chks.length≤4
 case neg=>
  have h5i:(4:Int)<(chks.length:Int):=by omega
  have HF:Hid (rs=false):=hI0 (by rw [HR.out];simp [h5])
  go_wp2_with fail
  go_ret
  exact ⟨by rw [HF.out];rfl,HB2.out⟩
 have h5i:¬(4:Int)<(chks.length:Int):=by omega
 have HR1:Hid (rs=(cols.all RCol.ok&&(fors.all RFor.ok&&chks.all (okX 24)))):=hI0 (by rw [HR.out];simp [h4,h5])
 have HB3:Hid (Bl w y1∧True):=hI0 ⟨HB2.out,trivial⟩
 clear h4 h5
 go_wp2_with fail
 clear h4i h5i c0 c1 c2 c3 c4
 go_loopw [41] (fun i wr=>∃j:Nat,i=.int .i64 (j:Int)∧j≤cols.length∧Hid ((cols.take j).all RCol.ok=true)∧Hid (Bl w wr)∧Hid (wr.heap[w.heap.size]? =some (.cells #[.string nm,.slice colA cols.length colC,.slice keyA key.length keyC,.slice forA fors.length forC,.slice chkA chks.length chkC] 75 (0,0)))) (fun i _=>cols.length-(intOf i).toNat)
 case atStart=>exact ⟨0,rfl,Nat.zero_le _,hI0 rfl,HB2,HT2⟩
 obtain ⟨j,rfl,hj,HG,HB,HTB⟩:=hrel
 obtain ⟨wi,rfl⟩:=eN0 wr
 by_cases hltj:j<cols.length
 case pos=>
  have hlt3:(j:Int)<(cols.length:Int):=by omega
  obtain ⟨b,off,rfl,hF,hcl⟩:=RdE.at_ (K:=3) (enc:=RCol.enc) (fun _=>rfl) (by omega) (HI.out.cols.below HB.out) hltj
  have hcx:=hcl j hltj
  have hs:=fun h=>allP_snoc' (p:=RCol.ok) hltj HG.out h
  have hno:=allP_no (p:=RCol.ok) hltj
  have hmem:=List.getElem_mem hltj
  obtain ⟨x,hx⟩:=eN0 (cols[j])
  rw [←hx] at hcx hno hmem
  have hs2:RCol.ok x=true→(cols.take (j+1)).all RCol.ok=true:=fun h=>hs (by rw [←hx];exact h)
  clear hs hx hcl hF
  obtain ⟨n1,k1,b1⟩:=x
  obtain ⟨g0,g1,g2⟩:=cK3 hcx (show _=[.string n1,.int .i64 k1,.bool b1] from rfl)
  obtain ⟨W1,hW1⟩:=eN0 (wi.alloc (.cells #[.string n1,.int .i64 k1,.bool b1] 77))
  have hb1:=bN0 hW1
  have hX1:=hN0 hW1
  have HX1:=hI0 hX1
  have HL1:Hid (wi.heap.size<W1.heap.size):=hI0 (by rw [hW1];simp)
  have HB1:=bT0 HB hb1
  have HTB1:=hI0 ((hb1.block w.heap.size (gL0 HTB.out)).trans HTB.out)
  clear hcx hb1 hX1
  have K1:=word_any n1 W1
  have K2:=fun V=>within_any k1 1 3 V
  obtain ⟨v1,hv1⟩:=eN0 (nmB n1)
  obtain ⟨v2,hv2⟩:=eN0 (decide (1≤k1∧k1≤3))
  have hok:RCol.ok ⟨n1,k1,b1⟩=(v1&&v2):=by rw [hv1,hv2];rfl
  rw [hok] at hno hs2
  rw [←hv1] at K1
  rw [←hv2] at K2
  have HS:=hI0 hs2
  have HNO:=hI0 hno
  clear hs2 hno hok hv1 hv2 hmem
  go_wp2_with fail
  rw [←hW1]
  clear hW1 g0 g1 g2
  (with_reducible refine K1.mono ?_)
  rintro _ z1 ⟨rfl,hz⟩
  have HTB2:=hI0 ((hz.block w.heap.size (gL0 HTB1.out)).trans HTB1.out)
  have HB2:=bT0 HB1 hz
  have hX2:=(hz.block _ HL1.out).trans HX1.out
  have q1:=cW1 1 hX2 rfl
  clear hz hX2 K1
  cases v1
  case false=>
   exact zq97
  have K2:=K2 z1
  go_wp2_with fail
  (with_reducible refine K2.mono ?_)
  rintro _ z2 ⟨rfl,hz⟩
  rw [hz]
  clear hz z2 K2 q1
  cases v2
  case false=>
   exact zq97
  have HN:Hid ((cols.take (j+1)).all RCol.ok=true):=hI0 (HS.out (by first|rfl|trivial))
  go_wp2_with fail
  go_roundw
  case rel=>exact ⟨j+1,by go_num,hltj,HN,HB2,HTB2⟩
  case measure=>simp [intOf];omega
 have hlt3:¬(j:Int)<(cols.length:Int):=by omega
 have HR2:Hid (rs=(fors.all RFor.ok&&chks.all (okX 24))):=hI0 (by
  have h:=HG.out
  rw [List.take_of_length_le (by omega)] at h
  rw [HR1.out,h];rfl)
 have HBx:=HB
 have c3:=cW1 3 HTB.out rfl
 have HTx:=HTB
 go_wp2_with fail
 clear c3
 go_loopw [59] (fun i wr=>∃j:Nat,i=.int .i64 (j:Int)∧j≤fors.length∧Hid ((fors.take j).all RFor.ok=true)∧Hid (Bl w wr)∧Hid (wr.heap[w.heap.size]? =some (.cells #[.string nm,.slice colA cols.length colC,.slice keyA key.length keyC,.slice forA fors.length forC,.slice chkA chks.length chkC] 75 (0,0)))) (fun i _=>fors.length-(intOf i).toNat)
 case atStart=>exact ⟨0,rfl,Nat.zero_le _,hI0 rfl,HBx,HTx⟩
 obtain ⟨j,rfl,hj,HG,HB,HTB⟩:=hrel
 obtain ⟨wi,rfl⟩:=eN0 wr
 by_cases hltj:j<fors.length
 case pos=>
  have hlt3:(j:Int)<(fors.length:Int):=by omega
  obtain ⟨b,off,rfl,hF,hcl⟩:=RdE.at_ (K:=2) (enc:=RFor.enc) (fun _=>rfl) (by omega) (HI.out.fors.below HB.out) hltj
  have hcx:=hcl j hltj
  have hs:=fun h=>allP_snoc' (p:=RFor.ok) hltj HG.out h
  have hno:=allP_no (p:=RFor.ok) hltj
  have hmem:=List.getElem_mem hltj
  obtain ⟨x,hx⟩:=eN0 (fors[j])
  rw [←hx] at hcx hno hmem
  have hs2:RFor.ok x=true→(fors.take (j+1)).all RFor.ok=true:=fun h=>hs (by rw [←hx];exact h)
  clear hs hx hcl hF
  obtain ⟨fA,fc,fl,ft⟩:=x
  obtain ⟨g0,g1⟩:=cK2 hcx (show _=[.slice fA fl.length fc,.string ft] from rfl)
  obtain ⟨W1,hW1⟩:=eN0 (wi.alloc (.cells #[.slice fA fl.length fc,.string ft] 278))
  have hb1:=bN0 hW1
  have hX1:=hN0 hW1
  have HX1:=hI0 hX1
  have HL1:Hid (wi.heap.size<W1.heap.size):=hI0 (by rw [hW1];simp)
  have HB1:=bT0 HB hb1
  have HTB1:=hI0 ((hb1.block w.heap.size (gL0 HTB.out)).trans HTB.out)
  clear hcx hb1 hX1
  have hxI:RdE 1 intE wi (ltw wi) (.slice fA fl.length fc) fl:=(HI.out.below HB.out).forI _ hmem
  have hxI1:RdE 1 intE W1 (ltw W1) (.slice fA fl.length fc) fl:=hxI.below (by rw [hW1];exact Below.of_alloc _)
  have K1:=indexes_any _ fl W1 hxI1
  have K2:=word_any ft W1
  obtain ⟨v1,hv1⟩:=eN0 (ixF fl)
  obtain ⟨v2,hv2⟩:=eN0 (nmB ft)
  have hok:RFor.ok ⟨fA,fc,fl,ft⟩=(v1&&v2):=by rw [hv1,hv2];rfl
  rw [hok] at hno hs2
  rw [←hv1] at K1
  rw [←hv2] at K2
  have HS:=hI0 hs2
  have HNO:=hI0 hno
  have q1:=cW1 1 HX1.out rfl
  clear hs2 hno hok hv1 hv2 hmem hxI hxI1
  go_wp2_with fail
  rw [←hW1]
  clear hW1 g0 g1
  (with_reducible refine K1.mono ?_)
  rintro _ z1 ⟨rfl,hz⟩
  rw [hz]
  clear hz z1 K1
  cases v1
  case false=>
   have HF:Hid (rs=false):=hI0 (by rw [HR2.out,HNO.out (by first|rfl|trivial)];first|rfl|simp)
   go_wp2_with fail
   go_ret
   exact ⟨by rw [HF.out];rfl,HB1.out⟩
  go_wp2_with fail
  (with_reducible refine K2.mono ?_)
  rintro _ z2 ⟨rfl,hz⟩
  have HTB2:=hI0 ((hz.block w.heap.size (gL0 HTB1.out)).trans HTB1.out)
  have HB2:=bT0 HB1 hz
  clear hz K2 q1
  cases v2
  case false=>
   have HF:Hid (rs=false):=hI0 (by rw [HR2.out,HNO.out (by first|rfl|trivial)];first|rfl|simp)
   go_wp2_with fail
   go_ret
   exact ⟨by rw [HF.out];rfl,HB2.out⟩
  have HN:Hid ((fors.take (j+1)).all RFor.ok=true):=hI0 (HS.out (by first|rfl|trivial))
  go_wp2_with fail
  go_roundw
  case rel=>exact ⟨j+1,by go_num,hltj,HN,HB2,HTB2⟩
  case measure=>simp [intOf];omega
 have hlt3:¬(j:Int)<(fors.length:Int):=by omega
 have HR3:Hid (rs=chks.all (okX 24)):=hI0 (by
  have h:=HG.out
  rw [List.take_of_length_le (by omega)] at h
  rw [HR2.out,h];rfl)
 have HBy:=HB
 have c4:=cW1 4 HTB.out rfl
 have HTy:=HTB
 go_wp2_with fail
 clear c4
 go_loopw [77] (fun i wr=>∃j:Nat,i=.int .i64 (j:Int)∧j≤chks.length∧Hid ((chks.take j).all (okX 24)=true)∧Hid (Bl w wr)∧Hid (wr.heap[w.heap.size]? =some (.cells #[.string nm,.slice colA cols.length colC,.slice keyA key.length keyC,.slice forA fors.length forC,.slice chkA chks.length chkC] 75 (0,0)))) (fun i _=>chks.length-(intOf i).toNat)
 case atStart=>exact ⟨0,rfl,Nat.zero_le _,hI0 rfl,HBy,HTy⟩
 obtain ⟨j,rfl,hj,HG,HB,HTB⟩:=hrel
 obtain ⟨wi,rfl⟩:=eN0 wr
 by_cases hltj:j<chks.length
 case pos=>
  have hlt3:(j:Int)<(chks.length:Int):=by omega
  obtain ⟨b,off,rfl,hF,hcl⟩:=RdE.at_ (K:=7) (enc:=RE.enc) RE.enc_length (by omega) (HI.out.chks.below HB.out) hltj
  have hcx:=hcl j hltj
  have hs:=fun h=>allP_snoc' (p:=(okX 24)) hltj HG.out h
  have hno:=allP_no (p:=(okX 24)) hltj
  have hmem:=List.getElem_mem hltj
  obtain ⟨x,hx⟩:=eN0 (chks[j])
  rw [←hx] at hcx hno hmem
  have hs2:(okX 24) x=true→(chks.take (j+1)).all (okX 24)=true:=fun h=>hs (by rw [←hx];exact h)
  clear hs hx hcl hF
  obtain ⟨op2,it2,⟨vk2,vi2,vs2⟩,nm2,A2,c2,args2⟩:=x
  obtain ⟨g0,g1,g2,g3,g4,g5,g6⟩:=cK7 hcx (show _=[.int .i64 op2,.int .i64 it2,.int .i64 vk2,.int .i64 vi2,.string vs2,.string nm2,.slice A2 args2.length c2] from rfl)
  obtain ⟨W1,hW1⟩:=eN0 (wi.alloc (.cells #[.int .i64 op2,.int .i64 it2,.int .i64 vk2,.int .i64 vi2,.string vs2,.string nm2,.slice A2 args2.length c2] 212))
  have hb1:=bN0 hW1
  have hX1:=hN0 hW1
  have HX1:=hI0 hX1
  have HL1:Hid (wi.heap.size<W1.heap.size):=hI0 (by rw [hW1];simp)
  have HB1:=bT0 HB hb1
  have HTB1:=hI0 ((hb1.block w.heap.size (gL0 HTB.out)).trans HTB.out)
  clear hcx hb1 hX1
  have hxI:=HI.out.chkI _ hmem
  have KX:Calls prog 195 #[.agg #[.int .i64 op2,.int .i64 it2,.int .i64 vk2,.int .i64 vi2,.string vs2,.string nm2,.slice A2 args2.length c2],.int .i64 1] W1 fun x w'=>x=.returned (.bool (okX 24 (.mk op2 it2 ⟨vk2,vi2,vs2⟩ nm2 A2 c2 args2)))∧Bl W1 w':=storedExpr_any 24 (.mk op2 it2 ⟨vk2,vi2,vs2⟩ nm2 A2 c2 args2) 1 W1 (by omega) (by omega) (exIs_below HB1.out 24 _ hxI)
  obtain ⟨v1,hv1⟩:=eN0 (okX 24 (.mk op2 it2 ⟨vk2,vi2,vs2⟩ nm2 A2 c2 args2))
  rw [←hv1] at KX hno hs2
  have HS:=hI0 hs2
  have HNO:=hI0 hno
  clear hs2 hno hv1 hmem hxI
  go_wp2_with fail
  rw [←hW1]
  clear hW1 g0 g1 g2 g3 g4 g5 g6
  (with_reducible refine KX.mono ?_)
  rintro _ z1 ⟨rfl,hz⟩
  have HTB2:=hI0 ((hz.block w.heap.size (gL0 HTB1.out)).trans HTB1.out)
  have HB2:=bT0 HB1 hz
  clear hz KX
  cases v1
  case false=>
   have HF:Hid (rs=false):=hI0 (by rw [HR3.out,HNO.out (by first|rfl|trivial)])
   go_wp2_with fail
   go_ret
   exact ⟨by rw [HF.out];rfl,HB2.out⟩
  have HN:Hid ((chks.take (j+1)).all (okX 24)=true):=hI0 (HS.out (by first|rfl|trivial))
  go_wp2_with fail
  go_roundw
  case rel=>exact ⟨j+1,by go_num,hltj,HN,HB2,HTB2⟩
  case measure=>simp [intOf];omega
 have hlt3:¬(j:Int)<(chks.length:Int):=by omega
 have HE:Hid (rs=true):=hI0 (by
  have h:=HG.out
  rw [List.take_of_length_le (by omega)] at h
  rw [HR3.out,h])
 go_wp2_with fail
 go_ret
 exact ⟨by rw [HE.out];rfl,HB.out⟩
def RTab.few (t:RTab):Prop:=t.cols.length≤10000000000∧t.key.length≤10000000000∧t.fors.length≤10000000000∧t.chks.length≤10000000000
def RTab.blank (t:RTab):Bool:=t.name.toList.isEmpty&&decide (t.cols.length+t.key.length+t.fors.length+t.chks.length=0)
theorem blank_any (t:RTab) (w:World) (ht:t.few):Calls prog 132 #[.agg t.enc.toArray] w fun e w'=>e=.returned (.bool t.blank)∧Bl w w':=by
 obtain ⟨nm,colA,colC,cols,keyA,keyC,key,forA,forC,fors,chkA,chkC,chks⟩:=t
 obtain ⟨h1,h2,h3,h4⟩:=ht
 simp only at h1 h2 h3 h4
 show Calls prog 132 #[.agg #[.string nm,.slice colA cols.length colC,.slice keyA key.length keyC,.slice forA fors.length forC,.slice chkA chks.length chkC]] w fun e w'=>e=.returned (.bool (nm.toList.isEmpty&&decide (cols.length+key.length+fors.length+chks.length=0)))∧Bl w w'
 generalize cols.length=a at *
 generalize key.length=b at *
 generalize fors.length=c at *
 generalize chks.length=d at *
 cases hem:nm.toList.isEmpty
 case false=>
  go_in
  go_wp2_with fail
  go_ret
  exact ⟨by simp,Below.of_alloc _⟩
 by_cases h0:a+b+c+d=0
 ·have e1:a=0:=by omega
  have e2:b=0:=by omega
  have e3:c=0:=by omega
  have e4:d=0:=by omega
  subst e1;subst e2;subst e3;subst e4
  clear h0 h1 h2 h3 h4
  go_in
  go_wp2_with fail
  go_ret
  exact ⟨by simp,Below.of_alloc _⟩
 ·have HF:Hid (decide (a+b+c+d=0)=false):=hI0 (decide_eq_false h0)
  rw [HF.out]
  have i1:(a:Int)+(b:Int)≤9223372036854775807:=by omega
  have i2:(a:Int)+(b:Int)+(c:Int)≤9223372036854775807:=by omega
  have i3:(a:Int)+(b:Int)+(c:Int)+(d:Int)≤9223372036854775807:=by omega
  have i4:¬(a:Int)+(b:Int)+(c:Int)+(d:Int)=0:=by omega
  go_in
  go_wp2_with fail
  go_ret
  exact ⟨by first|(simp;done)|(simp;omega),Below.of_alloc _⟩
structure REn where
 time:Int
 table:ByteArray
 create:RTab
 change:Chn
def REn.enc (x:REn):List Value:=[.int .i64 x.time,.string x.table]++x.create.enc++x.change.enc
def Chn.zero (x:Chn):Bool:=decide (x.kind=0)&&(x.name.toList.isEmpty&&(x.to.toList.isEmpty&&(x.cname.toList.isEmpty&&(decide (x.ckind=0)&&(!x.cnull&&(decide (x.def_.kind=0)&&(decide (x.def_.int=0)&&x.def_.text.toList.isEmpty)))))))
def REn.ok (x:REn):Bool:=instB x.time&&(nmB x.table&&(if x.change.kind=0 then x.change.zero&&(x.create.ok&&(x.create.name.toList==x.table.toList)) else x.change.ok&&x.create.blank))
theorem validEntry_any (x:REn) (w:World) (ht:x.create.is w (ltw w)) (hf:x.create.few) (hs:x.change.def_.text.size≤maxLen):Calls prog 32 #[.agg x.enc.toArray] w fun e w'=>e=.returned (.bool x.ok)∧Bl w w':=by
 exact zq6 1
structure RDl where
 name:ByteArray
 cA:Option Addr
 cc:Nat
 cl:List Int
 oA:Option Addr
 oc:Nat
 ops:List RF
def RDl.enc (d:RDl):List Value:=[.string d.name,.slice d.cA d.cl.length d.cc,.slice d.oA d.ops.length d.oc]
structure RDl.is (w:World) (F:Nat→Prop) (d:RDl):Prop where
 close:RdE 1 intE w F (.slice d.cA d.cl.length d.cc) d.cl
 opens:RdFs w F (.slice d.oA d.ops.length d.oc) d.ops
 few:d.cl.length≤10000000000∧d.ops.length≤10000000000
theorem RDl.is.below {w w':World} {d:RDl} (h:d.is w (ltw w)) (hb:Bl w w'):d.is w' (ltw w'):=⟨h.close.below hb,h.opens.below hb,h.few⟩
structure REn.is (w:World) (F:Nat→Prop) (x:REn):Prop where
 create:x.create.is w F
 few:x.create.few
 text:x.change.def_.text.size≤maxLen
theorem REn.is.below {w w':World} {x:REn} (h:x.is w (ltw w)) (hb:Bl w w'):x.is w' (ltw w'):=⟨h.create.below hb,h.few,h.text⟩
structure RCm where
 tx:Int
 time:Int
 wall:Int
 first:Int
 eA:Option Addr
 eC:Nat
 ents:List REn
 dA:Option Addr
 dC:Nat
 dels:List RDl
 pA:Option Addr
 pC:Nat
 pla:List Hld
 rA:Option Addr
 rC:Nat
 rel:List ByteArray
 qA:Option Addr
 qC:Nat
 pol:List Pol
 hA:Option Addr
 hC:Nat
 hor:List Hor
def RCm.enc (c:RCm):List Value:=[.int .i64 c.tx,.int .i64 c.time,.int .i64 c.wall,.int .i64 c.first,.slice c.eA c.ents.length c.eC,.slice c.dA c.dels.length c.dC,.slice c.pA c.pla.length c.pC,.slice c.rA c.rel.length c.rC,.slice c.qA c.pol.length c.qC,.slice c.hA c.hor.length c.hC]
structure RCm.is (w:World) (F:Nat→Prop) (c:RCm):Prop where
 ents:RdE 16 REn.enc w F (.slice c.eA c.ents.length c.eC) c.ents
 entI:∀x∈c.ents,x.is w F
 dels:RdE 3 RDl.enc w F (.slice c.dA c.dels.length c.dC) c.dels
 delI:∀x∈c.dels,x.is w F
 pla:RdE 6 Hld.enc w F (.slice c.pA c.pla.length c.pC) c.pla
 rel:RdE 1 strE w F (.slice c.rA c.rel.length c.rC) c.rel
 pol:RdE 2 Pol.enc w F (.slice c.qA c.pol.length c.qC) c.pol
 hor:RdE 2 Hor.enc w F (.slice c.hA c.hor.length c.hC) c.hor
theorem RCm.is.below {w w':World} {c:RCm} (h:c.is w (ltw w)) (hb:Bl w w'):c.is w' (ltw w'):=
 ⟨h.ents.below hb,fun x hx=>(h.entI x hx).below hb,h.dels.below hb,fun x hx=>(h.delI x hx).below hb,h.pla.below hb,h.rel.below hb,h.pol.below hb,h.hor.below hb⟩
def enOk (tm:Int) (x:REn):Bool:=x.ok&&decide (x.time=tm)
def deltasF (first:Int):Option ByteArray→List RDl→Int
 |_,[]=>0
 |p,d::r=>if (nmB d.name&& !decide (d.cl.length+d.ops.length=0))=false then 8 else if (match p with|some q=>bleS d.name q|none=>false)=true then 9
  else if deltaF first d.cl (d.ops.map RF.fct)≠0 then deltaF first d.cl (d.ops.map RF.fct) else deltasF first (some d.name) r
theorem deltasF_cons {first:Int} {p:Option ByteArray} {d:RDl} {r:List RDl}:deltasF first p (d::r)=if (nmB d.name&& !decide (d.cl.length+d.ops.length=0))=false then 8 else if (match p with|some q=>bleS d.name q|none=>false)=true then 9
  else if deltaF first d.cl (d.ops.map RF.fct)≠0 then deltaF first d.cl (d.ops.map RF.fct) else deltasF first (some d.name) r:=by
 cases p<;>rfl
theorem prevN_succ {α:Type} {nm:α→ByteArray} {l:List α} {k:Nat} (h:k<l.length):prevN nm l (k+1)=some (nm l[k]):=by
 unfold prevN;rw [if_neg (Nat.succ_ne_zero k),Nat.add_sub_cancel,List.getElem?_eq_getElem h];rfl
theorem deltasF_at {first:Int} {p:Option ByteArray} {l:List RDl} {k:Nat} (h:k<l.length):deltasF first p (l.drop k)=if (nmB l[k].name&& !decide (l[k].cl.length+l[k].ops.length=0))=false then 8 else if (match p with|some q=>bleS l[k].name q|none=>false)=true then 9
  else if deltaF first l[k].cl (l[k].ops.map RF.fct)≠0 then deltaF first l[k].cl (l[k].ops.map RF.fct) else deltasF first (prevN RDl.name l (k+1)) (l.drop (k+1)):=by
 rw [List.drop_eq_getElem_cons h,deltasF_cons,prevN_succ h]
theorem deltasF_end {first:Int} {p:Option ByteArray} {l:List RDl} {k:Nat} (h:l.length≤k):deltasF first p (l.drop k)=0:=by
 rw [List.drop_of_length_le h];cases p<;>rfl
def restC (c:RCm):Int:=if holdsF c.pla≠0 then holdsF c.pla else if namedF id nmB none c.rel≠0 then namedF id nmB none c.rel else restF c.pol c.hor
def checkF (c:RCm):Int:=
 if (decide (1≤c.tx∧c.tx≤1125899906842624)&&(decide (1≤c.first∧c.first≤1125899906842624)&&(decide (1≤c.time∧c.time≤1099511627775)&&decide (0≤c.wall∧c.wall≤c.time))))=false then 6
 else if c.ents.all (enOk c.time)=false then 8
 else if deltasF c.first none c.dels≠0 then deltasF c.first none c.dels else restC c
theorem check_any (c:RCm) (w:World) (hc:c.is w (ltw w)):Calls prog 11 #[.agg c.enc.toArray] w fun e w'=>e=.returned (.int .i64 (checkF c))∧Bl w w':=by
 have HI0:=hI0 hc
 obtain ⟨C,hC⟩:=eN0 c
 obtain ⟨rs,hrs⟩:=eN0 (checkF c)
 rw [←hrs]
 unfold checkF at hrs
 rw [←hC] at hrs
 obtain ⟨tx,tm,wa,fi,eA,eC,ents,dA,dC,dels,pA,pC,pla,rA,rC,rel,qA,qC,pol,hA,hC2,hor⟩:=c
 have HI:Hid (RCm.is w (ltw w) ⟨tx,tm,wa,fi,eA,eC,ents,dA,dC,dels,pA,pC,pla,rA,rC,rel,qA,qC,pol,hA,hC2,hor⟩):=HI0
 have HRC:Hid (restC C=if holdsF pla≠0 then holdsF pla else if namedF id nmB none rel≠0 then namedF id nmB none rel else restF pol hor):=hI0 (by rw [hC];rfl)
 have HR:Hid (rs=if (decide (1≤tx∧tx≤1125899906842624)&&(decide (1≤fi∧fi≤1125899906842624)&&(decide (1≤tm∧tm≤1099511627775)&&decide (0≤wa∧wa≤tm))))=false then 6
  else if ents.all (enOk tm)=false then 8 else if deltasF fi none dels≠0 then deltasF fi none dels else restC C):=hI0 (by rw [hrs,hC])
 obtain ⟨a1,a2⟩:=hc.ents.bd
 obtain ⟨b1,b2⟩:=hc.dels.bd
 simp only at a1 a2 b1 b2
 show Calls prog 11 #[.agg #[.int .i64 tx,.int .i64 tm,.int .i64 wa,.int .i64 fi,.slice eA ents.length eC,.slice dA dels.length dC,.slice pA pla.length pC,.slice rA rel.length rC,.slice qA pol.length qC,.slice hA hor.length hC2]] w _
 obtain ⟨W,hW⟩:=eN0 (w.alloc (.cells #[.int .i64 tx,.int .i64 tm,.int .i64 wa,.int .i64 fi,.slice eA ents.length eC,.slice dA dels.length dC,.slice pA pla.length pC,.slice rA rel.length rC,.slice qA pol.length qC,.slice hA hor.length hC2] 29))
 have hbW:=bN0 hW
 have hT:=hN0 hW
 have HBW:=hI0 hbW
 have HT:=hI0 hT
 obtain ⟨v1,hv1⟩:=eN0 (decide (1≤tx∧tx≤1125899906842624))
 obtain ⟨v2,hv2⟩:=eN0 (decide (1≤fi∧fi≤1125899906842624))
 obtain ⟨v3,hv3⟩:=eN0 (decide (1≤tm∧tm≤1099511627775))
 obtain ⟨v4,hv4⟩:=eN0 (decide (0≤wa∧wa≤tm))
 have K1:=within_any tx 1 1125899906842624 W
 have K2:=within_any fi 1 1125899906842624 W
 have K3:=within_any tm 1 1099511627775 W
 have K4:=within_any wa 0 tm W
 rw [←hv1] at K1 HR
 rw [←hv2] at K2 HR
 rw [←hv3] at K3 HR
 rw [←hv4] at K4 HR
 have HFI:Hid (v2=true→1≤fi∧fi≤1125899906842624):=hI0 (fun h=>by rw [hv2] at h;exact of_decide_eq_true h)
 obtain ⟨c0,c1,c2,c3,c4,c5,c6,c7,c8,c9⟩:=cX10 hT
 clear hbW hT hv1 hv2 hv3 hv4 hrs hc HI0 hC
 go_in
 go_wp2_with fail
 rw [←hW]
 clear hW
 (with_reducible refine K1.mono ?_)
 rintro _ z1 ⟨rfl,hz⟩
 rw [hz]
 clear hz z1 K1
 cases v1
 case false=>
  exact zq111
 case true=>
  go_wp2_with fail
  (with_reducible refine K2.mono ?_)
  rintro _ z1 ⟨rfl,hz⟩
  rw [hz]
  clear hz z1 K2
  cases v2
  case false=>
   exact zq111
  case true=>
   go_wp2_with fail
   (with_reducible refine K3.mono ?_)
   rintro _ z1 ⟨rfl,hz⟩
   rw [hz]
   clear hz z1 K3
   cases v3
   case false=>
    exact zq111
   case true=>
    go_wp2_with fail
    (with_reducible refine K4.mono ?_)
    rintro _ z1 ⟨rfl,hz⟩
    rw [hz]
    clear hz z1 K4
    cases v4
    case false=>
     exact zq111
    case true=>
     go_wp2_with fail
     have hfi:=HFI.out (by first|rfl|trivial)
     have HFX:=hI0 hfi
     have HR1:Hid (rs=if ents.all (enOk tm)=false then 8 else if deltasF fi none dels≠0 then deltasF fi none dels else restC C):=hI0 (by rw [HR.out];exact if_neg (by simp))
     clear hfi c0 c1 c2 c3 c4 c5 c6 c7 c8 c9
     go_loopw [37] (fun i wr=>∃j:Nat,i=.int .i64 (j:Int)∧j≤ents.length∧Hid ((ents.take j).all (enOk tm)=true)∧Hid (Bl w wr)∧Hid (wr.heap[w.heap.size]? =some (.cells #[.int .i64 tx,.int .i64 tm,.int .i64 wa,.int .i64 fi,.slice eA ents.length eC,.slice dA dels.length dC,.slice pA pla.length pC,.slice rA rel.length rC,.slice qA pol.length qC,.slice hA hor.length hC2] 29 (0,0)))) (fun i _=>ents.length-(intOf i).toNat)
     case atStart=>exact ⟨0,rfl,Nat.zero_le _,hI0 rfl,HBW,HT⟩
     case round=>
      obtain ⟨j,rfl,hj,HG,HB,HTB⟩:=hrel
      obtain ⟨wi,rfl⟩:=eN0 wr
      by_cases hltj:j<ents.length
      case pos=>
       have hlt3:(j:Int)<(ents.length:Int):=by omega
       obtain ⟨b,off,rfl,hF,hcl⟩:=RdE.at_ (K:=16) (enc:=REn.enc) (fun _=>rfl) (by omega) (HI.out.ents.below HB.out) hltj
       have hcx:=hcl j hltj
       have hs:=fun h=>allP_snoc' (p:=enOk tm) hltj HG.out h
       have hno:=allP_no (p:=enOk tm) hltj
       have hxi:=HI.out.entI _ (List.getElem_mem hltj)
       obtain ⟨x,hx⟩:=eN0 (ents[j])
       rw [←hx] at hcx hno hxi
       have hs2:enOk tm x=true→(ents.take (j+1)).all (enOk tm)=true:=fun h=>hs (by rw [←hx];exact h)
       have KE0:∀V,Bl w V→_:=fun V hV=>validEntry_any x V (hxi.below hV).create hxi.few hxi.text
       obtain ⟨v,hv⟩:=eN0 x.ok
       rw [←hv] at KE0
       clear hs hx hcl hF
       obtain ⟨tm2,tb,⟨nm,colA,colC,cols,keyA,keyC,key,forA,forC,fors,chkA,chkC,chks⟩,⟨x1,x2,x3,x4,x5,x6,⟨x7,x8,x9⟩⟩⟩:=x
       have hok:enOk tm ⟨tm2,tb,⟨nm,colA,colC,cols,keyA,keyC,key,forA,forC,fors,chkA,chkC,chks⟩,⟨x1,x2,x3,x4,x5,x6,⟨x7,x8,x9⟩⟩⟩=(v&&decide (tm2=tm)):=by rw [hv];rfl
       rw [hok] at hno hs2
       have HS:=hI0 hs2
       have HNO:=hI0 hno
       have KE:∀V,Bl w V→Calls prog 32 #[.agg #[.int .i64 tm2,.string tb,.string nm,.slice colA cols.length colC,.slice keyA key.length keyC,.slice forA fors.length forC,.slice chkA chks.length chkC,.int .i64 x1,.string x2,.string x3,.string x4,.int .i64 x5,.bool x6,.int .i64 x7,.int .i64 x8,.string x9]] V fun e w'=>e=.returned (.bool v)∧Bl V w':=KE0
       obtain ⟨g0,g1,g2,g3,g4,g5,g6,g7,g8,g9,g10,g11,g12,g13,g14,g15⟩:=cK16 hcx (show _=[.int .i64 tm2,.string tb,.string nm,.slice colA cols.length colC,.slice keyA key.length keyC,.slice forA fors.length forC,.slice chkA chks.length chkC,.int .i64 x1,.string x2,.string x3,.string x4,.int .i64 x5,.bool x6,.int .i64 x7,.int .i64 x8,.string x9] from rfl)
       obtain ⟨W1,hW1⟩:=eN0 (wi.alloc (.cells #[.int .i64 tm2,.string tb,.string nm,.slice colA cols.length colC,.slice keyA key.length keyC,.slice forA fors.length forC,.slice chkA chks.length chkC,.int .i64 x1,.string x2,.string x3,.string x4,.int .i64 x5,.bool x6,.int .i64 x7,.int .i64 x8,.string x9] 83))
       have hb1:=bN0 hW1
       have hX1:=hN0 hW1
       have HX1:=hI0 hX1
       have HL1:Hid (wi.heap.size<W1.heap.size):=hI0 (by rw [hW1];simp)
       have HB1:=bT0 HB hb1
       have HTB1:=hI0 ((hb1.block w.heap.size (gL0 HTB.out)).trans HTB.out)
       have KX:=KE W1 HB1.out
       clear hcx hb1 hX1 hs2 hno hok hv hxi KE KE0
       go_upto_region 6 with (fail)
       rw [←hW1]
       clear hW1 g0 g1 g2 g3 g4 g5 g6 g7 g8 g9 g10 g11 g12 g13 g14 g15
       obtain ⟨g0,g1,g2,g3,g4,g5,g6,g7,g8,g9,g10,g11,g12,g13,g14,g15⟩:=cX16 HX1.out
       go_wp2_with fail
       (with_reducible refine KX.mono ?_)
       rintro _ z1 ⟨rfl,hz⟩
       have HB2:=bT0 HB1 hz
       have HTB2:=hI0 ((hz.block w.heap.size (gL0 HTB1.out)).trans HTB1.out)
       have hX2:=(hz.block _ HL1.out).trans HX1.out
       clear hz KX g0 g1 g2 g3 g4 g5 g6 g7 g8 g9 g10 g11 g12 g13 g14 g15
       have q0:=cW1 0 hX2 rfl
       have q1:=cW1 1 HTB2.out rfl
       clear hX2
       cases v
       case false=>
        have HF:Hid (rs=8):=hI0 (by rw [HR1.out,HNO.out (by first|rfl|trivial)];rfl)
        go_wp2_with fail
        go_ret
        exact ⟨by rw [HF.out];rfl,HB2.out⟩
       by_cases he:tm2=tm
       case neg=>
        have HF:Hid (rs=8):=hI0 (by rw [HR1.out,HNO.out (by simp [he])];rfl)
        have he2:(tm2 != tm)=true:=by simpa using he
        go_wp2_with fail
        go_ret
        exact ⟨by rw [HF.out];rfl,HB2.out⟩
       have HN:Hid ((ents.take (j+1)).all (enOk tm)=true):=hI0 (HS.out (by simp [he]))
       subst he
       go_wp2_with fail
       go_roundw
       case rel=>exact ⟨j+1,by go_num,hltj,HN,HB2,HTB2⟩
       case measure=>simp [intOf];omega
      case neg=>
       have hlt3:¬(j:Int)<(ents.length:Int):=by omega
       have HR2:Hid (rs=if deltasF fi none dels≠0 then deltasF fi none dels else restC C):=hI0 (by
        have h:=HG.out
        rw [List.take_of_length_le (by omega)] at h
        rw [HR1.out,h];rfl)
       have c5:=cW1 5 HTB.out rfl
       have HBx:=HB
       have HTx:=HTB
       go_wp2_with fail
       clear c5 hlt3
       go_loopw [55] (fun i wr=>∃k:Nat,i=.int .i64 (k:Int)∧k≤dels.length∧Hid (deltasF fi (prevN RDl.name dels k) (dels.drop k)=deltasF fi none dels)∧Hid (Bl w wr)∧Hid (wr.heap[w.heap.size]? =some (.cells #[.int .i64 tx,.int .i64 tm,.int .i64 wa,.int .i64 fi,.slice eA ents.length eC,.slice dA dels.length dC,.slice pA pla.length pC,.slice rA rel.length rC,.slice qA pol.length qC,.slice hA hor.length hC2] 29 (0,0)))) (fun i _=>dels.length-(intOf i).toNat)
       case atStart=>exact ⟨0,rfl,Nat.zero_le _,hI0 rfl,HBx,HTx⟩
       case round=>
        clear HBx HTx HB HTB HG hltj hj
        obtain ⟨k,rfl,hk,HG,HB,HTB⟩:=hrel
        obtain ⟨wi,rfl⟩:=eN0 wr
        by_cases hlt:k<dels.length
        case pos=>
         have hlt2:(k:Int)<(dels.length:Int):=by omega
         obtain ⟨b,off,rfl,hF,hcl⟩:=RdE.at_ (K:=3) (enc:=RDl.enc) (fun _=>rfl) (by omega) (HI.out.dels.below HB.out) hlt
         have HCL:Hid (∀i (hi:i<dels.length) j u,j<3→(RDl.enc dels[i])[j]? =some u→wi.cell? ⟨b,off+i*3+j,none⟩=some u):=hI0 hcl
         have HBL0:Hid (b<wi.heap.size):=hI0 hF
         have HLK:=hI0 hlt
         have hg:=HG.out
         rw [deltasF_at hlt] at hg
         have hxi0:=HI.out.delI _ (List.getElem_mem hlt)
         obtain ⟨x,hx⟩:=eN0 (dels[k]'hlt)
         have hcx:∀j u,j<3→(RDl.enc x)[j]? =some u→wi.cell? ⟨b,off+k*3+j,none⟩=some u:=fun j u hj hu=>HCL.out k hlt j u hj (by subst hx;exact hu)
         have hxi:x.is w (ltw w):=by subst hx;exact hxi0
         rw [←hx] at hg
         clear hxi0
         obtain ⟨dn,cA,cc,cl,oA,oc,ops⟩:=x
         simp only at hg
         have hfw:=hxi.few
         simp only at hfw
         have KDX:Hid (∀V,Bl w V→Calls prog 34 #[.agg #[.string dn,.slice cA cl.length cc,.slice oA ops.length oc],.int .i64 fi] V fun e w'=>e=.returned (.int .i64 (deltaF fi cl (ops.map RF.fct)))∧Bl V w'):=hI0 (fun V hV=>checkDelta_any dn _ _ cl ops fi V (hxi.below hV).close (hxi.below hV).opens HFX.out.1 HFX.out.2)
         obtain ⟨de,hde0⟩:=eN0 (deltaF fi cl (ops.map RF.fct))
         rw [←hde0] at KDX hg
         have KN:=fun V=>word_any dn V
         obtain ⟨vn,hvn⟩:=eN0 (nmB dn)
         rw [←hvn] at KN hg
         have HG2:=hI0 hg
         obtain ⟨g0,g1,g2⟩:=cK3 hcx (show _=[.string dn,.slice cA cl.length cc,.slice oA ops.length oc] from rfl)
         obtain ⟨W1,hW1⟩:=eN0 (wi.alloc (.cells #[.string dn,.slice cA cl.length cc,.slice oA ops.length oc] 63))
         have hb1:=bN0 hW1
         have hX1:=hN0 hW1
         have HX1:=hI0 hX1
         have HL1:Hid (wi.heap.size<W1.heap.size):=hI0 (by rw [hW1];simp)
         have HB1i:=hI0 hb1
         have HB1:=bT0 HB hb1
         have HTB1:=hI0 ((hb1.block w.heap.size (gL0 HTB.out)).trans HTB.out)
         have KN:=KN W1
         clear hcl hF hcx hg hxi hx hde0 hvn hb1 hX1
         go_upto_region 12 with (fail)
         rw [←hW1]
         clear hW1 g0 g1 g2
         have g0:=cW1 0 HX1.out rfl
         go_wp2_with fail
         (with_reducible refine KN.mono ?_)
         rintro _ y1 ⟨rfl,hz⟩
         have HBI:=bT0 HB1i hz
         have HBY:=bT0 HB1 hz
         have HTD:=hI0 ((hz.block _ HL1.out).trans HX1.out)
         have HTL:Hid (wi.heap.size<y1.heap.size):=hI0 (by have:=HL1.out;have:=hz.size;omega)
         have HTB2:=hI0 ((hz.block w.heap.size (gL0 HTB1.out)).trans HTB1.out)
         have HBXL:Hid (w.heap.size<y1.heap.size):=hI0 (gL0 HTB2.out)
         have q1:=cW1 1 HTD.out rfl
         have q2:=cW1 2 HTD.out rfl
         clear hz KN g0
         cases vn
         case false=>
          have HF:Hid (rs=8):=hI0 (by
           have h:=HG2.out
           rw [if_pos (by simp)] at h
           rw [HR2.out,←h];rfl)
          go_wp2_with fail
          go_ret
          exact ⟨by rw [HF.out];rfl,HBY.out⟩
         case true=>
          by_cases h0:cl.length+ops.length=0
          case pos=>
           have e1:(cl.length:Int)+(ops.length:Int)=0:=by omega
           have HF:Hid (rs=8):=hI0 (by
            have h:=HG2.out
            rw [if_pos (by simp [h0])] at h
            rw [HR2.out,←h];rfl)
           have z1:(cl.length:Int)=0:=by omega
           have z2:(ops.length:Int)=0:=by omega
           clear h0 e1
           go_wp2_with fail
           go_ret
           exact ⟨by rw [HF.out];rfl,HBY.out⟩
          case neg=>
           have e1:¬(cl.length:Int)+(ops.length:Int)=0:=by omega
           have e2:(cl.length:Int)+(ops.length:Int)≤9223372036854775807:=by omega
           have HG3:Hid ((if (match prevN RDl.name dels k with|some q=>bleS dn q|none=>false)=true then 9 else if de≠0 then de else deltasF fi (prevN RDl.name dels (k+1)) (dels.drop (k+1)))=deltasF fi none dels):=hI0 (by
            have h:=HG2.out
            rw [if_neg (by rw [decide_eq_false h0];simp)] at h
            exact h)
           clear h0
           go_upto_region 14 with (fail)
           clear e1 e2 q1 q2
           by_cases hk0:k=0
           case pos=>
            exact zq56 0
           case neg=>
            obtain ⟨m,rfl⟩:∃m,k=m+1:=⟨k-1,by omega⟩
            have hml:m<dels.length:=by omega
            obtain ⟨y,hy⟩:=eN0 (dels[m])
            have hcy:=HCL.out m hml
            rw [←hy] at hcy
            have hpv:prevN RDl.name dels (m+1)=some y.name:=by rw [hy];exact prevN_succ hml
            have hg3:=HG3.out
            rw [hpv] at hg3
            clear hy hpv
            obtain ⟨yn,yA,yc,yl,zA,zc,yo⟩:=y
            simp only at hg3
            have HG5:=hI0 hg3
            have p0:y1.cell? ⟨b,off+m*3,none⟩=some (.string yn):=(World.cell?_of_block (HBI.out.block b HBL0.out)).trans (hcy 0 _ (by decide) rfl)
            have HBL:Hid (b<y1.heap.size):=hI0 (Nat.lt_of_lt_of_le HBL0.out HBI.out.size)
            have hm63:m≤9223372036854775807:=by omega
            have hm64:(m:Int)≤9223372036854775807:=by omega
            have hm65: -9223372036854775808≤(m:Int):=by omega
            clear hcy hg3
            rcases hlt1:Go.Op.bytesLess dn.toList yn.toList with _|_<;>rcases heq1:(dn.toList==yn.toList) with _|_
            all_goals
             have HLE:Hid (bleS dn yn=(Go.Op.bytesLess dn.toList yn.toList||(dn.toList==yn.toList))):=hI0 rfl
             rw [hlt1,heq1] at HLE
             refine rB0 y1 (fun zh=>?_)
             refine hT 0 74 ?_
             refine hU 1 75 (v:=?_) zh ?_ ?_
             rotate_left
             ·exact zq105
             refine hT 2 76 ?_
             refine hT 3 77 ?_
             refine hU 4 78 (v:=?_) zh ?_ ?_
             rotate_left
             ·exact zq95
             refine hT 5 79 ?_
             refine hU 6 80 (v:=?_) zh ?_ ?_
             rotate_left
             ·intro w' hSw;(try dsimp only at hSw);have q:=(World.cell?_of_block (hSw.block _ HBXL.out)).trans (cW0 y1 w.heap.size 5 _ _ _ HTB2.out);go_simp<;>with_reducible rfl
             refine hT 7 81 ?_
             refine hU 8 82 (v:=?_) zh ?_ ?_
             rotate_left
             ·exact zq94
             refine hT 9 83 ?_
             refine hT 10 84 ?_
             refine hU 11 85 (v:=?_) zh ?_ ?_
             rotate_left
             ·exact zq107
             refine hT 12 86 ?_
             refine hT 13 87 ?_
             refine rD0 ?_
             clear zh p0
            case false.false=>
             exact zq56 1
            all_goals
             have HF:Hid (rs=9):=hI0 (by
              have h:=HG5.out
              have hb:bleS dn yn=true:=HLE.out
              simp only [hb,if_true] at h
              rw [HR2.out,←h];rfl)
             go_wp2_with fail
             go_ret
             exact ⟨by rw [HF.out];rfl,HBY.out.drew⟩
        have hlt2:¬(k:Int)<(dels.length:Int):=by omega
        have HR3:Hid (rs=restC C):=hI0 (by
         have h:=HG.out
         rw [deltasF_end (by omega)] at h
         rw [HR2.out,←h];rfl)
        have KH:=checkHolds_any _ pla wi (HI.out.pla.below HB.out)
        have KS:=fun V (h:Bl w V)=>namedStr_any _ rel V (HI.out.rel.below h)
        have KR:=fun V (h:Bl w V)=>checkRest_any _ _ pol hor V (HI.out.pol.below h) (HI.out.hor.below h)
        obtain ⟨h1,hh1⟩:=eN0 (holdsF pla)
        obtain ⟨h2,hh2⟩:=eN0 (namedF id nmB none rel)
        rw [←hh1] at KH
        rw [←hh2] at KS
        have HR4:Hid (rs=if h1≠0 then h1 else if h2≠0 then h2 else restF pol hor):=hI0 (by rw [HR3.out,HRC.out,←hh1,←hh2])
        clear hh1 hh2
        have c6:=cW1 6 HTB.out rfl
        go_wp2_with fail
        (with_reducible refine KH.mono ?_)
        rintro _ y1 ⟨rfl,hz⟩
        have HB1:=bT0 HB hz
        have HTB1:=hI0 ((hz.block w.heap.size (gL0 HTB.out)).trans HTB.out)
        clear hz KH c6 hlt2
        by_cases e1:h1=0
        case neg=>
         have HF:Hid (rs=h1):=hI0 (by rw [HR4.out,if_pos e1])
         go_wp2_with fail
         go_ret
         exact ⟨by rw [HF.out];rfl,HB1.out⟩
        have HR5:Hid (rs=if h2≠0 then h2 else restF pol hor):=hI0 (by rw [HR4.out,if_neg (by simpa using e1)])
        subst e1
        have c7:=cW1 7 HTB1.out rfl
        have KS:=KS y1 HB1.out
        go_wp2_with fail
        (with_reducible refine KS.mono ?_)
        rintro _ y2 ⟨rfl,hz⟩
        have HB2:=bT0 HB1 hz
        have HTB2:=hI0 ((hz.block w.heap.size (gL0 HTB1.out)).trans HTB1.out)
        clear hz KS c7
        by_cases e2:h2=0
        case neg=>
         have HF:Hid (rs=h2):=hI0 (by rw [HR5.out,if_pos e2])
         go_wp2_with fail
         go_ret
         exact ⟨by rw [HF.out];rfl,HB2.out⟩
        have HR6:Hid (rs=restF pol hor):=hI0 (by rw [HR5.out,if_neg (by simpa using e2)])
        subst e2
        have c8:=cW1 8 HTB2.out rfl
        have c9:=cW1 9 HTB2.out rfl
        have KR:=KR y2 HB2.out
        go_wp2_with fail
        (with_reducible refine KR.mono ?_)
        rintro _ y3 ⟨rfl,hz⟩
        have HB3:=bT0 HB2 hz
        clear hz KR c8 c9
        go_wp2_with fail
        go_ret
        exact ⟨by rw [HR6.out];rfl,HB3.out⟩
end Go.Proofs.YtbfdegkickjbpaaGreat
