/-
 RkE
-/
import Derived.Test.YtbfdegkickjbpaaGreatGRkB
namespace Go.Proofs.YtbfdegkickjbpaaGreat
set_option maxRecDepth 1000000
set_option maxHeartbeats 32000000
open Go.RowKit Go.Lib Go.IntWalk Go.Sort Go.Shelf
theorem kentry_any (x:REn) (w:World) (ht:x.create.is w (·<w.heap.size)) (hf:x.create.few) (hs:x.change.def_.text.size≤maxLen) (hsm:x.sm):Calls Tryz.prog 41 #[.agg x.enc.toArray] w fun e w'=>e=.returned (.bool x.ok)∧Below w.heap.size w w':=by
 obtain ⟨tm,tb,⟨nm,colA,colC,cols,keyA,keyC,key,forA,forC,fors,chkA,chkC,chks⟩,⟨x1,x2,x3,x4,x5,x6,⟨x7,x8,x9⟩⟩⟩:=x
 have hs1:=hsm.table
 have hs2:=hsm.create
 have hs3:=hsm.change.name
 have hs4:=hsm.change.to
 have hs5:=hsm.change.cname
 simp only at ht hf hs hs1 hs2 hs3 hs4 hs5
 obtain ⟨f1,f2,f3,f4⟩:=hf
 simp only at f1 f2 f3 f4
 obtain ⟨rs,hrs⟩:∃r,r=REn.ok ⟨tm,tb,⟨nm,colA,colC,cols,keyA,keyC,key,forA,forC,fors,chkA,chkC,chks⟩,⟨x1,x2,x3,x4,x5,x6,⟨x7,x8,x9⟩⟩⟩:=⟨_,rfl⟩
 rw [←hrs]
 obtain ⟨T,hTe⟩:∃T:RTab,T=⟨nm,colA,colC,cols,keyA,keyC,key,forA,forC,fors,chkA,chkC,chks⟩:=⟨_,rfl⟩
 obtain ⟨C,hCe⟩:∃C:Chn,C=⟨x1,x2,x3,x4,x5,x6,⟨x7,x8,x9⟩⟩:=⟨_,rfl⟩
 have HR:Hid (rs=(instB tm&&(nmB tb&&(if x1=0 then C.zero&&(T.ok&&(nm.toList==tb.toList)) else C.ok&&T.blank)))):=hI0 (by rw [hrs,hTe,hCe];rfl)
 have HBL:Hid (T.blank=(nm.toList.isEmpty&&decide (cols.length+key.length+fors.length+chks.length=0))):=hI0 (by rw [hTe];rfl)
 show Calls Tryz.prog 41 #[.agg #[.int .i64 tm,.string tb,.string nm,.slice colA cols.length colC,.slice keyA key.length keyC,.slice forA fors.length forC,.slice chkA chks.length chkC,.int .i64 x1,.string x2,.string x3,.string x4,.int .i64 x5,.bool x6,.int .i64 x7,.int .i64 x8,.string x9]] w _
 obtain ⟨W,hW⟩:∃W,W=w.alloc (.cells #[.int .i64 tm,.string tb,.string nm,.slice colA cols.length colC,.slice keyA key.length keyC,.slice forA fors.length forC,.slice chkA chks.length chkC,.int .i64 x1,.string x2,.string x3,.string x4,.int .i64 x5,.bool x6,.int .i64 x7,.int .i64 x8,.string x9] 83):=⟨_,rfl⟩
 have hbW:Below w.heap.size w W:=by rw [hW];exact Below.of_alloc _
 have hT:W.heap[w.heap.size]? =some (.cells #[.int .i64 tm,.string tb,.string nm,.slice colA cols.length colC,.slice keyA key.length keyC,.slice forA fors.length forC,.slice chkA chks.length chkC,.int .i64 x1,.string x2,.string x3,.string x4,.int .i64 x5,.bool x6,.int .i64 x7,.int .i64 x8,.string x9] 83 (0,0)):=by rw [hW];exact heap_alloc_new _ _
 have HBW:=hI0 hbW
 have HT:=hI0 hT
 have HWS:Hid (w.heap.size<W.heap.size):=hI0 (by rw [hW];simp)
 have K1:=kinst_any tm W
 have K2:=kname_any tb W hs1
 have K3:∀V,Below w.heap.size w V→Calls Tryz.prog 144 #[.agg #[.string nm,.slice colA cols.length colC,.slice keyA key.length keyC,.slice forA fors.length forC,.slice chkA chks.length chkC]] V fun e w'=>e=.returned (.bool T.ok)∧Below V.heap.size V w':=fun V hV=>by rw [hTe];exact ktable_any ⟨nm,colA,colC,cols,keyA,keyC,key,forA,forC,fors,chkA,chkC,chks⟩ V (ht.below hV) hs2
 have K5:∀V,Calls Tryz.prog 145 #[.agg #[.int .i64 x1,.string x2,.string x3,.string x4,.int .i64 x5,.bool x6,.int .i64 x7,.int .i64 x8,.string x9]] V fun e w'=>e=.returned (.bool C.ok)∧Below V.heap.size V w':=fun V=>by rw [hCe];exact kchange_any x1 x2 x3 x4 x5 x6 x7 x8 x9 V hs hs3 hs4 hs5
 have HCZ:Hid (C.zero=(decide (x1=0)&&(x2.toList.isEmpty&&(x3.toList.isEmpty&&(x4.toList.isEmpty&&(decide (x5=0)&&(!x6&&(decide (x7=0)&&(decide (x8=0)&&x9.toList.isEmpty))))))))):=hI0 (by rw [hCe];rfl)
 obtain ⟨v1,hv1⟩:∃bo,bo=instB tm:=⟨_,rfl⟩
 obtain ⟨v2,hv2⟩:∃bo,bo=nmB tb:=⟨_,rfl⟩
 obtain ⟨v3,hv3⟩:∃bo,bo=T.ok:=⟨_,rfl⟩
 obtain ⟨v5,hv5⟩:∃bo,bo=C.ok:=⟨_,rfl⟩
 rw [←hv1] at K1 HR
 rw [←hv2] at K2 HR
 rw [←hv3] at K3 HR
 rw [←hv5] at K5 HR
 have c0:W.cell? ⟨w.heap.size,0,none⟩=some (.int .i64 tm):=cW0 W _ 0 _ _ _ hT
 have c1:W.cell? ⟨w.heap.size,1,none⟩=some (.string tb):=cW0 W _ 1 _ _ _ hT
 have c2:W.cell? ⟨w.heap.size,2,none⟩=some (.string nm):=cW0 W _ 2 _ _ _ hT
 have c3:W.cell? ⟨w.heap.size,3,none⟩=some (.slice colA cols.length colC):=cW0 W _ 3 _ _ _ hT
 have c4:W.cell? ⟨w.heap.size,4,none⟩=some (.slice keyA key.length keyC):=cW0 W _ 4 _ _ _ hT
 have c5:W.cell? ⟨w.heap.size,5,none⟩=some (.slice forA fors.length forC):=cW0 W _ 5 _ _ _ hT
 have c6:W.cell? ⟨w.heap.size,6,none⟩=some (.slice chkA chks.length chkC):=cW0 W _ 6 _ _ _ hT
 have c7:W.cell? ⟨w.heap.size,7,none⟩=some (.int .i64 x1):=cW0 W _ 7 _ _ _ hT
 have c8:W.cell? ⟨w.heap.size,8,none⟩=some (.string x2):=cW0 W _ 8 _ _ _ hT
 have c9:W.cell? ⟨w.heap.size,9,none⟩=some (.string x3):=cW0 W _ 9 _ _ _ hT
 have c10:W.cell? ⟨w.heap.size,10,none⟩=some (.string x4):=cW0 W _ 10 _ _ _ hT
 have c11:W.cell? ⟨w.heap.size,11,none⟩=some (.int .i64 x5):=cW0 W _ 11 _ _ _ hT
 have c12:W.cell? ⟨w.heap.size,12,none⟩=some (.bool x6):=cW0 W _ 12 _ _ _ hT
 have c13:W.cell? ⟨w.heap.size,13,none⟩=some (.int .i64 x7):=cW0 W _ 13 _ _ _ hT
 have c14:W.cell? ⟨w.heap.size,14,none⟩=some (.int .i64 x8):=cW0 W _ 14 _ _ _ hT
 have c15:W.cell? ⟨w.heap.size,15,none⟩=some (.string x9):=cW0 W _ 15 _ _ _ hT
 clear hbW hT hv1 hv2 hv3 hv5 hrs ht hs hs1 hs2 hs3 hs4 hs5 hsm hTe hCe
 go_enter Tryz.func41,Tryz.ntmps41
 go_wp2_with fail
 rw [←hW]
 clear hW
 (with_reducible refine K1.mono ?_)
 rintro _ z1 ⟨rfl,hz⟩
 rw [hz]
 clear hz z1 K1
 cases v1
 case false=>
  have HF:Hid (rs=false):=hI0 (by rw [HR.out];rfl)
  go_wp2_with fail
  go_ret
  exact ⟨by rw [HF.out];first|rfl|(simp;done)|(simp;omega),HBW.out⟩
 go_wp2_with fail
 (with_reducible refine K2.mono ?_)
 rintro _ y1 ⟨rfl,hz⟩
 rw [←hz]
 clear hz K2 y1
 cases v2
 case false=>
  have HF:Hid (rs=false):=hI0 (by rw [HR.out];rfl)
  go_wp2_with fail
  go_ret
  exact ⟨by rw [HF.out];first|rfl|(simp;done)|(simp;omega),HBW.out⟩
 by_cases hk:x1=0
 case pos=>
  subst hk
  have HR2:Hid (rs=(C.zero&&(v3&&(nm.toList==tb.toList)))):=hI0 (by rw [HR.out];rfl)
  have K3:=K3 W HBW.out
  go_wp2_with fail
  (with_reducible refine K3.mono ?_)
  rintro _ y2 ⟨rfl,hz⟩
  have HB2:Hid (Below w.heap.size w y2):=hI0 (HBW.out.trans (hz.mono HBW.out.size))
  have hT2:=(hz.block _ HWS.out).trans HT.out
  clear hz K3 c0 c1 c2 c3 c4 c5 c6 c7 c8 c9 c10 c11 c12 c13 c14 c15
  have c0:y2.cell? ⟨w.heap.size,0,none⟩=some (.int .i64 tm):=cW0 y2 _ 0 _ _ _ hT2
  have c1:y2.cell? ⟨w.heap.size,1,none⟩=some (.string tb):=cW0 y2 _ 1 _ _ _ hT2
  have c2:y2.cell? ⟨w.heap.size,2,none⟩=some (.string nm):=cW0 y2 _ 2 _ _ _ hT2
  have c3:y2.cell? ⟨w.heap.size,3,none⟩=some (.slice colA cols.length colC):=cW0 y2 _ 3 _ _ _ hT2
  have c4:y2.cell? ⟨w.heap.size,4,none⟩=some (.slice keyA key.length keyC):=cW0 y2 _ 4 _ _ _ hT2
  have c5:y2.cell? ⟨w.heap.size,5,none⟩=some (.slice forA fors.length forC):=cW0 y2 _ 5 _ _ _ hT2
  have c6:y2.cell? ⟨w.heap.size,6,none⟩=some (.slice chkA chks.length chkC):=cW0 y2 _ 6 _ _ _ hT2
  have c7:y2.cell? ⟨w.heap.size,7,none⟩=some (.int .i64 0):=cW0 y2 _ 7 _ _ _ hT2
  have c8:y2.cell? ⟨w.heap.size,8,none⟩=some (.string x2):=cW0 y2 _ 8 _ _ _ hT2
  have c9:y2.cell? ⟨w.heap.size,9,none⟩=some (.string x3):=cW0 y2 _ 9 _ _ _ hT2
  have c10:y2.cell? ⟨w.heap.size,10,none⟩=some (.string x4):=cW0 y2 _ 10 _ _ _ hT2
  have c11:y2.cell? ⟨w.heap.size,11,none⟩=some (.int .i64 x5):=cW0 y2 _ 11 _ _ _ hT2
  have c12:y2.cell? ⟨w.heap.size,12,none⟩=some (.bool x6):=cW0 y2 _ 12 _ _ _ hT2
  have c13:y2.cell? ⟨w.heap.size,13,none⟩=some (.int .i64 x7):=cW0 y2 _ 13 _ _ _ hT2
  have c14:y2.cell? ⟨w.heap.size,14,none⟩=some (.int .i64 x8):=cW0 y2 _ 14 _ _ _ hT2
  have c15:y2.cell? ⟨w.heap.size,15,none⟩=some (.string x9):=cW0 y2 _ 15 _ _ _ hT2
  clear hT2
  cases v3
  case false=>
   have HF:Hid (rs=false):=hI0 (by rw [HR2.out];simp)
   go_wp2_with fail
   go_ret
   exact ⟨by rw [HF.out];first|rfl|(simp;done)|(simp;omega),HB2.out⟩
  cases eq1:(nm.toList==tb.toList)
  case false=>
   have HF:Hid (rs=false):=hI0 (by rw [HR2.out,eq1];simp)
   go_wp2_with fail
   go_ret
   exact ⟨by rw [HF.out];first|rfl|(simp;done)|(simp;omega),HB2.out⟩
  cases e0:x2.toList.isEmpty
  case false=>
   have HF:Hid (rs=false):=hI0 (by rw [HR2.out,HCZ.out];simp [e0])
   go_wp2_with fail
   go_ret
   exact ⟨by rw [HF.out];first|rfl|(simp;done)|(simp;omega),HB2.out⟩
  cases e1:x3.toList.isEmpty
  case false=>
   have HF:Hid (rs=false):=hI0 (by rw [HR2.out,HCZ.out];simp [e1])
   go_wp2_with fail
   go_ret
   exact ⟨by rw [HF.out];first|rfl|(simp;done)|(simp;omega),HB2.out⟩
  cases e2:x4.toList.isEmpty
  case false=>
   have HF:Hid (rs=false):=hI0 (by rw [HR2.out,HCZ.out];simp [e2])
   go_wp2_with fail
   go_ret
   exact ⟨by rw [HF.out];first|rfl|(simp;done)|(simp;omega),HB2.out⟩
  by_cases e3:x5=0
  case neg=>
   have HF:Hid (rs=false):=hI0 (by rw [HR2.out,HCZ.out];simp [e3])
   go_wp2_with fail
   go_ret
   exact ⟨by rw [HF.out];first|rfl|(simp;done)|(simp;omega),HB2.out⟩
  subst e3
  cases x6
  case true=>
   have HF:Hid (rs=false):=hI0 (by rw [HR2.out,HCZ.out];simp [Bool.not_true])
   go_wp2_with fail
   go_ret
   exact ⟨by rw [HF.out];first|rfl|(simp;done)|(simp;omega),HB2.out⟩
  by_cases e5:x7=0
  case neg=>
   have HF:Hid (rs=false):=hI0 (by rw [HR2.out,HCZ.out];simp [e5])
   go_wp2_with fail
   go_ret
   exact ⟨by rw [HF.out];first|rfl|(simp;done)|(simp;omega),HB2.out⟩
  subst e5
  by_cases e6:x8=0
  case neg=>
   have HF:Hid (rs=false):=hI0 (by rw [HR2.out,HCZ.out];simp [e6])
   go_wp2_with fail
   go_ret
   exact ⟨by rw [HF.out];first|rfl|(simp;done)|(simp;omega),HB2.out⟩
  subst e6
  cases e7:x9.toList.isEmpty
  case false=>
   have HF:Hid (rs=false):=hI0 (by rw [HR2.out,HCZ.out];simp [e7])
   go_wp2_with fail
   go_ret
   exact ⟨by rw [HF.out];first|rfl|(simp;done)|(simp;omega),HB2.out⟩
  have HF:Hid (rs=true):=hI0 (by rw [HR2.out,HCZ.out,eq1];simp [e0,e1,e2,e7])
  go_wp2_with fail
  go_ret
  exact ⟨by rw [HF.out];first|rfl|(simp;done)|(simp;omega),HB2.out⟩
 have HR2:Hid (rs=(v5&&(nm.toList.isEmpty&&decide (cols.length+key.length+fors.length+chks.length=0)))):=hI0 (by rw [HR.out,if_neg hk,HBL.out];rfl)
 go_upto_region 5 with (fail)
 clear hk
 obtain ⟨W2,hW2⟩:∃W2,W2=W.alloc (.cells #[.string nm,.slice colA cols.length colC,.slice keyA key.length keyC,.slice forA fors.length forC,.slice chkA chks.length chkC] 75):=⟨_,rfl⟩
 have hb2:Below W.heap.size W W2:=by rw [hW2];exact Below.of_alloc _
 have hN2:W2.heap[W.heap.size]? =some (.cells #[.string nm,.slice colA cols.length colC,.slice keyA key.length keyC,.slice forA fors.length forC,.slice chkA chks.length chkC] 75 (0,0)):=by rw [hW2];exact heap_alloc_new _ _
 have hL2:W.heap.size<W2.heap.size:=by rw [hW2];simp
 have hT2:=(hb2.block _ HWS.out).trans HT.out
 have HB2:Hid (Below w.heap.size w W2):=hI0 (HBW.out.trans (hb2.mono HBW.out.size))
 have K5:=K5 W2
 go_upto_region 6 with (fail)
 rw [←hW2]
 clear hW2 hb2 c0 c1 c2 c3 c4 c5 c6 c7 c8 c9 c10 c11 c12 c13 c14 c15
 have c7:W2.cell? ⟨w.heap.size,7,none⟩=some (.int .i64 x1):=cW0 W2 _ 7 _ _ _ hT2
 have c8:W2.cell? ⟨w.heap.size,8,none⟩=some (.string x2):=cW0 W2 _ 8 _ _ _ hT2
 have c9:W2.cell? ⟨w.heap.size,9,none⟩=some (.string x3):=cW0 W2 _ 9 _ _ _ hT2
 have c10:W2.cell? ⟨w.heap.size,10,none⟩=some (.string x4):=cW0 W2 _ 10 _ _ _ hT2
 have c11:W2.cell? ⟨w.heap.size,11,none⟩=some (.int .i64 x5):=cW0 W2 _ 11 _ _ _ hT2
 have c12:W2.cell? ⟨w.heap.size,12,none⟩=some (.bool x6):=cW0 W2 _ 12 _ _ _ hT2
 have c13:W2.cell? ⟨w.heap.size,13,none⟩=some (.int .i64 x7):=cW0 W2 _ 13 _ _ _ hT2
 have c14:W2.cell? ⟨w.heap.size,14,none⟩=some (.int .i64 x8):=cW0 W2 _ 14 _ _ _ hT2
 have c15:W2.cell? ⟨w.heap.size,15,none⟩=some (.string x9):=cW0 W2 _ 15 _ _ _ hT2
 clear hT2
 have HN2:=hI0 hN2
 have HL2:=hI0 hL2
 clear hN2 hL2
 go_wp2_with fail
 (with_reducible refine K5.mono ?_)
 rintro _ y2 ⟨rfl,hz⟩
 have HB3:Hid (Below w.heap.size w y2):=hI0 (HB2.out.trans (hz.mono HB2.out.size))
 have hN3:=(hz.block _ HL2.out).trans HN2.out
 clear hz K5 c7 c8 c9 c10 c11 c12 c13 c14 c15
 have t0:y2.cell? ⟨W.heap.size,0,none⟩=some (.string nm):=cW0 y2 _ 0 _ _ _ hN3
 have t1:y2.cell? ⟨W.heap.size,1,none⟩=some (.slice colA cols.length colC):=cW0 y2 _ 1 _ _ _ hN3
 have t2:y2.cell? ⟨W.heap.size,2,none⟩=some (.slice keyA key.length keyC):=cW0 y2 _ 2 _ _ _ hN3
 have t3:y2.cell? ⟨W.heap.size,3,none⟩=some (.slice forA fors.length forC):=cW0 y2 _ 3 _ _ _ hN3
 have t4:y2.cell? ⟨W.heap.size,4,none⟩=some (.slice chkA chks.length chkC):=cW0 y2 _ 4 _ _ _ hN3
 clear hN3
 cases v5
 case false=>
  have HF:Hid (rs=false):=hI0 (by rw [HR2.out];rfl)
  go_wp2_with fail
  go_ret
  exact ⟨by rw [HF.out];first|rfl|(simp;done)|(simp;omega),HB3.out⟩
 cases hem:nm.toList.isEmpty
 case false=>
  have HF:Hid (rs=false):=hI0 (by rw [HR2.out,hem];simp)
  go_wp2_with fail
  go_ret
  exact ⟨by rw [HF.out];first|rfl|(simp;done)|(simp;omega),HB3.out⟩
 by_cases h0:cols.length+key.length+fors.length+chks.length=0
 case pos=>
  have HF:Hid (rs=true):=hI0 (by rw [HR2.out,hem,decide_eq_true h0];rfl)
  have z1:(cols.length:Int)=0:=by omega
  have z2:(key.length:Int)=0:=by omega
  have z3:(fors.length:Int)=0:=by omega
  have z4:(chks.length:Int)=0:=by omega
  clear h0 f1 f2 f3 f4
  go_wp2_with fail
  go_ret
  exact ⟨by rw [HF.out];first|rfl|(simp;done)|(simp;omega),HB3.out⟩
 have HF:Hid (rs=false):=hI0 (by rw [HR2.out,hem,decide_eq_false h0];rfl)
 have i1:(cols.length:Int)+(key.length:Int)≤9223372036854775807:=by omega
 have i2:(cols.length:Int)+(key.length:Int)+(fors.length:Int)≤9223372036854775807:=by omega
 have i3:(cols.length:Int)+(key.length:Int)+(fors.length:Int)+(chks.length:Int)≤9223372036854775807:=by omega
 have i4:¬(cols.length:Int)+(key.length:Int)+(fors.length:Int)+(chks.length:Int)=0:=by omega
 clear h0
 go_wp2_with fail
 go_ret
 exact ⟨by rw [HF.out];first|rfl|(simp;done)|(simp;omega),HB3.out⟩
end Go.Proofs.YtbfdegkickjbpaaGreat
