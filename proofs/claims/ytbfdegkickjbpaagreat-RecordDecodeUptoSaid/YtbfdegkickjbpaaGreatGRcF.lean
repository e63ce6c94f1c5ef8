/-
 RcF
-/
import Derived.Test.YtbfdegkickjbpaaGreatGRcE
namespace Go.Proofs.YtbfdegkickjbpaaGreat
set_option maxRecDepth 1000000
set_option maxHeartbeats 32000000
open Go.RowKit Go.Lib Go.IntWalk Go.Sort Go.Shelf
def RTab.few (t:RTab):Prop:=t.cols.length≤10000000000∧t.key.length≤10000000000∧t.fors.length≤10000000000∧t.chks.length≤10000000000
def RTab.blank (t:RTab):Bool:=t.name.toList.isEmpty&&decide (t.cols.length+t.key.length+t.fors.length+t.chks.length=0)
theorem blank_any (t:RTab) (w:World) (ht:t.few):Calls Tryz.prog 132 #[.agg t.enc.toArray] w fun e w'=>e=.returned (.bool t.blank)∧Below w.heap.size w w':=by
 obtain ⟨nm,colA,colC,cols,keyA,keyC,key,forA,forC,fors,chkA,chkC,chks⟩:=t
 obtain ⟨h1,h2,h3,h4⟩:=ht
 simp only at h1 h2 h3 h4
 show Calls Tryz.prog 132 #[.agg #[.string nm,.slice colA cols.length colC,.slice keyA key.length keyC,.slice forA fors.length forC,.slice chkA chks.length chkC]] w fun e w'=>e=.returned (.bool (nm.toList.isEmpty&&decide (cols.length+key.length+fors.length+chks.length=0)))∧Below w.heap.size w w'
 generalize cols.length=a at *
 generalize key.length=b at *
 generalize fors.length=c at *
 generalize chks.length=d at *
 cases hem:nm.toList.isEmpty
 case false=>
  go_enter Tryz.func132,Tryz.ntmps132
  go_wp2_with fail
  go_ret
  exact ⟨by simp,Below.of_alloc _⟩
 by_cases h0:a+b+c+d=0
 ·have e1:a=0:=by omega
  have e2:b=0:=by omega
  have e3:c=0:=by omega
  have e4:d=0:=by omega
  subst e1;subst e2;subst e3;subst e4
  clear h0 h1 h2 h3 h4
  go_enter Tryz.func132,Tryz.ntmps132
  go_wp2_with fail
  go_ret
  exact ⟨by simp,Below.of_alloc _⟩
 ·have HF:Hid (decide (a+b+c+d=0)=false):=hI0 (decide_eq_false h0)
  rw [HF.out]
  have i1:(a:Int)+(b:Int)≤9223372036854775807:=by omega
  have i2:(a:Int)+(b:Int)+(c:Int)≤9223372036854775807:=by omega
  have i3:(a:Int)+(b:Int)+(c:Int)+(d:Int)≤9223372036854775807:=by omega
  have i4:¬(a:Int)+(b:Int)+(c:Int)+(d:Int)=0:=by omega
  go_enter Tryz.func132,Tryz.ntmps132
  go_wp2_with fail
  go_ret
  exact ⟨by first|(simp;done)|(simp;omega),Below.of_alloc _⟩
structure REn where
 time:Int
 table:ByteArray
 create:RTab
 change:Chn
def REn.enc (x:REn):List Value:=[.int .i64 x.time,.string x.table]++x.create.enc++x.change.enc
def Chn.zero (x:Chn):Bool:=decide (x.kind=0)&&(x.name.toList.isEmpty&&(x.to.toList.isEmpty&&(x.cname.toList.isEmpty&&(decide (x.ckind=0)&&(!x.cnull&&(decide (x.def_.kind=0)&&(decide (x.def_.int=0)&&x.def_.text.toList.isEmpty)))))))
def REn.ok (x:REn):Bool:=instB x.time&&(nmB x.table&&(if x.change.kind=0 then x.change.zero&&(x.create.ok&&(x.create.name.toList==x.table.toList)) else x.change.ok&&x.create.blank))
theorem validEntry_any (x:REn) (w:World) (ht:x.create.is w (·<w.heap.size)) (hf:x.create.few) (hs:x.change.def_.text.size≤maxLen):Calls Tryz.prog 32 #[.agg x.enc.toArray] w fun e w'=>e=.returned (.bool x.ok)∧Below w.heap.size w w':=by
 obtain ⟨tm,tb,⟨nm,colA,colC,cols,keyA,keyC,key,forA,forC,fors,chkA,chkC,chks⟩,⟨x1,x2,x3,x4,x5,x6,⟨x7,x8,x9⟩⟩⟩:=x
 simp only at ht hf hs
 obtain ⟨rs,hrs⟩:∃r,r=REn.ok ⟨tm,tb,⟨nm,colA,colC,cols,keyA,keyC,key,forA,forC,fors,chkA,chkC,chks⟩,⟨x1,x2,x3,x4,x5,x6,⟨x7,x8,x9⟩⟩⟩:=⟨_,rfl⟩
 rw [←hrs]
 obtain ⟨T,hTe⟩:∃T:RTab,T=⟨nm,colA,colC,cols,keyA,keyC,key,forA,forC,fors,chkA,chkC,chks⟩:=⟨_,rfl⟩
 obtain ⟨C,hCe⟩:∃C:Chn,C=⟨x1,x2,x3,x4,x5,x6,⟨x7,x8,x9⟩⟩:=⟨_,rfl⟩
 have HR:Hid (rs=(instB tm&&(nmB tb&&(if x1=0 then C.zero&&(T.ok&&(nm.toList==tb.toList)) else C.ok&&T.blank)))):=hI0 (by rw [hrs,hTe,hCe];rfl)
 show Calls Tryz.prog 32 #[.agg #[.int .i64 tm,.string tb,.string nm,.slice colA cols.length colC,.slice keyA key.length keyC,.slice forA fors.length forC,.slice chkA chks.length chkC,.int .i64 x1,.string x2,.string x3,.string x4,.int .i64 x5,.bool x6,.int .i64 x7,.int .i64 x8,.string x9]] w _
 obtain ⟨W,hW⟩:∃W,W=w.alloc (.cells #[.int .i64 tm,.string tb,.string nm,.slice colA cols.length colC,.slice keyA key.length keyC,.slice forA fors.length forC,.slice chkA chks.length chkC,.int .i64 x1,.string x2,.string x3,.string x4,.int .i64 x5,.bool x6,.int .i64 x7,.int .i64 x8,.string x9] 83):=⟨_,rfl⟩
 have hbW:Below w.heap.size w W:=by rw [hW];exact Below.of_alloc _
 have hT:W.heap[w.heap.size]? =some (.cells #[.int .i64 tm,.string tb,.string nm,.slice colA cols.length colC,.slice keyA key.length keyC,.slice forA fors.length forC,.slice chkA chks.length chkC,.int .i64 x1,.string x2,.string x3,.string x4,.int .i64 x5,.bool x6,.int .i64 x7,.int .i64 x8,.string x9] 83 (0,0)):=by rw [hW];exact heap_alloc_new _ _
 have hWs:w.heap.size<W.heap.size:=by rw [hW];simp
 have HBW:=hI0 hbW
 have HT:=hI0 hT
 have HWS:=hI0 hWs
 have K1:=instant_any tm W
 have K2:=word_any tb W
 have K3:∀V,Below w.heap.size w V→Calls Tryz.prog 130 #[.agg #[.string nm,.slice colA cols.length colC,.slice keyA key.length keyC,.slice forA fors.length forC,.slice chkA chks.length chkC]] V fun e w'=>e=.returned (.bool T.ok)∧Below V.heap.size V w':=fun V hV=>by rw [hTe];exact storedTable_any ⟨nm,colA,colC,cols,keyA,keyC,key,forA,forC,fors,chkA,chkC,chks⟩ V (ht.below hV)
 have K4:∀V,Calls Tryz.prog 132 #[.agg #[.string nm,.slice colA cols.length colC,.slice keyA key.length keyC,.slice forA fors.length forC,.slice chkA chks.length chkC]] V fun e w'=>e=.returned (.bool T.blank)∧Below V.heap.size V w':=fun V=>by rw [hTe];exact blank_any ⟨nm,colA,colC,cols,keyA,keyC,key,forA,forC,fors,chkA,chkC,chks⟩ V hf
 have K5:∀V,Calls Tryz.prog 131 #[.agg #[.int .i64 x1,.string x2,.string x3,.string x4,.int .i64 x5,.bool x6,.int .i64 x7,.int .i64 x8,.string x9]] V fun e w'=>e=.returned (.bool C.ok)∧Below V.heap.size V w':=fun V=>by rw [hCe];exact storedChange_any x1 x2 x3 x4 x5 x6 x7 x8 x9 V hs
 have HCZ:Hid (C.zero=(decide (x1=0)&&(x2.toList.isEmpty&&(x3.toList.isEmpty&&(x4.toList.isEmpty&&(decide (x5=0)&&(!x6&&(decide (x7=0)&&(decide (x8=0)&&x9.toList.isEmpty))))))))):=hI0 (by rw [hCe];rfl)
 obtain ⟨v1,hv1⟩:∃bo,bo=instB tm:=⟨_,rfl⟩
 obtain ⟨v2,hv2⟩:∃bo,bo=nmB tb:=⟨_,rfl⟩
 obtain ⟨v3,hv3⟩:∃bo,bo=T.ok:=⟨_,rfl⟩
 obtain ⟨v4,hv4⟩:∃bo,bo=T.blank:=⟨_,rfl⟩
 obtain ⟨v5,hv5⟩:∃bo,bo=C.ok:=⟨_,rfl⟩
 rw [←hv1] at K1 HR
 rw [←hv2] at K2 HR
 rw [←hv3] at K3 HR
 rw [←hv4] at K4 HR
 rw [←hv5] at K5 HR
 have c0:W.cell? ⟨w.heap.size,0,none⟩=some (.int .i64 tm):=cW0 W _ 0 _ _ _ hT
 have c1:W.cell? ⟨w.heap.size,1,none⟩=some (.string tb):=cW0 W _ 1 _ _ _ hT
 have c2:W.cell? ⟨w.heap.size,2,none⟩=some (.string nm):=cW0 W _ 2 _ _ _ hT
 have c3:W.cell? ⟨w.heap.size,3,none⟩=some (.slice colA cols.length colC):=cW0 W _ 3 _ _ _ hT
 have c4:W.cell? ⟨w.heap.size,4,none⟩=some (.slice keyA key.length keyC):=cW0 W _ 4 _ _ _ hT
 have c5:W.cell? ⟨w.heap.size,5,none⟩=some (.slice forA fors.length forC):=cW0 W _ 5 _ _ _ hT
 have c6:W.cell? ⟨w.heap.size,6,none⟩=some (.slice chkA chks.length chkC):=cW0 W _ 6 _ _ _ hT
 have c7:W.cell? ⟨w.heap.size,7,none⟩=some (.int .i64 x1):=cW0 W _ 7 _ _ _ hT
 have c8:W.cell? ⟨w.heap.size,8,none⟩=some (.string x2):=cW0 W _ 8 _ _ _ hT
 have c9:W.cell? ⟨w.heap.size,9,none⟩=some (.string x3):=cW0 W _ 9 _ _ _ hT
 have c10:W.cell? ⟨w.heap.size,10,none⟩=some (.string x4):=cW0 W _ 10 _ _ _ hT
 have c11:W.cell? ⟨w.heap.size,11,none⟩=some (.int .i64 x5):=cW0 W _ 11 _ _ _ hT
 have c12:W.cell? ⟨w.heap.size,12,none⟩=some (.bool x6):=cW0 W _ 12 _ _ _ hT
 have c13:W.cell? ⟨w.heap.size,13,none⟩=some (.int .i64 x7):=cW0 W _ 13 _ _ _ hT
 have c14:W.cell? ⟨w.heap.size,14,none⟩=some (.int .i64 x8):=cW0 W _ 14 _ _ _ hT
 have c15:W.cell? ⟨w.heap.size,15,none⟩=some (.string x9):=cW0 W _ 15 _ _ _ hT
 clear hbW hT hWs hv1 hv2 hv3 hv4 hv5 hrs ht hf hs hTe hCe
 go_enter Tryz.func32,Tryz.ntmps32
 go_wp2_with fail
 rw [←hW]
 clear hW
 (with_reducible refine K1.mono ?_)
 rintro _ z1 ⟨rfl,hz⟩
 rw [hz]
 clear hz z1 K1
 cases v1
 case false=>
  go_wp2_with fail
  go_ret
  exact ⟨by rw [HR.out];rfl,HBW.out⟩
 go_wp2_with fail
 (with_reducible refine K2.mono ?_)
 rintro _ y1 ⟨rfl,hz⟩
 have HB1:Hid (Below w.heap.size w y1):=hI0 (HBW.out.trans (hz.mono HBW.out.size))
 have HT1:=hI0 ((hz.block _ HWS.out).trans HT.out)
 have HL1:Hid (w.heap.size<y1.heap.size):=hI0 (by have:=HWS.out;have:=hz.size;omega)
 clear hz K2 c0 c1 c2 c3 c4 c5 c6 c7 c8 c9 c10 c11 c12 c13 c14 c15
 cases v2
 case false=>
  go_wp2_with fail
  go_ret
  exact ⟨by rw [HR.out];rfl,HB1.out⟩
 have c0:y1.cell? ⟨w.heap.size,0,none⟩=some (.int .i64 tm):=cW0 y1 _ 0 _ _ _ HT1.out
 have c1:y1.cell? ⟨w.heap.size,1,none⟩=some (.string tb):=cW0 y1 _ 1 _ _ _ HT1.out
 have c2:y1.cell? ⟨w.heap.size,2,none⟩=some (.string nm):=cW0 y1 _ 2 _ _ _ HT1.out
 have c3:y1.cell? ⟨w.heap.size,3,none⟩=some (.slice colA cols.length colC):=cW0 y1 _ 3 _ _ _ HT1.out
 have c4:y1.cell? ⟨w.heap.size,4,none⟩=some (.slice keyA key.length keyC):=cW0 y1 _ 4 _ _ _ HT1.out
 have c5:y1.cell? ⟨w.heap.size,5,none⟩=some (.slice forA fors.length forC):=cW0 y1 _ 5 _ _ _ HT1.out
 have c6:y1.cell? ⟨w.heap.size,6,none⟩=some (.slice chkA chks.length chkC):=cW0 y1 _ 6 _ _ _ HT1.out
 have c7:y1.cell? ⟨w.heap.size,7,none⟩=some (.int .i64 x1):=cW0 y1 _ 7 _ _ _ HT1.out
 have c8:y1.cell? ⟨w.heap.size,8,none⟩=some (.string x2):=cW0 y1 _ 8 _ _ _ HT1.out
 have c9:y1.cell? ⟨w.heap.size,9,none⟩=some (.string x3):=cW0 y1 _ 9 _ _ _ HT1.out
 have c10:y1.cell? ⟨w.heap.size,10,none⟩=some (.string x4):=cW0 y1 _ 10 _ _ _ HT1.out
 have c11:y1.cell? ⟨w.heap.size,11,none⟩=some (.int .i64 x5):=cW0 y1 _ 11 _ _ _ HT1.out
 have c12:y1.cell? ⟨w.heap.size,12,none⟩=some (.bool x6):=cW0 y1 _ 12 _ _ _ HT1.out
 have c13:y1.cell? ⟨w.heap.size,13,none⟩=some (.int .i64 x7):=cW0 y1 _ 13 _ _ _ HT1.out
 have c14:y1.cell? ⟨w.heap.size,14,none⟩=some (.int .i64 x8):=cW0 y1 _ 14 _ _ _ HT1.out
 have c15:y1.cell? ⟨w.heap.size,15,none⟩=some (.string x9):=cW0 y1 _ 15 _ _ _ HT1.out
 by_cases hk:x1=0
 case pos=>
  subst hk
  have HR2:Hid (rs=(C.zero&&(v3&&(nm.toList==tb.toList)))):=hI0 (by rw [HR.out];rfl)
  go_upto_region 4 with (fail)
  cases e0:x2.toList.isEmpty
  case false=>
   have HF:Hid (rs=false):=hI0 (by rw [HR2.out,HCZ.out];simp [e0])
   go_wp2_with fail
   go_ret
   exact ⟨by rw [HF.out];rfl,HB1.out⟩
  cases e1:x3.toList.isEmpty
  case false=>
   have HF:Hid (rs=false):=hI0 (by rw [HR2.out,HCZ.out];simp [e1])
   go_wp2_with fail
   go_ret
   exact ⟨by rw [HF.out];rfl,HB1.out⟩
  cases e2:x4.toList.isEmpty
  case false=>
   have HF:Hid (rs=false):=hI0 (by rw [HR2.out,HCZ.out];simp [e2])
   go_wp2_with fail
   go_ret
   exact ⟨by rw [HF.out];rfl,HB1.out⟩
  by_cases e3:x5=0
  case neg=>
   have HF:Hid (rs=false):=hI0 (by rw [HR2.out,HCZ.out];simp [e3])
   go_wp2_with fail
   go_ret
   exact ⟨by rw [HF.out];rfl,HB1.out⟩
  subst e3
  cases x6
  case true=>
   have HF:Hid (rs=false):=hI0 (by rw [HR2.out,HCZ.out];simp [Bool.not_true])
   go_wp2_with fail
   go_ret
   exact ⟨by rw [HF.out];rfl,HB1.out⟩
  by_cases e5:x7=0
  case neg=>
   have HF:Hid (rs=false):=hI0 (by rw [HR2.out,HCZ.out];simp [e5])
   go_wp2_with fail
   go_ret
   exact ⟨by rw [HF.out];rfl,HB1.out⟩
  subst e5
  by_cases e6:x8=0
  case neg=>
   have HF:Hid (rs=false):=hI0 (by rw [HR2.out,HCZ.out];simp [e6])
   go_wp2_with fail
   go_ret
   exact ⟨by rw [HF.out];rfl,HB1.out⟩
  subst e6
  cases e7:x9.toList.isEmpty
  case false=>
   have HF:Hid (rs=false):=hI0 (by rw [HR2.out,HCZ.out];simp [e7])
   go_wp2_with fail
   go_ret
   exact ⟨by rw [HF.out];rfl,HB1.out⟩
  have HR3:Hid (rs=(v3&&(nm.toList==tb.toList))):=hI0 (by rw [HR2.out,HCZ.out];simp [e0,e1,e2,e7])
  have K3:=K3 y1 HB1.out
  go_wp2_with fail
  (with_reducible refine K3.mono ?_)
  rintro _ y2 ⟨rfl,hz⟩
  have HB2:Hid (Below w.heap.size w y2):=hI0 (HB1.out.trans (hz.mono HB1.out.size))
  have hT2:=(hz.block _ HL1.out).trans HT1.out
  clear hz K3 c0 c1 c2 c3 c4 c5 c6 c7 c8 c9 c10 c11 c12 c13 c14 c15
  have c1:y2.cell? ⟨w.heap.size,1,none⟩=some (.string tb):=cW0 y2 _ 1 _ _ _ hT2
  have c2:y2.cell? ⟨w.heap.size,2,none⟩=some (.string nm):=cW0 y2 _ 2 _ _ _ hT2
  clear hT2
  cases v3
  case false=>
   go_wp2_with fail
   go_ret
   exact ⟨by rw [HR3.out];rfl,HB2.out⟩
  cases eq1:(nm.toList==tb.toList)
  all_goals
   have HR4:Hid (rs=(nm.toList==tb.toList)):=hI0 (by rw [HR3.out];rfl)
   rw [eq1] at HR4
   go_wp2_with fail
   go_ret
   exact ⟨by rw [HR4.out];rfl,HB2.out⟩
 have HR2:Hid (rs=(v5&&v4)):=hI0 (by rw [HR.out,if_neg hk];rfl)
 have K5:=K5 y1
 go_upto_region 5 with (fail)
 clear hk
 go_wp2_with fail
 (with_reducible refine K5.mono ?_)
 rintro _ y2 ⟨rfl,hz⟩
 have HB2:Hid (Below w.heap.size w y2):=hI0 (HB1.out.trans (hz.mono HB1.out.size))
 have hT2:=(hz.block _ HL1.out).trans HT1.out
 clear hz K5 c0 c1 c2 c3 c4 c5 c6 c7 c8 c9 c10 c11 c12 c13 c14 c15
 have c2:y2.cell? ⟨w.heap.size,2,none⟩=some (.string nm):=cW0 y2 _ 2 _ _ _ hT2
 have c3:y2.cell? ⟨w.heap.size,3,none⟩=some (.slice colA cols.length colC):=cW0 y2 _ 3 _ _ _ hT2
 have c4:y2.cell? ⟨w.heap.size,4,none⟩=some (.slice keyA key.length keyC):=cW0 y2 _ 4 _ _ _ hT2
 have c5:y2.cell? ⟨w.heap.size,5,none⟩=some (.slice forA fors.length forC):=cW0 y2 _ 5 _ _ _ hT2
 have c6:y2.cell? ⟨w.heap.size,6,none⟩=some (.slice chkA chks.length chkC):=cW0 y2 _ 6 _ _ _ hT2
 clear hT2
 cases v5
 case false=>
  go_wp2_with fail
  go_ret
  exact ⟨by rw [HR2.out];rfl,HB2.out⟩
 have K4:=K4 y2
 go_wp2_with fail
 (with_reducible refine K4.mono ?_)
 rintro _ y3 ⟨rfl,hz⟩
 have HB3:Hid (Below w.heap.size w y3):=hI0 (HB2.out.trans (hz.mono HB2.out.size))
 clear hz K4 c2 c3 c4 c5 c6
 go_wp2_with fail
 go_ret
 exact ⟨by rw [HR2.out];rfl,HB3.out⟩
end Go.Proofs.YtbfdegkickjbpaaGreat
