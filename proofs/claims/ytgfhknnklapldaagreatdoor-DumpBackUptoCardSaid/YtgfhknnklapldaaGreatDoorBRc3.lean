/-
 Rc3
-/
import Derived.Test.YtgfhknnklapldaaGreatDoorBRc1
namespace Go.Proofs.YtgfhknnklapldaaGreatDoor
open Go.Proofs.Tryz
set_option maxRecDepth 99999
set_option maxHeartbeats 0
open Go.RowKit Go.Lib Go.IntWalk Go.Sort Go.Shelf
theorem zq28 {P:Prop} (h:P:=by
 have HF:Hid (rs=false):=hI0 (by rw [HR1.out,HNO.out (by first|rfl|trivial)];first|rfl|simp)
 go_wp2_with fail
 go_ret
 exact ⟨by rw [HF.out];rfl,HB2.out⟩) : P := h
structure RCol where
 name:ByteArray
 kind:Int
 null:Bool
def RCol.enc (x:RCol):List Value:=[.string x.name,.int .i64 x.kind,.bool x.null]
def RCol.ok (x:RCol):Bool:=nmB x.name&&decide (1≤x.kind∧x.kind≤3)
structure RFor where
 cA:Option Addr
 cc:Nat
 cols:List Int
 table:ByteArray
def RFor.enc (x:RFor):List Value:=[.slice x.cA x.cols.length x.cc,.string x.table]
def RFor.ok (x:RFor):Bool:=ixF x.cols&&nmB x.table
def RFor.is (w:World) (F:Nat→Prop) (x:RFor):Prop:=RdE 1 intE w F (.slice x.cA x.cols.length x.cc) x.cols
structure RTab where
 name:ByteArray
 colA:Option Addr
 colC:Nat
 cols:List RCol
 keyA:Option Addr
 keyC:Nat
 key:List Int
 forA:Option Addr
 forC:Nat
 fors:List RFor
 chkA:Option Addr
 chkC:Nat
 chks:List RE
def RTab.enc (t:RTab):List Value:=[.string t.name,.slice t.colA t.cols.length t.colC,.slice t.keyA t.key.length t.keyC,.slice t.forA t.fors.length t.forC,.slice t.chkA t.chks.length t.chkC]
structure RTab.is (w:World) (F:Nat→Prop) (t:RTab):Prop where
 cols:RdE 3 RCol.enc w F (.slice t.colA t.cols.length t.colC) t.cols
 key:RdE 1 intE w F (.slice t.keyA t.key.length t.keyC) t.key
 fors:RdE 2 RFor.enc w F (.slice t.forA t.fors.length t.forC) t.fors
 forI:∀x∈t.fors,x.is w F
 chks:RdE 7 RE.enc w F (.slice t.chkA t.chks.length t.chkC) t.chks
 chkI:∀x∈t.chks,exIs 24 w F x
theorem RTab.is.below {w w':World} {t:RTab} (h:t.is w (ltw w)) (hb:Bl w w'):t.is w' (ltw w'):=
 ⟨h.cols.below hb,h.key.below hb,h.fors.below hb,fun x hx=>RdE.below (h.forI x hx) hb,h.chks.below hb,fun x hx=>exIs_below hb 24 x (h.chkI x hx)⟩
def RTab.ok (t:RTab):Bool:=nmB t.name&&(decide (1≤(t.cols.length:Int)∧(t.cols.length:Int)≤12)&&(ixF t.key&&(decide (t.fors.length≤4)&&(decide (t.chks.length≤4)&&(t.cols.all RCol.ok&&(t.fors.all RFor.ok&&t.chks.all (okX 24)))))))
theorem RdE.bd {α:Type} {K:Nat} {enc:α→List Value} {w:World} {F:Nat→Prop} {A:Option Addr} {c:Nat} {l:List α} (h:RdE K enc w F (.slice A l.length c) l):l.length≤c∧c≤9223372036854775807:=by
 obtain ⟨A0,c0,hAc,n1,n2,n3⟩:=Rd.open_ (show Rd w F K (.slice A l.length c) l.length (l.flatMap enc) from h)
 simp only [Value.slice.injEq] at hAc
 obtain ⟨rfl,-,rfl⟩:=hAc
 unfold maxLen at n2
 exact ⟨n1,by omega⟩
theorem storedTable_any (t:RTab) (w:World) (ht:t.is w (ltw w)):Calls prog 155 #[.agg t.enc.toArray] w fun e w'=>e=.returned (.bool t.ok)∧Bl w w':=by
 have HI0:=hI0 ht
 obtain ⟨nm,colA,colC,cols,keyA,keyC,key,forA,forC,fors,chkA,chkC,chks⟩:=t
 have HI:Hid (RTab.is w (ltw w) ⟨nm,colA,colC,cols,keyA,keyC,key,forA,forC,fors,chkA,chkC,chks⟩):=HI0
 obtain ⟨a1,a2⟩:=ht.cols.bd
 obtain ⟨b1,b2⟩:=ht.fors.bd
 obtain ⟨c1,c2⟩:=ht.chks.bd
 simp only at a1 a2 b1 b2 c1 c2
 obtain ⟨rs,hrs⟩:=eN0 (RTab.ok ⟨nm,colA,colC,cols,keyA,keyC,key,forA,forC,fors,chkA,chkC,chks⟩)
 rw [←hrs]
 have HR:Hid (rs=(nmB nm&&(decide (1≤(cols.length:Int)∧(cols.length:Int)≤12)&&(ixF key&&(decide (fors.length≤4)&&(decide (chks.length≤4)&&(cols.all RCol.ok&&(fors.all RFor.ok&&chks.all (okX 24))))))))):=hI0 hrs
 show Calls prog 155 #[.agg #[.string nm,.slice colA cols.length colC,.slice keyA key.length keyC,.slice forA fors.length forC,.slice chkA chks.length chkC]] w _
 obtain ⟨W,hW⟩:=eN0 (w.alloc (.cells #[.string nm,.slice colA cols.length colC,.slice keyA key.length keyC,.slice forA fors.length forC,.slice chkA chks.length chkC] 73))
 have hbW:=bN0 hW
 have hT:=hN0 hW
 have hWs:w.heap.size<W.heap.size:=by rw [hW];simp
 have HBW:=hI0 hbW
 have HT:=hI0 hT
 have HWS:=hI0 hWs
 have K1:=word_any nm W
 obtain ⟨v1,hv1⟩:=eN0 (nmB nm)
 obtain ⟨v2,hv2⟩:=eN0 (decide (1≤(cols.length:Int)∧(cols.length:Int)≤12))
 obtain ⟨v3,hv3⟩:=eN0 (ixF key)
 have K2:=fun V=>within_any (cols.length:Int) 1 12 V
 have K3:=fun V (h:Bl w V)=>indexes_any _ key V (HI.out.key.below h)
 rw [←hv1] at K1 HR
 rw [←hv2] at K2 HR
 rw [←hv3] at K3 HR
 obtain ⟨c0,c1,c2,c3,c4⟩:=cX5 hT
 clear hbW hT hWs hv1 hv2 hv3 hrs ht HI0
 go_in
 go_wp2_with fail
 rw [←hW]
 clear hW
 (with_reducible refine K1.mono ?_)
 rintro _ y1 ⟨rfl,hz⟩
 have HB2:=bT0 HBW hz
 have HT2:=hI0 ((hz.block _ HWS.out).trans HT.out)
 clear hz K1 c0 c1 c2 c3 c4
 obtain ⟨c0,c1,c2,c3,c4⟩:=cX5 HT2.out
 cases v1
 case false=>
  go_wp2_with fail
  go_ret
  exact ⟨by rw [HR.out];rfl,HB2.out⟩
 have K2:=K2 y1
 go_wp2_with fail
 (with_reducible refine K2.mono ?_)
 rintro _ z1 ⟨rfl,hz⟩
 rw [hz]
 clear hz z1 K2
 cases v2
 case false=>
  go_wp2_with fail
  go_ret
  exact ⟨by rw [HR.out];rfl,HB2.out⟩
 have K3:=K3 y1 HB2.out
 go_wp2_with fail
 (with_reducible refine K3.mono ?_)
 rintro _ z1 ⟨rfl,hz⟩
 rw [hz]
 clear hz z1 K3
 cases v3
 case false=>
  go_wp2_with fail
  go_ret
  exact ⟨by rw [HR.out];rfl,HB2.out⟩
 by_cases h4:fors.length≤4
 case neg=>
  have h4i:(4:Int)<(fors.length:Int):=by omega
  have HF:Hid (rs=false):=hI0 (by rw [HR.out];simp [h4])
  go_wp2_with fail
  go_ret
  exact ⟨by rw [HF.out];rfl,HB2.out⟩
 have h4i:¬(4:Int)<(fors.length:Int):=by omega
 by_cases h5:chks.length≤4
 case neg=>
  have h5i:(4:Int)<(chks.length:Int):=by omega
  have HF:Hid (rs=false):=hI0 (by rw [HR.out];simp [h5])
  go_wp2_with fail
  go_ret
  exact ⟨by rw [HF.out];rfl,HB2.out⟩
 have h5i:¬(4:Int)<(chks.length:Int):=by omega
 have HR1:Hid (rs=(cols.all RCol.ok&&(fors.all RFor.ok&&chks.all (okX 24)))):=hI0 (by rw [HR.out];simp [h4,h5])
 have HB3:Hid (Bl w y1∧True):=hI0 ⟨HB2.out,trivial⟩
 clear h4 h5
 go_wp2_with fail
 clear h4i h5i c0 c1 c2 c3 c4
 go_loopw [41] (fun i wr=>∃j:Nat,i=.int .i64 (j:Int)∧j≤cols.length∧Hid ((cols.take j).all RCol.ok=true)∧Hid (Bl w wr)∧Hid (wr.heap[w.heap.size]? =some (.cells #[.string nm,.slice colA cols.length colC,.slice keyA key.length keyC,.slice forA fors.length forC,.slice chkA chks.length chkC] 73 (0,0)))) (fun i _=>cols.length-(intOf i).toNat)
 case atStart=>exact ⟨0,rfl,Nat.zero_le _,hI0 rfl,HB2,HT2⟩
 obtain ⟨j,rfl,hj,HG,HB,HTB⟩:=hrel
 obtain ⟨wi,rfl⟩:=eN0 wr
 by_cases hltj:j<cols.length
 case pos=>
  have hlt3:(j:Int)<(cols.length:Int):=by omega
  obtain ⟨b,off,rfl,hF,hcl⟩:=RdE.at_ (K:=3) (enc:=RCol.enc) (fun _=>rfl) (by omega) (HI.out.cols.below HB.out) hltj
  have hcx:=hcl j hltj
  have hs:=fun h=>allP_snoc' (p:=RCol.ok) hltj HG.out h
  have hno:=allP_no (p:=RCol.ok) hltj
  have hmem:=List.getElem_mem hltj
  obtain ⟨x,hx⟩:=eN0 (cols[j])
  rw [←hx] at hcx hno hmem
  have hs2:RCol.ok x=true→(cols.take (j+1)).all RCol.ok=true:=fun h=>hs (by rw [←hx];exact h)
  clear hs hx hcl hF
  obtain ⟨n1,k1,b1⟩:=x
  obtain ⟨g0,g1,g2⟩:=cK3 hcx (show _=[.string n1,.int .i64 k1,.bool b1] from rfl)
  obtain ⟨W1,hW1⟩:=eN0 (wi.alloc (.cells #[.string n1,.int .i64 k1,.bool b1] 75))
  have hb1:=bN0 hW1
  have hX1:=hN0 hW1
  have HX1:=hI0 hX1
  have HL1:Hid (wi.heap.size<W1.heap.size):=hI0 (by rw [hW1];simp)
  have HB1:=bT0 HB hb1
  have HTB1:=hI0 ((hb1.block w.heap.size (gL0 HTB.out)).trans HTB.out)
  clear hcx hb1 hX1
  have K1:=word_any n1 W1
  have K2:=fun V=>within_any k1 1 3 V
  obtain ⟨v1,hv1⟩:=eN0 (nmB n1)
  obtain ⟨v2,hv2⟩:=eN0 (decide (1≤k1∧k1≤3))
  have hok:RCol.ok ⟨n1,k1,b1⟩=(v1&&v2):=by rw [hv1,hv2];rfl
  rw [hok] at hno hs2
  rw [←hv1] at K1
  rw [←hv2] at K2
  have HS:=hI0 hs2
  have HNO:=hI0 hno
  clear hs2 hno hok hv1 hv2 hmem
  go_wp2_with fail
  rw [←hW1]
  clear hW1 g0 g1 g2
  (with_reducible refine K1.mono ?_)
  rintro _ z1 ⟨rfl,hz⟩
  have HTB2:=hI0 ((hz.block w.heap.size (gL0 HTB1.out)).trans HTB1.out)
  have HB2:=bT0 HB1 hz
  have hX2:=(hz.block _ HL1.out).trans HX1.out
  have q1:=cW1 1 hX2 rfl
  clear hz hX2 K1
  cases v1
  case false=>
   exact zq28
  have K2:=K2 z1
  go_wp2_with fail
  (with_reducible refine K2.mono ?_)
  rintro _ z2 ⟨rfl,hz⟩
  rw [hz]
  clear hz z2 K2 q1
  cases v2
  case false=>
   exact zq28
  have HN:Hid ((cols.take (j+1)).all RCol.ok=true):=hI0 (HS.out (by first|rfl|trivial))
  go_wp2_with fail
  go_roundw
  case rel=>exact ⟨j+1,by go_num,hltj,HN,HB2,HTB2⟩
  case measure=>simp [intOf];omega
 have hlt3:¬(j:Int)<(cols.length:Int):=by omega
 have HR2:Hid (rs=(fors.all RFor.ok&&chks.all (okX 24))):=hI0 (by
  have h:=HG.out
  rw [List.take_of_length_le (by omega)] at h
  rw [HR1.out,h];rfl)
 have HBx:=HB
 have c3:=cW1 3 HTB.out rfl
 have HTx:=HTB
 go_wp2_with fail
 clear c3
 go_loopw [59] (fun i wr=>∃j:Nat,i=.int .i64 (j:Int)∧j≤fors.length∧Hid ((fors.take j).all RFor.ok=true)∧Hid (Bl w wr)∧Hid (wr.heap[w.heap.size]? =some (.cells #[.string nm,.slice colA cols.length colC,.slice keyA key.length keyC,.slice forA fors.length forC,.slice chkA chks.length chkC] 73 (0,0)))) (fun i _=>fors.length-(intOf i).toNat)
 case atStart=>exact ⟨0,rfl,Nat.zero_le _,hI0 rfl,HBx,HTx⟩
 obtain ⟨j,rfl,hj,HG,HB,HTB⟩:=hrel
 obtain ⟨wi,rfl⟩:=eN0 wr
 by_cases hltj:j<fors.length
 case pos=>
  have hlt3:(j:Int)<(fors.length:Int):=by omega
  obtain ⟨b,off,rfl,hF,hcl⟩:=RdE.at_ (K:=2) (enc:=RFor.enc) (fun _=>rfl) (by omega) (HI.out.fors.below HB.out) hltj
  have hcx:=hcl j hltj
  have hs:=fun h=>allP_snoc' (p:=RFor.ok) hltj HG.out h
  have hno:=allP_no (p:=RFor.ok) hltj
  have hmem:=List.getElem_mem hltj
  obtain ⟨x,hx⟩:=eN0 (fors[j])
  rw [←hx] at hcx hno hmem
  have hs2:RFor.ok x=true→(fors.take (j+1)).all RFor.ok=true:=fun h=>hs (by rw [←hx];exact h)
  clear hs hx hcl hF
  obtain ⟨fA,fc,fl,ft⟩:=x
  obtain ⟨g0,g1⟩:=cK2 hcx (show _=[.slice fA fl.length fc,.string ft] from rfl)
  obtain ⟨W1,hW1⟩:=eN0 (wi.alloc (.cells #[.slice fA fl.length fc,.string ft] 158))
  have hb1:=bN0 hW1
  have hX1:=hN0 hW1
  have HX1:=hI0 hX1
  have HL1:Hid (wi.heap.size<W1.heap.size):=hI0 (by rw [hW1];simp)
  have HB1:=bT0 HB hb1
  have HTB1:=hI0 ((hb1.block w.heap.size (gL0 HTB.out)).trans HTB.out)
  clear hcx hb1 hX1
  have hxI:RdE 1 intE wi (ltw wi) (.slice fA fl.length fc) fl:=(HI.out.below HB.out).forI _ hmem
  have hxI1:RdE 1 intE W1 (ltw W1) (.slice fA fl.length fc) fl:=hxI.below (by rw [hW1];exact Below.of_alloc _)
  have K1:=indexes_any _ fl W1 hxI1
  have K2:=word_any ft W1
  obtain ⟨v1,hv1⟩:=eN0 (ixF fl)
  obtain ⟨v2,hv2⟩:=eN0 (nmB ft)
  have hok:RFor.ok ⟨fA,fc,fl,ft⟩=(v1&&v2):=by rw [hv1,hv2];rfl
  rw [hok] at hno hs2
  rw [←hv1] at K1
  rw [←hv2] at K2
  have HS:=hI0 hs2
  have HNO:=hI0 hno
  have q1:=cW1 1 HX1.out rfl
  clear hs2 hno hok hv1 hv2 hmem hxI hxI1
  go_wp2_with fail
  rw [←hW1]
  clear hW1 g0 g1
  (with_reducible refine K1.mono ?_)
  rintro _ z1 ⟨rfl,hz⟩
  rw [hz]
  clear hz z1 K1
  cases v1
  case false=>
   have HF:Hid (rs=false):=hI0 (by rw [HR2.out,HNO.out (by first|rfl|trivial)];first|rfl|simp)
   go_wp2_with fail
   go_ret
   exact ⟨by rw [HF.out];rfl,HB1.out⟩
  go_wp2_with fail
  (with_reducible refine K2.mono ?_)
  rintro _ z2 ⟨rfl,hz⟩
  have HTB2:=hI0 ((hz.block w.heap.size (gL0 HTB1.out)).trans HTB1.out)
  have HB2:=bT0 HB1 hz
  clear hz K2 q1
  cases v2
  case false=>
   have HF:Hid (rs=false):=hI0 (by rw [HR2.out,HNO.out (by first|rfl|trivial)];first|rfl|simp)
   go_wp2_with fail
   go_ret
   exact ⟨by rw [HF.out];rfl,HB2.out⟩
  have HN:Hid ((fors.take (j+1)).all RFor.ok=true):=hI0 (HS.out (by first|rfl|trivial))
  go_wp2_with fail
  go_roundw
  case rel=>exact ⟨j+1,by go_num,hltj,HN,HB2,HTB2⟩
  case measure=>simp [intOf];omega
 have hlt3:¬(j:Int)<(fors.length:Int):=by omega
 have HR3:Hid (rs=chks.all (okX 24)):=hI0 (by
  have h:=HG.out
  rw [List.take_of_length_le (by omega)] at h
  rw [HR2.out,h];rfl)
 have HBy:=HB
 have c4:=cW1 4 HTB.out rfl
 have HTy:=HTB
 go_wp2_with fail
 clear c4
 go_loopw [77] (fun i wr=>∃j:Nat,i=.int .i64 (j:Int)∧j≤chks.length∧Hid ((chks.take j).all (okX 24)=true)∧Hid (Bl w wr)∧Hid (wr.heap[w.heap.size]? =some (.cells #[.string nm,.slice colA cols.length colC,.slice keyA key.length keyC,.slice forA fors.length forC,.slice chkA chks.length chkC] 73 (0,0)))) (fun i _=>chks.length-(intOf i).toNat)
 case atStart=>exact ⟨0,rfl,Nat.zero_le _,hI0 rfl,HBy,HTy⟩
 obtain ⟨j,rfl,hj,HG,HB,HTB⟩:=hrel
 obtain ⟨wi,rfl⟩:=eN0 wr
 by_cases hltj:j<chks.length
 case pos=>
  have hlt3:(j:Int)<(chks.length:Int):=by omega
  obtain ⟨b,off,rfl,hF,hcl⟩:=RdE.at_ (K:=7) (enc:=RE.enc) RE.enc_length (by omega) (HI.out.chks.below HB.out) hltj
  have hcx:=hcl j hltj
  have hs:=fun h=>allP_snoc' (p:=(okX 24)) hltj HG.out h
  have hno:=allP_no (p:=(okX 24)) hltj
  have hmem:=List.getElem_mem hltj
  obtain ⟨x,hx⟩:=eN0 (chks[j])
  rw [←hx] at hcx hno hmem
  have hs2:(okX 24) x=true→(chks.take (j+1)).all (okX 24)=true:=fun h=>hs (by rw [←hx];exact h)
  clear hs hx hcl hF
  obtain ⟨op2,it2,⟨vk2,vi2,vs2⟩,nm2,A2,c2,args2⟩:=x
  obtain ⟨g0,g1,g2,g3,g4,g5,g6⟩:=cK7 hcx (show _=[.int .i64 op2,.int .i64 it2,.int .i64 vk2,.int .i64 vi2,.string vs2,.string nm2,.slice A2 args2.length c2] from rfl)
  obtain ⟨W1,hW1⟩:=eN0 (wi.alloc (.cells #[.int .i64 op2,.int .i64 it2,.int .i64 vk2,.int .i64 vi2,.string vs2,.string nm2,.slice A2 args2.length c2] 117))
  have hb1:=bN0 hW1
  have hX1:=hN0 hW1
  have HX1:=hI0 hX1
  have HL1:Hid (wi.heap.size<W1.heap.size):=hI0 (by rw [hW1];simp)
  have HB1:=bT0 HB hb1
  have HTB1:=hI0 ((hb1.block w.heap.size (gL0 HTB.out)).trans HTB.out)
  clear hcx hb1 hX1
  have hxI:=HI.out.chkI _ hmem
  have KX:Calls prog 206 #[.agg #[.int .i64 op2,.int .i64 it2,.int .i64 vk2,.int .i64 vi2,.string vs2,.string nm2,.slice A2 args2.length c2],.int .i64 1] W1 fun x w'=>x=.returned (.bool (okX 24 (.mk op2 it2 ⟨vk2,vi2,vs2⟩ nm2 A2 c2 args2)))∧Bl W1 w':=storedExpr_any 24 (.mk op2 it2 ⟨vk2,vi2,vs2⟩ nm2 A2 c2 args2) 1 W1 (by omega) (by omega) (exIs_below HB1.out 24 _ hxI)
  obtain ⟨v1,hv1⟩:=eN0 (okX 24 (.mk op2 it2 ⟨vk2,vi2,vs2⟩ nm2 A2 c2 args2))
  rw [←hv1] at KX hno hs2
  have HS:=hI0 hs2
  have HNO:=hI0 hno
  clear hs2 hno hv1 hmem hxI
  go_wp2_with fail
  rw [←hW1]
  clear hW1 g0 g1 g2 g3 g4 g5 g6
  (with_reducible refine KX.mono ?_)
  rintro _ z1 ⟨rfl,hz⟩
  have HTB2:=hI0 ((hz.block w.heap.size (gL0 HTB1.out)).trans HTB1.out)
  have HB2:=bT0 HB1 hz
  clear hz KX
  cases v1
  case false=>
   have HF:Hid (rs=false):=hI0 (by rw [HR3.out,HNO.out (by first|rfl|trivial)])
   go_wp2_with fail
   go_ret
   exact ⟨by rw [HF.out];rfl,HB2.out⟩
  have HN:Hid ((chks.take (j+1)).all (okX 24)=true):=hI0 (HS.out (by first|rfl|trivial))
  go_wp2_with fail
  go_roundw
  case rel=>exact ⟨j+1,by go_num,hltj,HN,HB2,HTB2⟩
  case measure=>simp [intOf];omega
 have hlt3:¬(j:Int)<(chks.length:Int):=by omega
 have HE:Hid (rs=true):=hI0 (by
  have h:=HG.out
  rw [List.take_of_length_le (by omega)] at h
  rw [HR3.out,h])
 go_wp2_with fail
 go_ret
 exact ⟨by rw [HE.out];rfl,HB.out⟩
def RTab.few (t:RTab):Prop:=t.cols.length≤10000000000∧t.key.length≤10000000000∧t.fors.length≤10000000000∧t.chks.length≤10000000000
def RTab.blank (t:RTab):Bool:=t.name.toList.isEmpty&&decide (t.cols.length+t.key.length+t.fors.length+t.chks.length=0)
theorem blank_any (t:RTab) (w:World) (ht:t.few):Calls prog 157 #[.agg t.enc.toArray] w fun e w'=>e=.returned (.bool t.blank)∧Bl w w':=by
 obtain ⟨nm,colA,colC,cols,keyA,keyC,key,forA,forC,fors,chkA,chkC,chks⟩:=t
 obtain ⟨h1,h2,h3,h4⟩:=ht
 simp only at h1 h2 h3 h4
 show Calls prog 157 #[.agg #[.string nm,.slice colA cols.length colC,.slice keyA key.length keyC,.slice forA fors.length forC,.slice chkA chks.length chkC]] w fun e w'=>e=.returned (.bool (nm.toList.isEmpty&&decide (cols.length+key.length+fors.length+chks.length=0)))∧Bl w w'
 generalize cols.length=a at *
 generalize key.length=b at *
 generalize fors.length=c at *
 generalize chks.length=d at *
 cases hem:nm.toList.isEmpty
 case false=>
  go_in
  go_wp2_with fail
  go_ret
  exact ⟨by simp,Below.of_alloc _⟩
 by_cases h0:a+b+c+d=0
 ·have e1:a=0:=by omega
  have e2:b=0:=by omega
  have e3:c=0:=by omega
  have e4:d=0:=by omega
  subst e1;subst e2;subst e3;subst e4
  clear h0 h1 h2 h3 h4
  go_in
  go_wp2_with fail
  go_ret
  exact ⟨by simp,Below.of_alloc _⟩
 ·have HF:Hid (decide (a+b+c+d=0)=false):=hI0 (decide_eq_false h0)
  rw [HF.out]
  have i1:(a:Int)+(b:Int)≤9223372036854775807:=by omega
  have i2:(a:Int)+(b:Int)+(c:Int)≤9223372036854775807:=by omega
  have i3:(a:Int)+(b:Int)+(c:Int)+(d:Int)≤9223372036854775807:=by omega
  have i4:¬(a:Int)+(b:Int)+(c:Int)+(d:Int)=0:=by omega
  go_in
  go_wp2_with fail
  go_ret
  exact ⟨by first|(simp;done)|(simp;omega),Below.of_alloc _⟩
structure REn where
 time:Int
 table:ByteArray
 create:RTab
 change:Chn
def REn.enc (x:REn):List Value:=[.int .i64 x.time,.string x.table]++x.create.enc++x.change.enc
def Chn.zero (x:Chn):Bool:=decide (x.kind=0)&&(x.name.toList.isEmpty&&(x.to.toList.isEmpty&&(x.cname.toList.isEmpty&&(decide (x.ckind=0)&&(!x.cnull&&(decide (x.def_.kind=0)&&(decide (x.def_.int=0)&&x.def_.text.toList.isEmpty)))))))
def REn.ok (x:REn):Bool:=instB x.time&&(nmB x.table&&(if x.change.kind=0 then x.change.zero&&(x.create.ok&&(x.create.name.toList==x.table.toList)) else x.change.ok&&x.create.blank))
theorem validEntry_any (x:REn) (w:World) (ht:x.create.is w (ltw w)) (hf:x.create.few) (hs:x.change.def_.text.size≤maxLen):Calls prog 107 #[.agg x.enc.toArray] w fun e w'=>e=.returned (.bool x.ok)∧Bl w w':=by
 obtain ⟨tm,tb,⟨nm,colA,colC,cols,keyA,keyC,key,forA,forC,fors,chkA,chkC,chks⟩,⟨x1,x2,x3,x4,x5,x6,⟨x7,x8,x9⟩⟩⟩:=x
 simp only at ht hf hs
 obtain ⟨rs,hrs⟩:=eN0 (REn.ok ⟨tm,tb,⟨nm,colA,colC,cols,keyA,keyC,key,forA,forC,fors,chkA,chkC,chks⟩,⟨x1,x2,x3,x4,x5,x6,⟨x7,x8,x9⟩⟩⟩)
 rw [←hrs]
 obtain ⟨T,hTe⟩:=eN0 (⟨nm,colA,colC,cols,keyA,keyC,key,forA,forC,fors,chkA,chkC,chks⟩:RTab)
 obtain ⟨C,hCe⟩:=eN0 (⟨x1,x2,x3,x4,x5,x6,⟨x7,x8,x9⟩⟩:Chn)
 have HR:Hid (rs=(instB tm&&(nmB tb&&(if x1=0 then C.zero&&(T.ok&&(nm.toList==tb.toList)) else C.ok&&T.blank)))):=hI0 (by rw [hrs,hTe,hCe];rfl)
 show Calls prog 107 #[.agg #[.int .i64 tm,.string tb,.string nm,.slice colA cols.length colC,.slice keyA key.length keyC,.slice forA fors.length forC,.slice chkA chks.length chkC,.int .i64 x1,.string x2,.string x3,.string x4,.int .i64 x5,.bool x6,.int .i64 x7,.int .i64 x8,.string x9]] w _
 obtain ⟨W,hW⟩:=eN0 (w.alloc (.cells #[.int .i64 tm,.string tb,.string nm,.slice colA cols.length colC,.slice keyA key.length keyC,.slice forA fors.length forC,.slice chkA chks.length chkC,.int .i64 x1,.string x2,.string x3,.string x4,.int .i64 x5,.bool x6,.int .i64 x7,.int .i64 x8,.string x9] 79))
 have hbW:=bN0 hW
 have hT:=hN0 hW
 have hWs:w.heap.size<W.heap.size:=by rw [hW];simp
 have HBW:=hI0 hbW
 have HT:=hI0 hT
 have HWS:=hI0 hWs
 have K1:=instant_any tm W
 have K2:=word_any tb W
 have K3:∀V,Bl w V→Calls prog 155 #[.agg #[.string nm,.slice colA cols.length colC,.slice keyA key.length keyC,.slice forA fors.length forC,.slice chkA chks.length chkC]] V fun e w'=>e=.returned (.bool T.ok)∧Bl V w':=fun V hV=>by rw [hTe];exact storedTable_any ⟨nm,colA,colC,cols,keyA,keyC,key,forA,forC,fors,chkA,chkC,chks⟩ V (ht.below hV)
 have K4:∀V,Calls prog 157 #[.agg #[.string nm,.slice colA cols.length colC,.slice keyA key.length keyC,.slice forA fors.length forC,.slice chkA chks.length chkC]] V fun e w'=>e=.returned (.bool T.blank)∧Bl V w':=fun V=>by rw [hTe];exact blank_any ⟨nm,colA,colC,cols,keyA,keyC,key,forA,forC,fors,chkA,chkC,chks⟩ V hf
 have K5:∀V,Calls prog 156 #[.agg #[.int .i64 x1,.string x2,.string x3,.string x4,.int .i64 x5,.bool x6,.int .i64 x7,.int .i64 x8,.string x9]] V fun e w'=>e=.returned (.bool C.ok)∧Bl V w':=fun V=>by rw [hCe];exact storedChange_any x1 x2 x3 x4 x5 x6 x7 x8 x9 V hs
 have HCZ:Hid (C.zero=(decide (x1=0)&&(x2.toList.isEmpty&&(x3.toList.isEmpty&&(x4.toList.isEmpty&&(decide (x5=0)&&(!x6&&(decide (x7=0)&&(decide (x8=0)&&x9.toList.isEmpty))))))))):=hI0 (by rw [hCe];rfl)
 obtain ⟨v1,hv1⟩:=eN0 (instB tm)
 obtain ⟨v2,hv2⟩:=eN0 (nmB tb)
 obtain ⟨v3,hv3⟩:=eN0 T.ok
 obtain ⟨v4,hv4⟩:=eN0 T.blank
 obtain ⟨v5,hv5⟩:=eN0 C.ok
 rw [←hv1] at K1 HR
 rw [←hv2] at K2 HR
 rw [←hv3] at K3 HR
 rw [←hv4] at K4 HR
 rw [←hv5] at K5 HR
 obtain ⟨c0,c1,c2,c3,c4,c5,c6,c7,c8,c9,c10,c11,c12,c13,c14,c15⟩:=cX16 hT
 clear hbW hT hWs hv1 hv2 hv3 hv4 hv5 hrs ht hf hs hTe hCe
 go_in
 go_wp2_with fail
 rw [←hW]
 clear hW
 (with_reducible refine K1.mono ?_)
 rintro _ z1 ⟨rfl,hz⟩
 rw [hz]
 clear hz z1 K1
 cases v1
 case false=>
  go_wp2_with fail
  go_ret
  exact ⟨by rw [HR.out];rfl,HBW.out⟩
 go_wp2_with fail
 (with_reducible refine K2.mono ?_)
 rintro _ y1 ⟨rfl,hz⟩
 have HB1:=bT0 HBW hz
 have HT1:=hI0 ((hz.block _ HWS.out).trans HT.out)
 have HL1:Hid (w.heap.size<y1.heap.size):=hI0 (by have:=HWS.out;have:=hz.size;omega)
 clear hz K2 c0 c1 c2 c3 c4 c5 c6 c7 c8 c9 c10 c11 c12 c13 c14 c15
 cases v2
 case false=>
  go_wp2_with fail
  go_ret
  exact ⟨by rw [HR.out];rfl,HB1.out⟩
 obtain ⟨c0,c1,c2,c3,c4,c5,c6,c7,c8,c9,c10,c11,c12,c13,c14,c15⟩:=cX16 HT1.out
 by_cases hk:x1=0
 case pos=>
  subst hk
  have HR2:Hid (rs=(C.zero&&(v3&&(nm.toList==tb.toList)))):=hI0 (by rw [HR.out];rfl)
  go_upto_region 4 with (fail)
  cases e0:x2.toList.isEmpty
  case false=>
   have HF:Hid (rs=false):=hI0 (by rw [HR2.out,HCZ.out];simp [e0])
   go_wp2_with fail
   go_ret
   exact ⟨by rw [HF.out];rfl,HB1.out⟩
  cases e1:x3.toList.isEmpty
  case false=>
   have HF:Hid (rs=false):=hI0 (by rw [HR2.out,HCZ.out];simp [e1])
   go_wp2_with fail
   go_ret
   exact ⟨by rw [HF.out];rfl,HB1.out⟩
  cases e2:x4.toList.isEmpty
  case false=>
   have HF:Hid (rs=false):=hI0 (by rw [HR2.out,HCZ.out];simp [e2])
   go_wp2_with fail
   go_ret
   exact ⟨by rw [HF.out];rfl,HB1.out⟩
  by_cases e3:x5=0
  case neg=>
   have HF:Hid (rs=false):=hI0 (by rw [HR2.out,HCZ.out];simp [e3])
   go_wp2_with fail
   go_ret
   exact ⟨by rw [HF.out];rfl,HB1.out⟩
  subst e3
  cases x6
  case true=>
   have HF:Hid (rs=false):=hI0 (by rw [HR2.out,HCZ.out];simp [Bool.not_true])
   go_wp2_with fail
   go_ret
   exact ⟨by rw [HF.out];rfl,HB1.out⟩
  by_cases e5:x7=0
  case neg=>
   have HF:Hid (rs=false):=hI0 (by rw [HR2.out,HCZ.out];simp [e5])
   go_wp2_with fail
   go_ret
   exact ⟨by rw [HF.out];rfl,HB1.out⟩
  subst e5
  by_cases e6:x8=0
  case neg=>
   have HF:Hid (rs=false):=hI0 (by rw [HR2.out,HCZ.out];simp [e6])
   go_wp2_with fail
   go_ret
   exact ⟨by rw [HF.out];rfl,HB1.out⟩
  subst e6
  cases e7:x9.toList.isEmpty
  case false=>
   have HF:Hid (rs=false):=hI0 (by rw [HR2.out,HCZ.out];simp [e7])
   go_wp2_with fail
   go_ret
   exact ⟨by rw [HF.out];rfl,HB1.out⟩
  have HR3:Hid (rs=(v3&&(nm.toList==tb.toList))):=hI0 (by rw [HR2.out,HCZ.out];simp [e0,e1,e2,e7])
  have K3:=K3 y1 HB1.out
  go_wp2_with fail
  (with_reducible refine K3.mono ?_)
  rintro _ y2 ⟨rfl,hz⟩
  have HB2:=bT0 HB1 hz
  have hT2:=(hz.block _ HL1.out).trans HT1.out
  clear hz K3 c0 c1 c2 c3 c4 c5 c6 c7 c8 c9 c10 c11 c12 c13 c14 c15
  have c1:=cW1 1 hT2 rfl
  have c2:=cW1 2 hT2 rfl
  clear hT2
  cases v3
  case false=>
   go_wp2_with fail
   go_ret
   exact ⟨by rw [HR3.out];rfl,HB2.out⟩
  cases eq1:(nm.toList==tb.toList)
  all_goals
   have HR4:Hid (rs=(nm.toList==tb.toList)):=hI0 (by rw [HR3.out];rfl)
   rw [eq1] at HR4
   go_wp2_with fail
   go_ret
   exact ⟨by rw [HR4.out];rfl,HB2.out⟩
 have HR2:Hid (rs=(v5&&v4)):=hI0 (by rw [HR.out,if_neg hk];rfl)
 have K5:=K5 y1
 go_upto_region 5 with (fail)
 clear hk
 go_wp2_with fail
 (with_reducible refine K5.mono ?_)
 rintro _ y2 ⟨rfl,hz⟩
 have HB2:=bT0 HB1 hz
 have hT2:=(hz.block _ HL1.out).trans HT1.out
 clear hz K5 c0 c1 c2 c3 c4 c5 c6 c7 c8 c9 c10 c11 c12 c13 c14 c15
 have c2:=cW1 2 hT2 rfl
 have c3:=cW1 3 hT2 rfl
 have c4:=cW1 4 hT2 rfl
 have c5:=cW1 5 hT2 rfl
 have c6:=cW1 6 hT2 rfl
 clear hT2
 cases v5
 case false=>
  go_wp2_with fail
  go_ret
  exact ⟨by rw [HR2.out];rfl,HB2.out⟩
 have K4:=K4 y2
 go_wp2_with fail
 (with_reducible refine K4.mono ?_)
 rintro _ y3 ⟨rfl,hz⟩
 have HB3:=bT0 HB2 hz
 clear hz K4 c2 c3 c4 c5 c6
 go_wp2_with fail
 go_ret
 exact ⟨by rw [HR2.out];rfl,HB3.out⟩
structure REn.is (w:World) (F:Nat→Prop) (x:REn):Prop where
 create:x.create.is w F
 few:x.create.few
 text:x.change.def_.text.size≤maxLen
theorem REn.is.below {w w':World} {x:REn} (h:x.is w (ltw w)) (hb:Bl w w'):x.is w' (ltw w'):=⟨h.create.below hb,h.few,h.text⟩
end Go.Proofs.YtgfhknnklapldaaGreatDoor
