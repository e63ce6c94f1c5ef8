/-
 Rc2
-/
import Derived.Test.YtbfdegkickjbpaaGreatHRc1
namespace Go.Proofs.YtbfdegkickjbpaaGreat
set_option maxRecDepth 1000000
set_option maxHeartbeats 32000000
theorem zq64 {P:Prop} (h:P:=by
 have HF:Hid (rs=false):=hI0 (by rw [HR1.out,HNO.out (by first|rfl|trivial)];first|rfl|simp)
 go_wp2_with fail
 go_ret
 exact ⟨by rw [HF.out];rfl,HB2.out⟩) : P := h
section
open Go.RowKit Go.Lib Go.IntWalk Go.Sort Go.Shelf
structure RCol where
 name:ByteArray
 kind:Int
 null:Bool
def RCol.enc (x:RCol):List Value:=[.string x.name,.int .i64 x.kind,.bool x.null]
def RCol.ok (x:RCol):Bool:=nmB x.name&&decide (1≤x.kind∧x.kind≤3)
structure RFor where
 cA:Option Addr
 cc:Nat
 cols:List Int
 table:ByteArray
def RFor.enc (x:RFor):List Value:=[.slice x.cA x.cols.length x.cc,.string x.table]
def RFor.ok (x:RFor):Bool:=ixF x.cols&&nmB x.table
def RFor.is (w:World) (F:Nat→Prop) (x:RFor):Prop:=RdE 1 intE w F (.slice x.cA x.cols.length x.cc) x.cols
structure RTab where
 name:ByteArray
 colA:Option Addr
 colC:Nat
 cols:List RCol
 keyA:Option Addr
 keyC:Nat
 key:List Int
 forA:Option Addr
 forC:Nat
 fors:List RFor
 chkA:Option Addr
 chkC:Nat
 chks:List RE
def RTab.enc (t:RTab):List Value:=[.string t.name,.slice t.colA t.cols.length t.colC,.slice t.keyA t.key.length t.keyC,.slice t.forA t.fors.length t.forC,.slice t.chkA t.chks.length t.chkC]
structure RTab.is (w:World) (F:Nat→Prop) (t:RTab):Prop where
 cols:RdE 3 RCol.enc w F (.slice t.colA t.cols.length t.colC) t.cols
 key:RdE 1 intE w F (.slice t.keyA t.key.length t.keyC) t.key
 fors:RdE 2 RFor.enc w F (.slice t.forA t.fors.length t.forC) t.fors
 forI:∀x∈t.fors,x.is w F
 chks:RdE 7 RE.enc w F (.slice t.chkA t.chks.length t.chkC) t.chks
 chkI:∀x∈t.chks,exIs 24 w F x
theorem RTab.is.below {w w':World} {t:RTab} (h:t.is w (·<w.heap.size)) (hb:Below w.heap.size w w'):t.is w' (·<w'.heap.size):=
 ⟨h.cols.below hb,h.key.below hb,h.fors.below hb,fun x hx=>RdE.below (h.forI x hx) hb,h.chks.below hb,fun x hx=>exIs_below hb 24 x (h.chkI x hx)⟩
def RTab.ok (t:RTab):Bool:=nmB t.name&&(decide (1≤(t.cols.length:Int)∧(t.cols.length:Int)≤12)&&(ixF t.key&&(decide (t.fors.length≤4)&&(decide (t.chks.length≤4)&&(t.cols.all RCol.ok&&(t.fors.all RFor.ok&&t.chks.all (okX 24)))))))
theorem RdE.bd {α:Type} {K:Nat} {enc:α→List Value} {w:World} {F:Nat→Prop} {A:Option Addr} {c:Nat} {l:List α} (h:RdE K enc w F (.slice A l.length c) l):l.length≤c∧c≤9223372036854775807:=by
 obtain ⟨A0,c0,hAc,n1,n2,n3⟩:=Rd.open_ (show Rd w F K (.slice A l.length c) l.length (l.flatMap enc) from h)
 simp only [Value.slice.injEq] at hAc
 obtain ⟨rfl,-,rfl⟩:=hAc
 unfold maxLen at n2
 exact ⟨n1,by omega⟩
theorem storedTable_any (t:RTab) (w:World) (ht:t.is w (·<w.heap.size)):Calls Tryz.prog 130 #[.agg t.enc.toArray] w fun e w'=>e=.returned (.bool t.ok)∧Below w.heap.size w w':=by
 have HI0:=hI0 ht
 obtain ⟨nm,colA,colC,cols,keyA,keyC,key,forA,forC,fors,chkA,chkC,chks⟩:=t
 have HI:Hid (RTab.is w (·<w.heap.size) ⟨nm,colA,colC,cols,keyA,keyC,key,forA,forC,fors,chkA,chkC,chks⟩):=HI0
 obtain ⟨a1,a2⟩:=ht.cols.bd
 obtain ⟨b1,b2⟩:=ht.fors.bd
 obtain ⟨c1,c2⟩:=ht.chks.bd
 simp only at a1 a2 b1 b2 c1 c2
 obtain ⟨rs,hrs⟩:∃r,r=RTab.ok ⟨nm,colA,colC,cols,keyA,keyC,key,forA,forC,fors,chkA,chkC,chks⟩:=⟨_,rfl⟩
 rw [←hrs]
 have HR:Hid (rs=(nmB nm&&(decide (1≤(cols.length:Int)∧(cols.length:Int)≤12)&&(ixF key&&(decide (fors.length≤4)&&(decide (chks.length≤4)&&(cols.all RCol.ok&&(fors.all RFor.ok&&chks.all (okX 24))))))))):=hI0 hrs
 show Calls Tryz.prog 130 #[.agg #[.string nm,.slice colA cols.length colC,.slice keyA key.length keyC,.slice forA fors.length forC,.slice chkA chks.length chkC]] w _
 obtain ⟨W,hW⟩:∃W,W=w.alloc (.cells #[.string nm,.slice colA cols.length colC,.slice keyA key.length keyC,.slice forA fors.length forC,.slice chkA chks.length chkC] 75):=⟨_,rfl⟩
 have hbW:Below w.heap.size w W:=by rw [hW];exact Below.of_alloc _
 have hT:W.heap[w.heap.size]? =some (.cells #[.string nm,.slice colA cols.length colC,.slice keyA key.length keyC,.slice forA fors.length forC,.slice chkA chks.length chkC] 75 (0,0)):=by rw [hW];exact heap_alloc_new _ _
 have hWs:w.heap.size<W.heap.size:=by rw [hW];simp
 have HBW:=hI0 hbW
 have HT:=hI0 hT
 have HWS:=hI0 hWs
 have K1:=word_any nm W
 obtain ⟨v1,hv1⟩:∃bo,bo=nmB nm:=⟨_,rfl⟩
 obtain ⟨v2,hv2⟩:∃bo,bo=decide (1≤(cols.length:Int)∧(cols.length:Int)≤12):=⟨_,rfl⟩
 obtain ⟨v3,hv3⟩:∃bo,bo=ixF key:=⟨_,rfl⟩
 have K2:=fun V=>within_any (cols.length:Int) 1 12 V
 have K3:=fun V (h:Below w.heap.size w V)=>indexes_any _ key V (HI.out.key.below h)
 rw [←hv1] at K1 HR
 rw [←hv2] at K2 HR
 rw [←hv3] at K3 HR
 have c0:W.cell? ⟨w.heap.size,0,none⟩=some (.string nm):=cW0 W _ 0 _ _ _ hT
 have c1:W.cell? ⟨w.heap.size,1,none⟩=some (.slice colA cols.length colC):=cW0 W _ 1 _ _ _ hT
 have c2:W.cell? ⟨w.heap.size,2,none⟩=some (.slice keyA key.length keyC):=cW0 W _ 2 _ _ _ hT
 have c3:W.cell? ⟨w.heap.size,3,none⟩=some (.slice forA fors.length forC):=cW0 W _ 3 _ _ _ hT
 have c4:W.cell? ⟨w.heap.size,4,none⟩=some (.slice chkA chks.length chkC):=cW0 W _ 4 _ _ _ hT
 clear hbW hT hWs hv1 hv2 hv3 hrs ht HI0
 go_enter Tryz.func130,Tryz.ntmps130
 go_wp2_with fail
 rw [←hW]
 clear hW
 (with_reducible refine K1.mono ?_)
 rintro _ y1 ⟨rfl,hz⟩
 have HB2:Hid (Below w.heap.size w y1):=hI0 (HBW.out.trans (hz.mono HBW.out.size))
 have HT2:=hI0 ((hz.block _ HWS.out).trans HT.out)
 clear hz K1 c0 c1 c2 c3 c4
 have c0:y1.cell? ⟨w.heap.size,0,none⟩=some (.string nm):=cW0 y1 _ 0 _ _ _ HT2.out
 have c1:y1.cell? ⟨w.heap.size,1,none⟩=some (.slice colA cols.length colC):=cW0 y1 _ 1 _ _ _ HT2.out
 have c2:y1.cell? ⟨w.heap.size,2,none⟩=some (.slice keyA key.length keyC):=cW0 y1 _ 2 _ _ _ HT2.out
 have c3:y1.cell? ⟨w.heap.size,3,none⟩=some (.slice forA fors.length forC):=cW0 y1 _ 3 _ _ _ HT2.out
 have c4:y1.cell? ⟨w.heap.size,4,none⟩=some (.slice chkA chks.length chkC):=cW0 y1 _ 4 _ _ _ HT2.out
 cases v1
 case false=>
  go_wp2_with fail
  go_ret
  exact ⟨by rw [HR.out];rfl,HB2.out⟩
 have K2:=K2 y1
 go_wp2_with fail
 (with_reducible refine K2.mono ?_)
 rintro _ z1 ⟨rfl,hz⟩
 rw [hz]
 clear hz z1 K2
 cases v2
 case false=>
  go_wp2_with fail
  go_ret
  exact ⟨by rw [HR.out];rfl,HB2.out⟩
 have K3:=K3 y1 HB2.out
 go_wp2_with fail
 (with_reducible refine K3.mono ?_)
 rintro _ z1 ⟨rfl,hz⟩
 rw [hz]
 clear hz z1 K3
 cases v3
 case false=>
  go_wp2_with fail
  go_ret
  exact ⟨by rw [HR.out];rfl,HB2.out⟩
 by_cases h4:fors.length≤4
 case neg=>
  have h4i:(4:Int)<(fors.length:Int):=by omega
  have HF:Hid (rs=false):=hI0 (by rw [HR.out];simp [h4])
  go_wp2_with fail
  go_ret
  exact ⟨by rw [HF.out];rfl,HB2.out⟩
 have h4i:¬(4:Int)<(fors.length:Int):=by omega
 by_cases h5:chks.length≤4
 case neg=>
  have h5i:(4:Int)<(chks.length:Int):=by omega
  have HF:Hid (rs=false):=hI0 (by rw [HR.out];simp [h5])
  go_wp2_with fail
  go_ret
  exact ⟨by rw [HF.out];rfl,HB2.out⟩
 have h5i:¬(4:Int)<(chks.length:Int):=by omega
 have HR1:Hid (rs=(cols.all RCol.ok&&(fors.all RFor.ok&&chks.all (okX 24)))):=hI0 (by rw [HR.out];simp [h4,h5])
 have HB3:Hid (Below w.heap.size w y1∧True):=hI0 ⟨HB2.out,trivial⟩
 clear h4 h5
 go_wp2_with fail
 clear h4i h5i c0 c1 c2 c3 c4
 go_loopw [41] (fun i wr=>∃j:Nat,i=.int .i64 (j:Int)∧j≤cols.length∧Hid ((cols.take j).all RCol.ok=true)∧Hid (Below w.heap.size w wr)∧Hid (wr.heap[w.heap.size]? =some (.cells #[.string nm,.slice colA cols.length colC,.slice keyA key.length keyC,.slice forA fors.length forC,.slice chkA chks.length chkC] 75 (0,0)))) (fun i _=>cols.length-(intOf i).toNat)
 case atStart=>exact ⟨0,rfl,Nat.zero_le _,hI0 rfl,HB2,HT2⟩
 obtain ⟨j,rfl,hj,HG,HB,HTB⟩:=hrel
 obtain ⟨wi,rfl⟩:∃wi:World,wi=wr:=⟨_,rfl⟩
 by_cases hltj:j<cols.length
 case pos=>
  have hlt3:(j:Int)<(cols.length:Int):=by omega
  obtain ⟨b,off,rfl,hF,hcl⟩:=RdE.at_ (K:=3) (enc:=RCol.enc) (fun _=>rfl) (by omega) (HI.out.cols.below HB.out) hltj
  have hcx:=hcl j hltj
  have hs:=fun h=>allP_snoc' (p:=RCol.ok) hltj HG.out h
  have hno:=allP_no (p:=RCol.ok) hltj
  have hmem:=List.getElem_mem hltj
  obtain ⟨x,hx⟩:∃x,x=cols[j]:=⟨_,rfl⟩
  rw [←hx] at hcx hno hmem
  have hs2:RCol.ok x=true→(cols.take (j+1)).all RCol.ok=true:=fun h=>hs (by rw [←hx];exact h)
  clear hs hx hcl hF
  obtain ⟨n1,k1,b1⟩:=x
  have g0:wi.cell? ⟨b,off+j*3,none⟩=some (.string n1):=hcx 0 _ (by decide) rfl
  have g1:wi.cell? ⟨b,off+j*3+1,none⟩=some (.int .i64 k1):=hcx 1 _ (by decide) rfl
  have g2:wi.cell? ⟨b,off+j*3+2,none⟩=some (.bool b1):=hcx 2 _ (by decide) rfl
  obtain ⟨W1,hW1⟩:∃W1,W1=wi.alloc (.cells #[.string n1,.int .i64 k1,.bool b1] 77):=⟨_,rfl⟩
  have hb1:Below wi.heap.size wi W1:=by rw [hW1];exact Below.of_alloc _
  have hX1:W1.heap[wi.heap.size]? =some (.cells #[.string n1,.int .i64 k1,.bool b1] 77 (0,0)):=by rw [hW1];exact heap_alloc_new _ _
  have HX1:=hI0 hX1
  have HL1:Hid (wi.heap.size<W1.heap.size):=hI0 (by rw [hW1];simp)
  have HB1:Hid (Below w.heap.size w W1):=hI0 (HB.out.trans (hb1.mono HB.out.size))
  have HTB1:=hI0 ((hb1.block w.heap.size (Array.getElem?_eq_some_iff.1 HTB.out).1).trans HTB.out)
  clear hcx hb1 hX1
  have K1:=word_any n1 W1
  have K2:=fun V=>within_any k1 1 3 V
  obtain ⟨v1,hv1⟩:∃bo,bo=nmB n1:=⟨_,rfl⟩
  obtain ⟨v2,hv2⟩:∃bo,bo=decide (1≤k1∧k1≤3):=⟨_,rfl⟩
  have hok:RCol.ok ⟨n1,k1,b1⟩=(v1&&v2):=by rw [hv1,hv2];rfl
  rw [hok] at hno hs2
  rw [←hv1] at K1
  rw [←hv2] at K2
  have HS:=hI0 hs2
  have HNO:=hI0 hno
  clear hs2 hno hok hv1 hv2 hmem
  go_wp2_with fail
  rw [←hW1]
  clear hW1 g0 g1 g2
  (with_reducible refine K1.mono ?_)
  rintro _ z1 ⟨rfl,hz⟩
  have HTB2:=hI0 ((hz.block w.heap.size (Array.getElem?_eq_some_iff.1 HTB1.out).1).trans HTB1.out)
  have HB2:Hid (Below w.heap.size w z1):=hI0 (HB1.out.trans (hz.mono HB1.out.size))
  have hX2:=(hz.block _ HL1.out).trans HX1.out
  have q1:z1.cell? ⟨wi.heap.size,1,none⟩=some (.int .i64 k1):=cW0 z1 _ 1 _ _ _ hX2
  clear hz hX2 K1
  cases v1
  case false=>
   exact zq64
  have K2:=K2 z1
  go_wp2_with fail
  (with_reducible refine K2.mono ?_)
  rintro _ z2 ⟨rfl,hz⟩
  rw [hz]
  clear hz z2 K2 q1
  cases v2
  case false=>
   exact zq64
  have HN:Hid ((cols.take (j+1)).all RCol.ok=true):=hI0 (HS.out (by first|rfl|trivial))
  go_wp2_with fail
  go_roundw
  case rel=>exact ⟨j+1,by go_num,hltj,HN,HB2,HTB2⟩
  case measure=>simp [intOf];omega
 have hlt3:¬(j:Int)<(cols.length:Int):=by omega
 have HR2:Hid (rs=(fors.all RFor.ok&&chks.all (okX 24))):=hI0 (by
  have h:=HG.out
  rw [List.take_of_length_le (by omega)] at h
  rw [HR1.out,h];rfl)
 have HBx:=HB
 have c3:wi.cell? ⟨w.heap.size,3,none⟩=some (.slice forA fors.length forC):=cW0 wi _ 3 _ _ _ HTB.out
 have HTx:=HTB
 go_wp2_with fail
 clear c3
 go_loopw [59] (fun i wr=>∃j:Nat,i=.int .i64 (j:Int)∧j≤fors.length∧Hid ((fors.take j).all RFor.ok=true)∧Hid (Below w.heap.size w wr)∧Hid (wr.heap[w.heap.size]? =some (.cells #[.string nm,.slice colA cols.length colC,.slice keyA key.length keyC,.slice forA fors.length forC,.slice chkA chks.length chkC] 75 (0,0)))) (fun i _=>fors.length-(intOf i).toNat)
 case atStart=>exact ⟨0,rfl,Nat.zero_le _,hI0 rfl,HBx,HTx⟩
 obtain ⟨j,rfl,hj,HG,HB,HTB⟩:=hrel
 obtain ⟨wi,rfl⟩:∃wi:World,wi=wr:=⟨_,rfl⟩
 by_cases hltj:j<fors.length
 case pos=>
  have hlt3:(j:Int)<(fors.length:Int):=by omega
  obtain ⟨b,off,rfl,hF,hcl⟩:=RdE.at_ (K:=2) (enc:=RFor.enc) (fun _=>rfl) (by omega) (HI.out.fors.below HB.out) hltj
  have hcx:=hcl j hltj
  have hs:=fun h=>allP_snoc' (p:=RFor.ok) hltj HG.out h
  have hno:=allP_no (p:=RFor.ok) hltj
  have hmem:=List.getElem_mem hltj
  obtain ⟨x,hx⟩:∃x,x=fors[j]:=⟨_,rfl⟩
  rw [←hx] at hcx hno hmem
  have hs2:RFor.ok x=true→(fors.take (j+1)).all RFor.ok=true:=fun h=>hs (by rw [←hx];exact h)
  clear hs hx hcl hF
  obtain ⟨fA,fc,fl,ft⟩:=x
  have g0:wi.cell? ⟨b,off+j*2,none⟩=some (.slice fA fl.length fc):=hcx 0 _ (by decide) rfl
  have g1:wi.cell? ⟨b,off+j*2+1,none⟩=some (.string ft):=hcx 1 _ (by decide) rfl
  obtain ⟨W1,hW1⟩:∃W1,W1=wi.alloc (.cells #[.slice fA fl.length fc,.string ft] 278):=⟨_,rfl⟩
  have hb1:Below wi.heap.size wi W1:=by rw [hW1];exact Below.of_alloc _
  have hX1:W1.heap[wi.heap.size]? =some (.cells #[.slice fA fl.length fc,.string ft] 278 (0,0)):=by rw [hW1];exact heap_alloc_new _ _
  have HX1:=hI0 hX1
  have HL1:Hid (wi.heap.size<W1.heap.size):=hI0 (by rw [hW1];simp)
  have HB1:Hid (Below w.heap.size w W1):=hI0 (HB.out.trans (hb1.mono HB.out.size))
  have HTB1:=hI0 ((hb1.block w.heap.size (Array.getElem?_eq_some_iff.1 HTB.out).1).trans HTB.out)
  clear hcx hb1 hX1
  have hxI:RdE 1 intE wi (·<wi.heap.size) (.slice fA fl.length fc) fl:=(HI.out.below HB.out).forI _ hmem
  have hxI1:RdE 1 intE W1 (·<W1.heap.size) (.slice fA fl.length fc) fl:=hxI.below (by rw [hW1];exact Below.of_alloc _)
  have K1:=indexes_any _ fl W1 hxI1
  have K2:=word_any ft W1
  obtain ⟨v1,hv1⟩:∃bo,bo=ixF fl:=⟨_,rfl⟩
  obtain ⟨v2,hv2⟩:∃bo,bo=nmB ft:=⟨_,rfl⟩
  have hok:RFor.ok ⟨fA,fc,fl,ft⟩=(v1&&v2):=by rw [hv1,hv2];rfl
  rw [hok] at hno hs2
  rw [←hv1] at K1
  rw [←hv2] at K2
  have HS:=hI0 hs2
  have HNO:=hI0 hno
  have q1:W1.cell? ⟨wi.heap.size,1,none⟩=some (.string ft):=cW0 W1 _ 1 _ _ _ HX1.out
  clear hs2 hno hok hv1 hv2 hmem hxI hxI1
  go_wp2_with fail
  rw [←hW1]
  clear hW1 g0 g1
  (with_reducible refine K1.mono ?_)
  rintro _ z1 ⟨rfl,hz⟩
  rw [hz]
  clear hz z1 K1
  cases v1
  case false=>
   have HF:Hid (rs=false):=hI0 (by rw [HR2.out,HNO.out (by first|rfl|trivial)];first|rfl|simp)
   go_wp2_with fail
   go_ret
   exact ⟨by rw [HF.out];rfl,HB1.out⟩
  go_wp2_with fail
  (with_reducible refine K2.mono ?_)
  rintro _ z2 ⟨rfl,hz⟩
  have HTB2:=hI0 ((hz.block w.heap.size (Array.getElem?_eq_some_iff.1 HTB1.out).1).trans HTB1.out)
  have HB2:Hid (Below w.heap.size w z2):=hI0 (HB1.out.trans (hz.mono HB1.out.size))
  clear hz K2 q1
  cases v2
  case false=>
   have HF:Hid (rs=false):=hI0 (by rw [HR2.out,HNO.out (by first|rfl|trivial)];first|rfl|simp)
   go_wp2_with fail
   go_ret
   exact ⟨by rw [HF.out];rfl,HB2.out⟩
  have HN:Hid ((fors.take (j+1)).all RFor.ok=true):=hI0 (HS.out (by first|rfl|trivial))
  go_wp2_with fail
  go_roundw
  case rel=>exact ⟨j+1,by go_num,hltj,HN,HB2,HTB2⟩
  case measure=>simp [intOf];omega
 have hlt3:¬(j:Int)<(fors.length:Int):=by omega
 have HR3:Hid (rs=chks.all (okX 24)):=hI0 (by
  have h:=HG.out
  rw [List.take_of_length_le (by omega)] at h
  rw [HR2.out,h];rfl)
 have HBy:=HB
 have c4:wi.cell? ⟨w.heap.size,4,none⟩=some (.slice chkA chks.length chkC):=cW0 wi _ 4 _ _ _ HTB.out
 have HTy:=HTB
 go_wp2_with fail
 clear c4
 go_loopw [77] (fun i wr=>∃j:Nat,i=.int .i64 (j:Int)∧j≤chks.length∧Hid ((chks.take j).all (okX 24)=true)∧Hid (Below w.heap.size w wr)∧Hid (wr.heap[w.heap.size]? =some (.cells #[.string nm,.slice colA cols.length colC,.slice keyA key.length keyC,.slice forA fors.length forC,.slice chkA chks.length chkC] 75 (0,0)))) (fun i _=>chks.length-(intOf i).toNat)
 case atStart=>exact ⟨0,rfl,Nat.zero_le _,hI0 rfl,HBy,HTy⟩
 obtain ⟨j,rfl,hj,HG,HB,HTB⟩:=hrel
 obtain ⟨wi,rfl⟩:∃wi:World,wi=wr:=⟨_,rfl⟩
 by_cases hltj:j<chks.length
 case pos=>
  have hlt3:(j:Int)<(chks.length:Int):=by omega
  obtain ⟨b,off,rfl,hF,hcl⟩:=RdE.at_ (K:=7) (enc:=RE.enc) RE.enc_length (by omega) (HI.out.chks.below HB.out) hltj
  have hcx:=hcl j hltj
  have hs:=fun h=>allP_snoc' (p:=(okX 24)) hltj HG.out h
  have hno:=allP_no (p:=(okX 24)) hltj
  have hmem:=List.getElem_mem hltj
  obtain ⟨x,hx⟩:∃x,x=chks[j]:=⟨_,rfl⟩
  rw [←hx] at hcx hno hmem
  have hs2:(okX 24) x=true→(chks.take (j+1)).all (okX 24)=true:=fun h=>hs (by rw [←hx];exact h)
  clear hs hx hcl hF
  obtain ⟨op2,it2,⟨vk2,vi2,vs2⟩,nm2,A2,c2,args2⟩:=x
  have g0:wi.cell? ⟨b,off+j*7,none⟩=some (.int .i64 op2):=hcx 0 _ (by decide) rfl
  have g1:wi.cell? ⟨b,off+j*7+1,none⟩=some (.int .i64 it2):=hcx 1 _ (by decide) rfl
  have g2:wi.cell? ⟨b,off+j*7+2,none⟩=some (.int .i64 vk2):=hcx 2 _ (by decide) rfl
  have g3:wi.cell? ⟨b,off+j*7+3,none⟩=some (.int .i64 vi2):=hcx 3 _ (by decide) rfl
  have g4:wi.cell? ⟨b,off+j*7+4,none⟩=some (.string vs2):=hcx 4 _ (by decide) rfl
  have g5:wi.cell? ⟨b,off+j*7+5,none⟩=some (.string nm2):=hcx 5 _ (by decide) rfl
  have g6:wi.cell? ⟨b,off+j*7+6,none⟩=some (.slice A2 args2.length c2):=hcx 6 _ (by decide) rfl
  obtain ⟨W1,hW1⟩:∃W1,W1=wi.alloc (.cells #[.int .i64 op2,.int .i64 it2,.int .i64 vk2,.int .i64 vi2,.string vs2,.string nm2,.slice A2 args2.length c2] 212):=⟨_,rfl⟩
  have hb1:Below wi.heap.size wi W1:=by rw [hW1];exact Below.of_alloc _
  have hX1:W1.heap[wi.heap.size]? =some (.cells #[.int .i64 op2,.int .i64 it2,.int .i64 vk2,.int .i64 vi2,.string vs2,.string nm2,.slice A2 args2.length c2] 212 (0,0)):=by rw [hW1];exact heap_alloc_new _ _
  have HX1:=hI0 hX1
  have HL1:Hid (wi.heap.size<W1.heap.size):=hI0 (by rw [hW1];simp)
  have HB1:Hid (Below w.heap.size w W1):=hI0 (HB.out.trans (hb1.mono HB.out.size))
  have HTB1:=hI0 ((hb1.block w.heap.size (Array.getElem?_eq_some_iff.1 HTB.out).1).trans HTB.out)
  clear hcx hb1 hX1
  have hxI:=HI.out.chkI _ hmem
  have KX:Calls Tryz.prog 195 #[.agg #[.int .i64 op2,.int .i64 it2,.int .i64 vk2,.int .i64 vi2,.string vs2,.string nm2,.slice A2 args2.length c2],.int .i64 1] W1 fun x w'=>x=.returned (.bool (okX 24 (.mk op2 it2 ⟨vk2,vi2,vs2⟩ nm2 A2 c2 args2)))∧Below W1.heap.size W1 w':=storedExpr_any 24 (.mk op2 it2 ⟨vk2,vi2,vs2⟩ nm2 A2 c2 args2) 1 W1 (by omega) (by omega) (exIs_below HB1.out 24 _ hxI)
  obtain ⟨v1,hv1⟩:∃bo,bo=okX 24 (.mk op2 it2 ⟨vk2,vi2,vs2⟩ nm2 A2 c2 args2):=⟨_,rfl⟩
  rw [←hv1] at KX hno hs2
  have HS:=hI0 hs2
  have HNO:=hI0 hno
  clear hs2 hno hv1 hmem hxI
  go_wp2_with fail
  rw [←hW1]
  clear hW1 g0 g1 g2 g3 g4 g5 g6
  (with_reducible refine KX.mono ?_)
  rintro _ z1 ⟨rfl,hz⟩
  have HTB2:=hI0 ((hz.block w.heap.size (Array.getElem?_eq_some_iff.1 HTB1.out).1).trans HTB1.out)
  have HB2:Hid (Below w.heap.size w z1):=hI0 (HB1.out.trans (hz.mono HB1.out.size))
  clear hz KX
  cases v1
  case false=>
   have HF:Hid (rs=false):=hI0 (by rw [HR3.out,HNO.out (by first|rfl|trivial)])
   go_wp2_with fail
   go_ret
   exact ⟨by rw [HF.out];rfl,HB2.out⟩
  have HN:Hid ((chks.take (j+1)).all (okX 24)=true):=hI0 (HS.out (by first|rfl|trivial))
  go_wp2_with fail
  go_roundw
  case rel=>exact ⟨j+1,by go_num,hltj,HN,HB2,HTB2⟩
  case measure=>simp [intOf];omega
 have hlt3:¬(j:Int)<(chks.length:Int):=by omega
 have HE:Hid (rs=true):=hI0 (by
  have h:=HG.out
  rw [List.take_of_length_le (by omega)] at h
  rw [HR3.out,h])
 go_wp2_with fail
 go_ret
 exact ⟨by rw [HE.out];rfl,HB.out⟩
end
section
open Go.RowKit Go.Lib Go.IntWalk Go.Sort Go.Shelf
def RTab.few (t:RTab):Prop:=t.cols.length≤10000000000∧t.key.length≤10000000000∧t.fors.length≤10000000000∧t.chks.length≤10000000000
def RTab.blank (t:RTab):Bool:=t.name.toList.isEmpty&&decide (t.cols.length+t.key.length+t.fors.length+t.chks.length=0)
theorem blank_any (t:RTab) (w:World) (ht:t.few):Calls Tryz.prog 132 #[.agg t.enc.toArray] w fun e w'=>e=.returned (.bool t.blank)∧Below w.heap.size w w':=by
 obtain ⟨nm,colA,colC,cols,keyA,keyC,key,forA,forC,fors,chkA,chkC,chks⟩:=t
 obtain ⟨h1,h2,h3,h4⟩:=ht
 simp only at h1 h2 h3 h4
 show Calls Tryz.prog 132 #[.agg #[.string nm,.slice colA cols.length colC,.slice keyA key.length keyC,.slice forA fors.length forC,.slice chkA chks.length chkC]] w fun e w'=>e=.returned (.bool (nm.toList.isEmpty&&decide (cols.length+key.length+fors.length+chks.length=0)))∧Below w.heap.size w w'
 generalize cols.length=a at *
 generalize key.length=b at *
 generalize fors.length=c at *
 generalize chks.length=d at *
 cases hem:nm.toList.isEmpty
 case false=>
  go_enter Tryz.func132,Tryz.ntmps132
  go_wp2_with fail
  go_ret
  exact ⟨by simp,Below.of_alloc _⟩
 by_cases h0:a+b+c+d=0
 ·have e1:a=0:=by omega
  have e2:b=0:=by omega
  have e3:c=0:=by omega
  have e4:d=0:=by omega
  subst e1;subst e2;subst e3;subst e4
  clear h0 h1 h2 h3 h4
  go_enter Tryz.func132,Tryz.ntmps132
  go_wp2_with fail
  go_ret
  exact ⟨by simp,Below.of_alloc _⟩
 ·have HF:Hid (decide (a+b+c+d=0)=false):=hI0 (decide_eq_false h0)
  rw [HF.out]
  have i1:(a:Int)+(b:Int)≤9223372036854775807:=by omega
  have i2:(a:Int)+(b:Int)+(c:Int)≤9223372036854775807:=by omega
  have i3:(a:Int)+(b:Int)+(c:Int)+(d:Int)≤9223372036854775807:=by omega
  have i4:¬(a:Int)+(b:Int)+(c:Int)+(d:Int)=0:=by omega
  go_enter Tryz.func132,Tryz.ntmps132
  go_wp2_with fail
  go_ret
  exact ⟨by first|(simp;done)|(simp;omega),Below.of_alloc _⟩
structure REn where
 time:Int
 table:ByteArray
 create:RTab
 change:Chn
def REn.enc (x:REn):List Value:=[.int .i64 x.time,.string x.table]++x.create.enc++x.change.enc
def Chn.zero (x:Chn):Bool:=decide (x.kind=0)&&(x.name.toList.isEmpty&&(x.to.toList.isEmpty&&(x.cname.toList.isEmpty&&(decide (x.ckind=0)&&(!x.cnull&&(decide (x.def_.kind=0)&&(decide (x.def_.int=0)&&x.def_.text.toList.isEmpty)))))))
def REn.ok (x:REn):Bool:=instB x.time&&(nmB x.table&&(if x.change.kind=0 then x.change.zero&&(x.create.ok&&(x.create.name.toList==x.table.toList)) else x.change.ok&&x.create.blank))
theorem validEntry_any (x:REn) (w:World) (ht:x.create.is w (·<w.heap.size)) (hf:x.create.few) (hs:x.change.def_.text.size≤maxLen):Calls Tryz.prog 32 #[.agg x.enc.toArray] w fun e w'=>e=.returned (.bool x.ok)∧Below w.heap.size w w':=by
 obtain ⟨tm,tb,⟨nm,colA,colC,cols,keyA,keyC,key,forA,forC,fors,chkA,chkC,chks⟩,⟨x1,x2,x3,x4,x5,x6,⟨x7,x8,x9⟩⟩⟩:=x
 simp only at ht hf hs
 obtain ⟨rs,hrs⟩:∃r,r=REn.ok ⟨tm,tb,⟨nm,colA,colC,cols,keyA,keyC,key,forA,forC,fors,chkA,chkC,chks⟩,⟨x1,x2,x3,x4,x5,x6,⟨x7,x8,x9⟩⟩⟩:=⟨_,rfl⟩
 rw [←hrs]
 obtain ⟨T,hTe⟩:∃T:RTab,T=⟨nm,colA,colC,cols,keyA,keyC,key,forA,forC,fors,chkA,chkC,chks⟩:=⟨_,rfl⟩
 obtain ⟨C,hCe⟩:∃C:Chn,C=⟨x1,x2,x3,x4,x5,x6,⟨x7,x8,x9⟩⟩:=⟨_,rfl⟩
 have HR:Hid (rs=(instB tm&&(nmB tb&&(if x1=0 then C.zero&&(T.ok&&(nm.toList==tb.toList)) else C.ok&&T.blank)))):=hI0 (by rw [hrs,hTe,hCe];rfl)
 show Calls Tryz.prog 32 #[.agg #[.int .i64 tm,.string tb,.string nm,.slice colA cols.length colC,.slice keyA key.length keyC,.slice forA fors.length forC,.slice chkA chks.length chkC,.int .i64 x1,.string x2,.string x3,.string x4,.int .i64 x5,.bool x6,.int .i64 x7,.int .i64 x8,.string x9]] w _
 obtain ⟨W,hW⟩:∃W,W=w.alloc (.cells #[.int .i64 tm,.string tb,.string nm,.slice colA cols.length colC,.slice keyA key.length keyC,.slice forA fors.length forC,.slice chkA chks.length chkC,.int .i64 x1,.string x2,.string x3,.string x4,.int .i64 x5,.bool x6,.int .i64 x7,.int .i64 x8,.string x9] 83):=⟨_,rfl⟩
 have hbW:Below w.heap.size w W:=by rw [hW];exact Below.of_alloc _
 have hT:W.heap[w.heap.size]? =some (.cells #[.int .i64 tm,.string tb,.string nm,.slice colA cols.length colC,.slice keyA key.length keyC,.slice forA fors.length forC,.slice chkA chks.length chkC,.int .i64 x1,.string x2,.string x3,.string x4,.int .i64 x5,.bool x6,.int .i64 x7,.int .i64 x8,.string x9] 83 (0,0)):=by rw [hW];exact heap_alloc_new _ _
 have hWs:w.heap.size<W.heap.size:=by rw [hW];simp
 have HBW:=hI0 hbW
 have HT:=hI0 hT
 have HWS:=hI0 hWs
 have K1:=instant_any tm W
 have K2:=word_any tb W
 have K3:∀V,Below w.heap.size w V→Calls Tryz.prog 130 #[.agg #[.string nm,.slice colA cols.length colC,.slice keyA key.length keyC,.slice forA fors.length forC,.slice chkA chks.length chkC]] V fun e w'=>e=.returned (.bool T.ok)∧Below V.heap.size V w':=fun V hV=>by rw [hTe];exact storedTable_any ⟨nm,colA,colC,cols,keyA,keyC,key,forA,forC,fors,chkA,chkC,chks⟩ V (ht.below hV)
 have K4:∀V,Calls Tryz.prog 132 #[.agg #[.string nm,.slice colA cols.length colC,.slice keyA key.length keyC,.slice forA fors.length forC,.slice chkA chks.length chkC]] V fun e w'=>e=.returned (.bool T.blank)∧Below V.heap.size V w':=fun V=>by rw [hTe];exact blank_any ⟨nm,colA,colC,cols,keyA,keyC,key,forA,forC,fors,chkA,chkC,chks⟩ V hf
 have K5:∀V,Calls Tryz.prog 131 #[.agg #[.int .i64 x1,.string x2,.string x3,.string x4,.int .i64 x5,.bool x6,.int .i64 x7,.int .i64 x8,.string x9]] V fun e w'=>e=.returned (.bool C.ok)∧Below V.heap.size V w':=fun V=>by rw [hCe];exact storedChange_any x1 x2 x3 x4 x5 x6 x7 x8 x9 V hs
 have HCZ:Hid (C.zero=(decide (x1=0)&&(x2.toList.isEmpty&&(x3.toList.isEmpty&&(x4.toList.isEmpty&&(decide (x5=0)&&(!x6&&(decide (x7=0)&&(decide (x8=0)&&x9.toList.isEmpty))))))))):=hI0 (by rw [hCe];rfl)
 obtain ⟨v1,hv1⟩:∃bo,bo=instB tm:=⟨_,rfl⟩
 obtain ⟨v2,hv2⟩:∃bo,bo=nmB tb:=⟨_,rfl⟩
 obtain ⟨v3,hv3⟩:∃bo,bo=T.ok:=⟨_,rfl⟩
 obtain ⟨v4,hv4⟩:∃bo,bo=T.blank:=⟨_,rfl⟩
 obtain ⟨v5,hv5⟩:∃bo,bo=C.ok:=⟨_,rfl⟩
 rw [←hv1] at K1 HR
 rw [←hv2] at K2 HR
 rw [←hv3] at K3 HR
 rw [←hv4] at K4 HR
 rw [←hv5] at K5 HR
 have c0:W.cell? ⟨w.heap.size,0,none⟩=some (.int .i64 tm):=cW0 W _ 0 _ _ _ hT
 have c1:W.cell? ⟨w.heap.size,1,none⟩=some (.string tb):=cW0 W _ 1 _ _ _ hT
 have c2:W.cell? ⟨w.heap.size,2,none⟩=some (.string nm):=cW0 W _ 2 _ _ _ hT
 have c3:W.cell? ⟨w.heap.size,3,none⟩=some (.slice colA cols.length colC):=cW0 W _ 3 _ _ _ hT
 have c4:W.cell? ⟨w.heap.size,4,none⟩=some (.slice keyA key.length keyC):=cW0 W _ 4 _ _ _ hT
 have c5:W.cell? ⟨w.heap.size,5,none⟩=some (.slice forA fors.length forC):=cW0 W _ 5 _ _ _ hT
 have c6:W.cell? ⟨w.heap.size,6,none⟩=some (.slice chkA chks.length chkC):=cW0 W _ 6 _ _ _ hT
 have c7:W.cell? ⟨w.heap.size,7,none⟩=some (.int .i64 x1):=cW0 W _ 7 _ _ _ hT
 have c8:W.cell? ⟨w.heap.size,8,none⟩=some (.string x2):=cW0 W _ 8 _ _ _ hT
 have c9:W.cell? ⟨w.heap.size,9,none⟩=some (.string x3):=cW0 W _ 9 _ _ _ hT
 have c10:W.cell? ⟨w.heap.size,10,none⟩=some (.string x4):=cW0 W _ 10 _ _ _ hT
 have c11:W.cell? ⟨w.heap.size,11,none⟩=some (.int .i64 x5):=cW0 W _ 11 _ _ _ hT
 have c12:W.cell? ⟨w.heap.size,12,none⟩=some (.bool x6):=cW0 W _ 12 _ _ _ hT
 have c13:W.cell? ⟨w.heap.size,13,none⟩=some (.int .i64 x7):=cW0 W _ 13 _ _ _ hT
 have c14:W.cell? ⟨w.heap.size,14,none⟩=some (.int .i64 x8):=cW0 W _ 14 _ _ _ hT
 have c15:W.cell? ⟨w.heap.size,15,none⟩=some (.string x9):=cW0 W _ 15 _ _ _ hT
 clear hbW hT hWs hv1 hv2 hv3 hv4 hv5 hrs ht hf hs hTe hCe
 go_enter Tryz.func32,Tryz.ntmps32
 go_wp2_with fail
 rw [←hW]
 clear hW
 (with_reducible refine K1.mono ?_)
 rintro _ z1 ⟨rfl,hz⟩
 rw [hz]
 clear hz z1 K1
 cases v1
 case false=>
  go_wp2_with fail
  go_ret
  exact ⟨by rw [HR.out];rfl,HBW.out⟩
 go_wp2_with fail
 (with_reducible refine K2.mono ?_)
 rintro _ y1 ⟨rfl,hz⟩
 have HB1:Hid (Below w.heap.size w y1):=hI0 (HBW.out.trans (hz.mono HBW.out.size))
 have HT1:=hI0 ((hz.block _ HWS.out).trans HT.out)
 have HL1:Hid (w.heap.size<y1.heap.size):=hI0 (by have:=HWS.out;have:=hz.size;omega)
 clear hz K2 c0 c1 c2 c3 c4 c5 c6 c7 c8 c9 c10 c11 c12 c13 c14 c15
 cases v2
 case false=>
  go_wp2_with fail
  go_ret
  exact ⟨by rw [HR.out];rfl,HB1.out⟩
 have c0:y1.cell? ⟨w.heap.size,0,none⟩=some (.int .i64 tm):=cW0 y1 _ 0 _ _ _ HT1.out
 have c1:y1.cell? ⟨w.heap.size,1,none⟩=some (.string tb):=cW0 y1 _ 1 _ _ _ HT1.out
 have c2:y1.cell? ⟨w.heap.size,2,none⟩=some (.string nm):=cW0 y1 _ 2 _ _ _ HT1.out
 have c3:y1.cell? ⟨w.heap.size,3,none⟩=some (.slice colA cols.length colC):=cW0 y1 _ 3 _ _ _ HT1.out
 have c4:y1.cell? ⟨w.heap.size,4,none⟩=some (.slice keyA key.length keyC):=cW0 y1 _ 4 _ _ _ HT1.out
 have c5:y1.cell? ⟨w.heap.size,5,none⟩=some (.slice forA fors.length forC):=cW0 y1 _ 5 _ _ _ HT1.out
 have c6:y1.cell? ⟨w.heap.size,6,none⟩=some (.slice chkA chks.length chkC):=cW0 y1 _ 6 _ _ _ HT1.out
 have c7:y1.cell? ⟨w.heap.size,7,none⟩=some (.int .i64 x1):=cW0 y1 _ 7 _ _ _ HT1.out
 have c8:y1.cell? ⟨w.heap.size,8,none⟩=some (.string x2):=cW0 y1 _ 8 _ _ _ HT1.out
 have c9:y1.cell? ⟨w.heap.size,9,none⟩=some (.string x3):=cW0 y1 _ 9 _ _ _ HT1.out
 have c10:y1.cell? ⟨w.heap.size,10,none⟩=some (.string x4):=cW0 y1 _ 10 _ _ _ HT1.out
 have c11:y1.cell? ⟨w.heap.size,11,none⟩=some (.int .i64 x5):=cW0 y1 _ 11 _ _ _ HT1.out
 have c12:y1.cell? ⟨w.heap.size,12,none⟩=some (.bool x6):=cW0 y1 _ 12 _ _ _ HT1.out
 have c13:y1.cell? ⟨w.heap.size,13,none⟩=some (.int .i64 x7):=cW0 y1 _ 13 _ _ _ HT1.out
 have c14:y1.cell? ⟨w.heap.size,14,none⟩=some (.int .i64 x8):=cW0 y1 _ 14 _ _ _ HT1.out
 have c15:y1.cell? ⟨w.heap.size,15,none⟩=some (.string x9):=cW0 y1 _ 15 _ _ _ HT1.out
 by_cases hk:x1=0
 case pos=>
  subst hk
  have HR2:Hid (rs=(C.zero&&(v3&&(nm.toList==tb.toList)))):=hI0 (by rw [HR.out];rfl)
  go_upto_region 4 with (fail)
  cases e0:x2.toList.isEmpty
  case false=>
   have HF:Hid (rs=false):=hI0 (by rw [HR2.out,HCZ.out];simp [e0])
   go_wp2_with fail
   go_ret
   exact ⟨by rw [HF.out];rfl,HB1.out⟩
  cases e1:x3.toList.isEmpty
  case false=>
   have HF:Hid (rs=false):=hI0 (by rw [HR2.out,HCZ.out];simp [e1])
   go_wp2_with fail
   go_ret
   exact ⟨by rw [HF.out];rfl,HB1.out⟩
  cases e2:x4.toList.isEmpty
  case false=>
   have HF:Hid (rs=false):=hI0 (by rw [HR2.out,HCZ.out];simp [e2])
   go_wp2_with fail
   go_ret
   exact ⟨by rw [HF.out];rfl,HB1.out⟩
  by_cases e3:x5=0
  case neg=>
   have HF:Hid (rs=false):=hI0 (by rw [HR2.out,HCZ.out];simp [e3])
   go_wp2_with fail
   go_ret
   exact ⟨by rw [HF.out];rfl,HB1.out⟩
  subst e3
  cases x6
  case true=>
   have HF:Hid (rs=false):=hI0 (by rw [HR2.out,HCZ.out];simp [Bool.not_true])
   go_wp2_with fail
   go_ret
   exact ⟨by rw [HF.out];rfl,HB1.out⟩
  by_cases e5:x7=0
  case neg=>
   have HF:Hid (rs=false):=hI0 (by rw [HR2.out,HCZ.out];simp [e5])
   go_wp2_with fail
   go_ret
   exact ⟨by rw [HF.out];rfl,HB1.out⟩
  subst e5
  by_cases e6:x8=0
  case neg=>
   have HF:Hid (rs=false):=hI0 (by rw [HR2.out,HCZ.out];simp [e6])
   go_wp2_with fail
   go_ret
   exact ⟨by rw [HF.out];rfl,HB1.out⟩
  subst e6
  cases e7:x9.toList.isEmpty
  case false=>
   have HF:Hid (rs=false):=hI0 (by rw [HR2.out,HCZ.out];simp [e7])
   go_wp2_with fail
   go_ret
   exact ⟨by rw [HF.out];rfl,HB1.out⟩
  have HR3:Hid (rs=(v3&&(nm.toList==tb.toList))):=hI0 (by rw [HR2.out,HCZ.out];simp [e0,e1,e2,e7])
  have K3:=K3 y1 HB1.out
  go_wp2_with fail
  (with_reducible refine K3.mono ?_)
  rintro _ y2 ⟨rfl,hz⟩
  have HB2:Hid (Below w.heap.size w y2):=hI0 (HB1.out.trans (hz.mono HB1.out.size))
  have hT2:=(hz.block _ HL1.out).trans HT1.out
  clear hz K3 c0 c1 c2 c3 c4 c5 c6 c7 c8 c9 c10 c11 c12 c13 c14 c15
  have c1:y2.cell? ⟨w.heap.size,1,none⟩=some (.string tb):=cW0 y2 _ 1 _ _ _ hT2
  have c2:y2.cell? ⟨w.heap.size,2,none⟩=some (.string nm):=cW0 y2 _ 2 _ _ _ hT2
  clear hT2
  cases v3
  case false=>
   go_wp2_with fail
   go_ret
   exact ⟨by rw [HR3.out];rfl,HB2.out⟩
  cases eq1:(nm.toList==tb.toList)
  all_goals
   have HR4:Hid (rs=(nm.toList==tb.toList)):=hI0 (by rw [HR3.out];rfl)
   rw [eq1] at HR4
   go_wp2_with fail
   go_ret
   exact ⟨by rw [HR4.out];rfl,HB2.out⟩
 have HR2:Hid (rs=(v5&&v4)):=hI0 (by rw [HR.out,if_neg hk];rfl)
 have K5:=K5 y1
 go_upto_region 5 with (fail)
 clear hk
 go_wp2_with fail
 (with_reducible refine K5.mono ?_)
 rintro _ y2 ⟨rfl,hz⟩
 have HB2:Hid (Below w.heap.size w y2):=hI0 (HB1.out.trans (hz.mono HB1.out.size))
 have hT2:=(hz.block _ HL1.out).trans HT1.out
 clear hz K5 c0 c1 c2 c3 c4 c5 c6 c7 c8 c9 c10 c11 c12 c13 c14 c15
 have c2:y2.cell? ⟨w.heap.size,2,none⟩=some (.string nm):=cW0 y2 _ 2 _ _ _ hT2
 have c3:y2.cell? ⟨w.heap.size,3,none⟩=some (.slice colA cols.length colC):=cW0 y2 _ 3 _ _ _ hT2
 have c4:y2.cell? ⟨w.heap.size,4,none⟩=some (.slice keyA key.length keyC):=cW0 y2 _ 4 _ _ _ hT2
 have c5:y2.cell? ⟨w.heap.size,5,none⟩=some (.slice forA fors.length forC):=cW0 y2 _ 5 _ _ _ hT2
 have c6:y2.cell? ⟨w.heap.size,6,none⟩=some (.slice chkA chks.length chkC):=cW0 y2 _ 6 _ _ _ hT2
 clear hT2
 cases v5
 case false=>
  go_wp2_with fail
  go_ret
  exact ⟨by rw [HR2.out];rfl,HB2.out⟩
 have K4:=K4 y2
 go_wp2_with fail
 (with_reducible refine K4.mono ?_)
 rintro _ y3 ⟨rfl,hz⟩
 have HB3:Hid (Below w.heap.size w y3):=hI0 (HB2.out.trans (hz.mono HB2.out.size))
 clear hz K4 c2 c3 c4 c5 c6
 go_wp2_with fail
 go_ret
 exact ⟨by rw [HR2.out];rfl,HB3.out⟩
end
end Go.Proofs.YtbfdegkickjbpaaGreat
