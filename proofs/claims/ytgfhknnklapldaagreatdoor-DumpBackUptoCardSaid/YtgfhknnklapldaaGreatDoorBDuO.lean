/-
 DuO
-/
import Derived.Test.YtgfhknnklapldaaGreatDoorBDuN
namespace Go.Proofs.YtgfhknnklapldaaGreatDoor
open Go.Proofs.Tryz
set_option maxRecDepth 99999
set_option maxHeartbeats 0
open Go.RowKit Go.Lib Go.IntWalk Go.Sort Go.Shelf
theorem CurAt.put {w:World} {b:Nat} {S:ByteArray} {i:Nat} {d:Bool} {r:List Value} (h:CurAt w b S i d r) (j:Nat) (u:Value):CurAt (w.setCell ⟨b,j+3,none⟩ u) b S i d (r.set j u):=by
 have:=heap_setCell_same w b (j+3) _ _ u h
 unfold CurAt
 simpa using this
theorem CurAt.line {w:World} {b:Nat} {S:ByteArray} {i:Nat} {d:Bool} {r:List Value} (h:CurAt w b S i d r) (S2:ByteArray):CurAt (((w.setCell ⟨b,0,none⟩ (.string S2)).setCell ⟨b,1,none⟩ (.int .i64 0)).setCell ⟨b,2,none⟩ (.bool false)) b S2 0 false r:=by
 have h1:=heap_setCell_same w b 0 _ _ (.string S2) h
 have h2:=heap_setCell_same _ b 1 _ _ (.int .i64 0) h1
 have h3:=heap_setCell_same _ b 2 _ _ (.bool false) h2
 unfold CurAt
 simpa using h3
theorem chg_line (w:World) (b:Nat) (u0 u1 u2:Value):Chg (·=b) w (((w.setCell ⟨b,0,none⟩ u0).setCell ⟨b,1,none⟩ u1).setCell ⟨b,2,none⟩ u2):=
 (((chg_set w b 0 u0).setCell (p:=⟨b,1,none⟩) (.inl rfl) u1)).setCell (p:=⟨b,2,none⟩) (.inl rfl) u2
theorem EnvP.chg {b:Nat} {w w':World} (h:EnvP b w) (hc:Chg (·=b) w w') (hb:b≤w.heap.size):EnvP b w':=h.keep (hc.below hb (fun _ e=>by omega))
theorem bas_beq (a:List UInt8) (s:ByteArray):((strB a).toList==s.toList)=decide (a=s.data.toList):=by
 rw [ByteArray.toList_eq,ByteArray.toList_eq,bas_s,Bool.eq_iff_iff]
 simp
theorem cnumI_le {l:List UInt8} {st:Nat×Bool} (h:st.1≤l.length):(cnumI l st).2.1≤l.length:=by
 have:=tokI_le h
 unfold cnumI numR
 split<;>exact this
def secT (l:List UInt8):List UInt8×Nat×Bool:=tokI l (0,false)
def sec1 (l:List UInt8):Int×Nat×Bool:=cnumI l (secT l).2
def sec2 (l:List UInt8):Int×Nat×Bool:=cnumI l (sec1 l).2
def sec3 (l:List UInt8):Int×Nat×Bool:=cnumI l (sec2 l).2
def sec4 (l:List UInt8):Int×Nat×Bool:=cnumI l (sec3 l).2
def secB (l:List UInt8):Bool:=decide ((secT l).1=wState)&&(!(sec4 l).2.2&&decide ((sec4 l).2.1=l.length))
theorem secT_le (l:List UInt8):(secT l).2.1≤l.length:=by
 unfold secT
 exact tokI_le (Nat.zero_le _)
theorem sec1_le (l:List UInt8):(sec1 l).2.1≤l.length:=by
 have h:=secT_le l
 unfold sec1
 exact cnumI_le h
theorem sec2_le (l:List UInt8):(sec2 l).2.1≤l.length:=by
 have h:=sec1_le l
 unfold sec2
 exact cnumI_le h
theorem sec3_le (l:List UInt8):(sec3 l).2.1≤l.length:=by
 have h:=sec2_le l
 unfold sec3
 exact cnumI_le h
theorem sec4_le (l:List UInt8):(sec4 l).2.1≤l.length:=by
 have h:=sec3_le l
 unfold sec4
 exact cnumI_le h
theorem pEta {α β:Type} (p:α×β):(p.1,p.2)=p:=rfl
theorem sec1_eq (l:List UInt8):cnumI l ((secT l).2.1,(secT l).2.2)=sec1 l:=by unfold sec1;rw [pEta]
theorem sec2_eq (l:List UInt8):cnumI l ((sec1 l).2.1,(sec1 l).2.2)=sec2 l:=by unfold sec2;rw [pEta]
theorem sec3_eq (l:List UInt8):cnumI l ((sec2 l).2.1,(sec2 l).2.2)=sec3 l:=by unfold sec3;rw [pEta]
theorem sec4_eq (l:List UInt8):cnumI l ((sec3 l).2.1,(sec3 l).2.2)=sec4 l:=by unfold sec4;rw [pEta]
theorem second_any (b:Nat) (l:List UInt8) (S:ByteArray) (i:Nat) (d:Bool) (r0 r1 r2 r3:Value) (r:List Value) (w:World) (he:EnvP b w) (h:CurAt w b S i d (r0::r1::r2::r3::r)) (hl:l.length≤4294967281):
  Calls prog 37 #[.pointer (some ⟨b,0,none⟩),.string (strB l)] w fun e w'=>e=.returned (.bool (secB l))∧CurTo b (strB l) (sec4 l).2 (.int .i64 (sec1 l).1::.int .i64 (sec2 l).1::.int .i64 (sec3 l).1::.int .i64 (sec4 l).1::r) w w':=by
 have hbw:=h.lt
 have c1:=cW1 1 h rfl
 have c2:=cW1 2 h rfl
 have c0:=cW1 0 h rfl
 have f0:w.frozen? ⟨b,0,none⟩=false:=fW0 _ _ _ _ _ h
 have f1:w.frozen? ⟨b,1,none⟩=false:=fW0 _ _ _ _ _ h
 have f2:w.frozen? ⟨b,2,none⟩=false:=fW0 _ _ _ _ _ h
 have HC0:=hI0 (chg_line w b (.string (strB l)) (.int .i64 0) (.bool false))
 have HE:=hI0 he
 have g0:=secT_le l
 have g1:=sec1_le l
 have g2:=sec2_le l
 have g3:=sec3_le l
 have g4:=sec4_le l
 have KT:Hid (Calls prog 92 #[.pointer (some ⟨b,0,none⟩)] (((w.setCell ⟨b,0,none⟩ (.string (strB l))).setCell ⟨b,1,none⟩ (.int .i64 0)).setCell ⟨b,2,none⟩ (.bool false)) fun e w'=>e=.returned (.string (strB (secT l).1))∧CurTo b (strB l) (secT l).2 (r0::r1::r2::r3::r) (((w.setCell ⟨b,0,none⟩ (.string (strB l))).setCell ⟨b,1,none⟩ (.int .i64 0)).setCell ⟨b,2,none⟩ (.bool false)) w'):=hI0 (token_any b l 0 false _ _ (h.line (strB l)) (Nat.zero_le _) hl)
 have KN1:Hid (∀W r,EnvP b W→CurAt W b (strB l) (secT l).2.1 (secT l).2.2 r→Calls prog 93 #[.pointer (some ⟨b,0,none⟩)] W fun e w'=>e=.returned (.int .i64 (sec1 l).1)∧CurTo b (strB l) (sec1 l).2 r W w'):=hI0 (fun W r he h=>by
  have k:=cnum_any b l (secT l).2.1 (secT l).2.2 r W he h g0 hl
  rw [sec1_eq] at k
  exact k)
 have KN2:Hid (∀W r,EnvP b W→CurAt W b (strB l) (sec1 l).2.1 (sec1 l).2.2 r→Calls prog 93 #[.pointer (some ⟨b,0,none⟩)] W fun e w'=>e=.returned (.int .i64 (sec2 l).1)∧CurTo b (strB l) (sec2 l).2 r W w'):=hI0 (fun W r he h=>by
  have k:=cnum_any b l (sec1 l).2.1 (sec1 l).2.2 r W he h g1 hl
  rw [sec2_eq] at k
  exact k)
 have KN3:Hid (∀W r,EnvP b W→CurAt W b (strB l) (sec2 l).2.1 (sec2 l).2.2 r→Calls prog 93 #[.pointer (some ⟨b,0,none⟩)] W fun e w'=>e=.returned (.int .i64 (sec3 l).1)∧CurTo b (strB l) (sec3 l).2 r W w'):=hI0 (fun W r he h=>by
  have k:=cnum_any b l (sec2 l).2.1 (sec2 l).2.2 r W he h g2 hl
  rw [sec3_eq] at k
  exact k)
 have KN4:Hid (∀W r,EnvP b W→CurAt W b (strB l) (sec3 l).2.1 (sec3 l).2.2 r→Calls prog 93 #[.pointer (some ⟨b,0,none⟩)] W fun e w'=>e=.returned (.int .i64 (sec4 l).1)∧CurTo b (strB l) (sec4 l).2 r W w'):=hI0 (fun W r he h=>by
  have k:=cnum_any b l (sec3 l).2.1 (sec3 l).2.2 r W he h g3 hl
  rw [sec4_eq] at k
  exact k)
 have HB:Hid (secB l=(decide ((secT l).1=wState)&&(!(sec4 l).2.2&&decide ((sec4 l).2.1=l.length)))):=hI0 rfl
 clear h he
 obtain ⟨res,hres⟩:=eN0 (secB l)
 obtain ⟨t,ht⟩:=eN0 (secT l)
 obtain ⟨s1,hs1⟩:=eN0 (sec1 l)
 obtain ⟨s2,hs2⟩:=eN0 (sec2 l)
 obtain ⟨s3,hs3⟩:=eN0 (sec3 l)
 obtain ⟨s4,hs4⟩:=eN0 (sec4 l)
 rw [←hres,←ht,←hs4] at HB
 rw [←ht] at KT
 rw [←ht,←hs1] at KN1
 rw [←hs1,←hs2] at KN2
 rw [←hs2,←hs3] at KN3
 rw [←hs3,←hs4] at KN4
 rw [←hres,←hs1,←hs2,←hs3,←hs4]
 rw [←hs4] at g4
 clear hres ht hs1 hs2 hs3 hs4 g0 g1 g2 g3
 have HBQ:=hI0 (bas_beq t.1)
 go_in
 go_wp2_with fail
 clear c0 c1 c2 f0 f1 f2
 (with_reducible refine KT.out.mono ?_)
 rintro _ w1 ⟨rfl,hx1,hc1⟩
 have HX1:=hI0 hx1
 have HC1:=hI0 (HC0.out.trans hc1 (fun _ _ h=>h))
 clear hx1 hc1 KT HC0
 have ht5:(strB t.1).toList=(strB t.1).toList:=rfl
 generalize strB t.1=S5 at *
 go_wp2_with fail
 (with_reducible refine (KN1.out w1 (r0::r1::r2::r3::r) (HE.out.chg HC1.out (Nat.le_of_lt hbw)) HX1.out).mono ?_)
 rintro _ w2 ⟨rfl,hx2,hc2⟩
 have c3:=cW1 3 hx2 rfl
 have f3:w2.frozen? ⟨b,3,none⟩=false:=fW0 _ _ _ _ _ hx2
 have HX2:Hid (CurAt (w2.setCell ⟨b,3,none⟩ (.int .i64 s1.1)) b (strB l) s1.2.1 s1.2.2 (.int .i64 s1.1::r1::r2::r3::r)):=hI0 (hx2.put 0 (.int .i64 s1.1))
 have HC2:Hid (Chg (·=b) w (w2.setCell ⟨b,3,none⟩ (.int .i64 s1.1))):=hI0 ((HC1.out.trans hc2 (fun _ _ h=>h)).setCell (p:=⟨b,3,none⟩) (.inl rfl) (.int .i64 s1.1))
 clear hx2 hc2
 go_wp2_with fail
 clear c3 f3
 (with_reducible refine (KN2.out (w2.setCell ⟨b,3,none⟩ (.int .i64 s1.1)) (.int .i64 s1.1::r1::r2::r3::r) (HE.out.chg HC2.out (Nat.le_of_lt hbw)) HX2.out).mono ?_)
 rintro _ w3 ⟨rfl,hx3,hc3⟩
 have c4:=cW1 4 hx3 rfl
 have f4:w3.frozen? ⟨b,4,none⟩=false:=fW0 _ _ _ _ _ hx3
 have HX3:Hid (CurAt (w3.setCell ⟨b,4,none⟩ (.int .i64 s2.1)) b (strB l) s2.2.1 s2.2.2 (.int .i64 s1.1::.int .i64 s2.1::r2::r3::r)):=hI0 (hx3.put 1 (.int .i64 s2.1))
 have HC3:Hid (Chg (·=b) w (w3.setCell ⟨b,4,none⟩ (.int .i64 s2.1))):=hI0 ((HC2.out.trans hc3 (fun _ _ h=>h)).setCell (p:=⟨b,4,none⟩) (.inl rfl) (.int .i64 s2.1))
 clear hx3 hc3
 go_wp2_with fail
 clear c4 f4
 (with_reducible refine (KN3.out (w3.setCell ⟨b,4,none⟩ (.int .i64 s2.1)) (.int .i64 s1.1::.int .i64 s2.1::r2::r3::r) (HE.out.chg HC3.out (Nat.le_of_lt hbw)) HX3.out).mono ?_)
 rintro _ w4 ⟨rfl,hx4,hc4⟩
 have c5:=cW1 5 hx4 rfl
 have f5:w4.frozen? ⟨b,5,none⟩=false:=fW0 _ _ _ _ _ hx4
 have HX4:Hid (CurAt (w4.setCell ⟨b,5,none⟩ (.int .i64 s3.1)) b (strB l) s3.2.1 s3.2.2 (.int .i64 s1.1::.int .i64 s2.1::.int .i64 s3.1::r3::r)):=hI0 (hx4.put 2 (.int .i64 s3.1))
 have HC4:Hid (Chg (·=b) w (w4.setCell ⟨b,5,none⟩ (.int .i64 s3.1))):=hI0 ((HC3.out.trans hc4 (fun _ _ h=>h)).setCell (p:=⟨b,5,none⟩) (.inl rfl) (.int .i64 s3.1))
 clear hx4 hc4
 go_wp2_with fail
 clear c5 f5
 (with_reducible refine (KN4.out (w4.setCell ⟨b,5,none⟩ (.int .i64 s3.1)) (.int .i64 s1.1::.int .i64 s2.1::.int .i64 s3.1::r3::r) (HE.out.chg HC4.out (Nat.le_of_lt hbw)) HX4.out).mono ?_)
 rintro _ w5 ⟨rfl,hx5,hc5⟩
 have c6:=cW1 6 hx5 rfl
 have f6:w5.frozen? ⟨b,6,none⟩=false:=fW0 _ _ _ _ _ hx5
 have HX5:Hid (CurAt (w5.setCell ⟨b,6,none⟩ (.int .i64 s4.1)) b (strB l) s4.2.1 s4.2.2 (.int .i64 s1.1::.int .i64 s2.1::.int .i64 s3.1::.int .i64 s4.1::r)):=hI0 (hx5.put 3 (.int .i64 s4.1))
 have HC5:Hid (Chg (·=b) w (w5.setCell ⟨b,6,none⟩ (.int .i64 s4.1))):=hI0 ((HC4.out.trans hc5 (fun _ _ h=>h)).setCell (p:=⟨b,6,none⟩) (.inl rfl) (.int .i64 s4.1))
 clear hx5 hc5
 obtain ⟨n4,i4,d4⟩:=s4
 dsimp only at HB HX5 HC5 g4
 obtain ⟨WF,hWF⟩:=eN0 ((w5.setCell ⟨b,6,none⟩ (.int .i64 n4)):World)
 have cc1:WF.cell? ⟨b,1,none⟩=some (.int .i64 (i4:Int)):=by rw [hWF];exact cW0 _ _ 1 _ _ _ HX5.out
 have cc2:WF.cell? ⟨b,2,none⟩=some (.bool d4):=by rw [hWF];exact cW0 _ _ 2 _ _ _ HX5.out
 have hsz:=strB_size l
 have HQ:=HBQ.out ⟨#[115,116,97,116,101]⟩
 rw [show (⟨#[115,116,97,116,101]⟩:ByteArray).data.toList=wState from rfl,show (⟨#[115,116,97,116,101]⟩:ByteArray).toList=[115,116,97,116,101] from by rw [ByteArray.toList_eq]] at HQ
 have HXF:Hid (CurAt WF b (strB l) i4 d4 (.int .i64 s1.1::.int .i64 s2.1::.int .i64 s3.1::.int .i64 n4::r)):=by rw [hWF];exact HX5
 have HCF:Hid (Chg (·=b) w WF):=by rw [hWF];exact HC5
 have eWF:(w5.setCell ⟨b,6,none⟩ (.int .i64 n4))=WF:=hWF.symm
 clear hWF HX5 HC5
 by_cases ht:t.1=wState
 case neg=>
  have HR:Hid (res=false):=hI0 (by rw [HB.out,decide_eq_false ht];rfl)
  rw [decide_eq_false ht] at HQ
  have HQ2:¬S5.toList=[115,116,97,116,101]:=by simpa using HQ
  clear ht
  go_wp2_with fail
  go_ret
  exact ⟨ret_bool HR.out.symm,HXF.out,HCF.out⟩
 rw [decide_eq_true ht] at HQ
 have HQ2:S5.toList=[115,116,97,116,101]:=by simpa using HQ
 cases d4
 case true=>
  have HR:Hid (res=false):=hI0 (by rw [HB.out,decide_eq_true ht];rfl)
  clear ht
  go_wp2_with fail
  go_ret
  exact ⟨ret_bool HR.out.symm,HXF.out,HCF.out⟩
 by_cases hp:i4=l.length
 case pos=>
  have HR:Hid (res=true):=hI0 (by rw [HB.out,decide_eq_true ht,decide_eq_true hp];rfl)
  have e1:(i4:Int)=(l.length:Int):=by omega
  clear ht
  go_wp2_with fail
  go_ret
  exact ⟨ret_bool HR.out.symm,by have h:=HXF.out;rw [hp] at h;exact h,HCF.out⟩
 have HR:Hid (res=false):=hI0 (by rw [HB.out,decide_eq_true ht,decide_eq_false hp];rfl)
 have e1:¬(i4:Int)=(l.length:Int):=by omega
 clear ht
 go_wp2_with fail
 go_ret
 exact ⟨ret_bool (by rw [HR.out];simp;omega),HXF.out,HCF.out⟩
def rkW:List (List UInt8):=[wEntry,wStamp,wTable,wVersion,wHold,wPolicy,wHorizon,wEnd]
def rankV (t:List UInt8):Nat:=if rkW.findIdx (·==t)<8 then rkW.findIdx (·==t)+1 else 0
theorem rank_hit {t:List UInt8} {k:Nat} (hk:k<rkW.length) (h:∀j (hj:j<rkW.length),j<k→rkW[j]≠t) (he:rkW[k]=t):rankV t=k+1:=by
 have e:rkW.findIdx (·==t)=k:=by
  rw [List.findIdx_eq hk]
  exact ⟨by rw [he];simp,fun j hj=>by simpa using h j (by omega) hj⟩
 have h8:rkW.length=8:=rfl
 unfold rankV
 rw [e,if_pos (by omega)]
theorem rank_miss {t:List UInt8} (h:∀j (hj:j<rkW.length),rkW[j]≠t):rankV t=0:=by
 have e:rkW.findIdx (·==t)=rkW.length:=by
  rw [List.findIdx_eq_length]
  intro x hx
  obtain ⟨j,hj,rfl⟩:=List.mem_iff_getElem.1 hx
  simpa using h j hj
 have h8:rkW.length=8:=rfl
 unfold rankV
 rw [e,if_neg (by omega)]
theorem rank_any (t:List UInt8) (w:World):Calls prog 94 #[.string (strB t)] w fun e w'=>e=.returned (.int .i64 (rankV t))∧Bl w w':=by
 obtain ⟨W1,hW1⟩:=eN0 (w.alloc (.cells (svL rkW).toArray 9))
 have hbW1:=bN0 hW1
 have hnW1:=hN0 hW1
 have eW1:w.alloc (.cells #[.string ⟨#[101,110,116,114,121]⟩,.string ⟨#[115,116,97,109,112]⟩,.string ⟨#[116,97,98,108,101]⟩,.string ⟨#[118,101,114,115,105,111,110]⟩,.string ⟨#[104,111,108,100]⟩,.string ⟨#[112,111,108,105,99,121]⟩,.string ⟨#[104,111,114,105,122,111,110]⟩,.string ⟨#[101,110,100]⟩] 9)=W1:=by rw [hW1];rfl
 clear hW1
 have HB1:=hI0 hbW1
 have HX1:=hI0 hnW1
 have HBQ:=hI0 (fun s=>bas_beq s (strB t))
 rw [bas_s] at HBQ
 have hS:(strB t).toList=t:=by rw [ByteArray.toList_eq,bas_s]
 have HRM:=hI0 (rank_miss (t:=t))
 have HRH:=hI0 (fun k=>rank_hit (t:=t) (k:=k))
 have h8:rkW.length=8:=rfl
 clear hbW1 hnW1
 obtain ⟨res,hres⟩:=eN0 (rankV t)
 rw [←hres] at HRM HRH ⊢
 clear hres
 obtain ⟨S,hS'⟩:=eN0 (strB t)
 rw [←hS'] at HBQ hS ⊢
 clear hS'
 go_in
 go_wp2_with fail
 clear eW1
 go_loopw [7] (fun i wr=>∃k:Nat,i=.int .i64 (k:Int)∧k≤8∧Hid (∀j (hj:j<rkW.length),j<k→rkW[j]≠t)∧Hid (Bl W1 wr)) (fun i _=>8-(intOf i).toNat)
 case atStart=>exact ⟨0,rfl,by omega,hI0 (fun j _ h=>by omega),hI0 (Below.refl _ _)⟩
 obtain ⟨k,rfl,hk,HN,HB⟩:=hrel
 obtain ⟨wi,rfl⟩:=eN0 wr
 by_cases hlt:k<8
 case neg=>
  have hke:k=8:=by omega
  have HR:Hid (res=0):=hI0 (HRM.out (fun j hj=>HN.out j hj (by omega)))
  subst hke
  go_wp2_with fail
  go_ret
  exact ⟨by rw [HR.out];rfl,HB1.out.trans (HB.out.mono HB1.out.size)⟩
 have hk2:k<rkW.length:=by omega
 have g0:wi.cell? ⟨w.heap.size,k,none⟩=some (.string (strB rkW[k])):=by
  rw [cW0 wi w.heap.size k (svL rkW).toArray _ _ (keepRow HB.out HX1.out),List.getElem?_toArray]
  unfold svL
  rw [List.getElem?_map,List.getElem?_eq_getElem hk2];rfl
 have hbq:=HBQ.out rkW[k]
 have hS2:(strB rkW[k]).toList=rkW[k]:=by rw [ByteArray.toList_eq,bas_s]
 by_cases he:rkW[k]=t
 case pos=>
  have HR:Hid (res=k+1):=hI0 (HRH.out k hk2 HN.out he)
  rw [decide_eq_true he] at hbq
  have hbq2:(strB rkW[k]).toList=S.toList:=by simpa using hbq
  generalize strB rkW[k]=sk at *
  clear he hS hS2
  go_wp2_with fail
  go_ret
  exact ⟨by rw [HR.out];rfl,HB1.out.trans (HB.out.mono HB1.out.size)⟩
 have HR:Hid (∀j (hj:j<rkW.length),j<k+1→rkW[j]≠t):=hI0 (fun j hj h=>by
  by_cases hjk:j<k
  ·exact HN.out j hj hjk
  ·have:j=k:=by omega
   subst this
   exact he)
 rw [decide_eq_false he] at hbq
 have hbq2:¬(strB rkW[k]).toList=S.toList:=by simpa using hbq
 generalize strB rkW[k]=sk at *
 clear he hS hS2
 go_wp2_with fail
 go_roundw
 case rel=>exact ⟨k+1,by go_num,by omega,HR,HB⟩
 case measure=>simp [intOf];omega
end Go.Proofs.YtgfhknnklapldaaGreatDoor
