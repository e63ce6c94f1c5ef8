/-
 DuI
-/
import Derived.Test.YtgfhknnklapldaaGreatDoorBDuH
import Derived.Test.YtgfhknnklapldaaGreatDoorBSeg1
namespace Go.Proofs.YtgfhknnklapldaaGreatDoor
open Go.Proofs.Tryz
set_option maxRecDepth 99999
set_option maxHeartbeats 0
open Go.RowKit Go.Lib Go.IntWalk Go.Sort Go.Shelf
theorem dname_any (s:List UInt8) (w:World):Calls prog 30 #[.string (strB s)] w fun e w'=>e=.returned (.bool (nmW s))∧Bl w w':=by
 have hsz:=strB_size s
 by_cases h0:s.length=0
 ·obtain rfl:s=[]:=List.eq_nil_of_length_eq_zero h0
  rw [nmW_nil]
  have b1:(strB []).toList.isEmpty=true:=by rw [ByteArray.toList_eq];rfl
  generalize strB []=S at *
  clear h0 hsz
  go_in
  go_wp2_with fail
  go_ret
  exact ⟨rfl,Below.refl _ _⟩
 have b1:(strB s).toList.isEmpty=false:=by rw [ByteArray.toList_eq];cases s<;>simp_all [strB]
 by_cases h1:24<s.length
 ·rw [nmW_long h1]
  have q1:(24:Int)<((strB s).size:Int):=by omega
  generalize strB s=S at *
  clear hsz h0 h1
  go_in
  go_wp2_with fail
  go_ret
  exact ⟨rfl,Below.refl _ _⟩
 have q1:¬(24:Int)<((strB s).size:Int):=by omega
 have hdg:=digW_of (s:=s) (by omega)
 have hs0:(strB s)[0]'(by rw [strB_size];omega)=s[0]:=rfl
 obtain ⟨x,W,hcv,hrd,hbW⟩:=conv_sb w (strB s) (by omega)
 rw [show (strB s).data.toList=s by simp [strB]] at hrd
 generalize s[0]=c0 at hdg hs0
 have q0:(0:Int)<((strB s).size:Int):=by omega
 have q2:0<(strB s).size:=by omega
 have hc0l:=c0.toNat_lt
 by_cases hd:48≤c0.toNat∧c0.toNat≤57
 ·rw [nmW_dig (by rw [hdg];exact decide_eq_true hd)]
  obtain ⟨S,hS⟩:=eN0 (strB s)
  have q3:0<S.size:=by rw [hS];exact q2
  have q4:(0:Int)<(S.size:Int):=by omega
  have e0:S[0]=c0:=by subst hS;exact hs0
  have d1:(48:Int)≤(S[0].toNat:Int):=by rw [e0];omega
  have d2:(S[0].toNat:Int)≤57:=by rw [e0];omega
  rw [←hS] at b1 q1 ⊢
  clear hsz h0 h1 hdg hrd hcv e0 hs0 hS q0 q2
  go_in
  go_wp2_with fail
  go_ret
  exact ⟨rfl,Below.refl _ _⟩
 have HDG:Hid (digW s=false):=hI0 (by rw [hdg];exact decide_eq_false hd)
 have HD:=hI0 hd
 obtain ⟨S,hS⟩:=eN0 (strB s)
 have q3:0<S.size:=by rw [hS];exact q2
 have q4:(0:Int)<(S.size:Int):=by omega
 have e0:S[0]=c0:=by subst hS;exact hs0
 rw [←hS] at b1 q1 hcv ⊢
 have E0:=hI0 e0
 obtain ⟨A,c,rfl,hc1,hc2,hc3⟩:=hrd.open_
 unfold maxLen at hc2
 have H0:=hI0 h0
 clear hsz h0 hdg hd e0 hs0 hS q0 q2
 by_cases hd1:(48:Int)≤(S[0].toNat:Int)
 case' pos=>
  have hd2:¬(S[0].toNat:Int)≤57:=by rw [E0.out] at hd1 ⊢;have:=HD.out;omega
 all_goals
  go_in
  go_wp2_with fail
  go_loop [25] (fun i=>∃k:Nat,k≤s.length∧i=.int .i64 k∧(s.take k).all chW=true) (fun i=>s.length-(intOf i).toNat)
  case atStart=>exact ⟨0,Nat.zero_le _,rfl,rfl⟩
  obtain ⟨k,hk,rfl,hp⟩:=hrel
  have HP:=hI0 hp
  clear hp
  by_cases hlt:k<s.length
  case pos=>
   obtain ⟨b,off,rfl,hF,g0⟩:=RdB.byte hrd hlt
   have HS:=hI0 (@allW_snoc s k hlt HP.out)
   have HB:=hI0 (@nmW_bad s k hlt)
   generalize s[k]=ch at *
   have hc256:=ch.toNat_lt
   have hcases:(ch.toNat:Int)<48∨(48≤(ch.toNat:Int)∧(ch.toNat:Int)≤57)∨(57<(ch.toNat:Int)∧(ch.toNat:Int)<95)∨(ch.toNat:Int)=95∨(ch.toNat:Int)=96∨(97≤(ch.toNat:Int)∧(ch.toNat:Int)≤122)∨122<(ch.toNat:Int):=by omega
   rcases hcases with hq|hq|hq|hq|hq|hq|hq
   ·have f95:¬((ch.toNat:Int)=95):=by omega
    have e95:((ch.toNat:Int)==(95:Int))=false:=by simp;omega
    have a97:¬((97:Int)≤(ch.toNat:Int)):=by omega
    have b97:((ch.toNat:Int)<97):=by omega
    have a48:¬((48:Int)≤(ch.toNat:Int)):=by omega
    have b48:((ch.toNat:Int)<48):=by omega
    have a122:((ch.toNat:Int)≤122):=by omega
    have b122:¬((122:Int)<(ch.toNat:Int)):=by omega
    have a57:((ch.toNat:Int)≤57):=by omega
    have b57:¬((57:Int)<(ch.toNat:Int)):=by omega
    have hw:nmW s=false:=HB.out (by unfold chW;simp;omega)
    have HW:=hI0 hw
    clear hw HS HB hq
    go_wp2_with fail
    go_ret
    exact ⟨by rw [HW.out];rfl,hbW⟩
   ·have f95:¬((ch.toNat:Int)=95):=by omega
    have e95:((ch.toNat:Int)==(95:Int))=false:=by simp;omega
    have a97:¬((97:Int)≤(ch.toNat:Int)):=by omega
    have b97:((ch.toNat:Int)<97):=by omega
    have a48:((48:Int)≤(ch.toNat:Int)):=by omega
    have b48:¬((ch.toNat:Int)<48):=by omega
    have a122:((ch.toNat:Int)≤122):=by omega
    have b122:¬((122:Int)<(ch.toNat:Int)):=by omega
    have a57:((ch.toNat:Int)≤57):=by omega
    have b57:¬((57:Int)<(ch.toNat:Int)):=by omega
    have hch:chW ch=true:=by unfold chW;simp;omega
    have HS2:=hI0 (HS.out hch)
    clear HS HB hch hq
    go_wp2_with fail
    go_round
    case rel=>exact ⟨k+1,by omega,by go_num,HS2.out⟩
    case measure=>simp [intOf];omega
   ·have f95:¬((ch.toNat:Int)=95):=by omega
    have e95:((ch.toNat:Int)==(95:Int))=false:=by simp;omega
    have a97:¬((97:Int)≤(ch.toNat:Int)):=by omega
    have b97:((ch.toNat:Int)<97):=by omega
    have a48:((48:Int)≤(ch.toNat:Int)):=by omega
    have b48:¬((ch.toNat:Int)<48):=by omega
    have a122:((ch.toNat:Int)≤122):=by omega
    have b122:¬((122:Int)<(ch.toNat:Int)):=by omega
    have a57:¬((ch.toNat:Int)≤57):=by omega
    have b57:((57:Int)<(ch.toNat:Int)):=by omega
    have hw:nmW s=false:=HB.out (by unfold chW;simp;omega)
    have HW:=hI0 hw
    clear hw HS HB hq
    go_wp2_with fail
    go_ret
    exact ⟨by rw [HW.out];rfl,hbW⟩
   ·have f95:((ch.toNat:Int)=95):=by omega
    have e95:((ch.toNat:Int)==(95:Int))=true:=by simp;omega
    have a97:¬((97:Int)≤(ch.toNat:Int)):=by omega
    have b97:((ch.toNat:Int)<97):=by omega
    have a48:((48:Int)≤(ch.toNat:Int)):=by omega
    have b48:¬((ch.toNat:Int)<48):=by omega
    have a122:((ch.toNat:Int)≤122):=by omega
    have b122:¬((122:Int)<(ch.toNat:Int)):=by omega
    have a57:¬((ch.toNat:Int)≤57):=by omega
    have b57:((57:Int)<(ch.toNat:Int)):=by omega
    have hch:chW ch=true:=by unfold chW;simp;omega
    have HS2:=hI0 (HS.out hch)
    clear HS HB hch hq
    go_wp2_with fail
    go_round
    case rel=>exact ⟨k+1,by omega,by go_num,HS2.out⟩
    case measure=>simp [intOf];omega
   ·have f95:¬((ch.toNat:Int)=95):=by omega
    have e95:((ch.toNat:Int)==(95:Int))=false:=by simp;omega
    have a97:¬((97:Int)≤(ch.toNat:Int)):=by omega
    have b97:((ch.toNat:Int)<97):=by omega
    have a48:((48:Int)≤(ch.toNat:Int)):=by omega
    have b48:¬((ch.toNat:Int)<48):=by omega
    have a122:((ch.toNat:Int)≤122):=by omega
    have b122:¬((122:Int)<(ch.toNat:Int)):=by omega
    have a57:¬((ch.toNat:Int)≤57):=by omega
    have b57:((57:Int)<(ch.toNat:Int)):=by omega
    have hw:nmW s=false:=HB.out (by unfold chW;simp;omega)
    have HW:=hI0 hw
    clear hw HS HB hq
    go_wp2_with fail
    go_ret
    exact ⟨by rw [HW.out];rfl,hbW⟩
   ·have f95:¬((ch.toNat:Int)=95):=by omega
    have e95:((ch.toNat:Int)==(95:Int))=false:=by simp;omega
    have a97:((97:Int)≤(ch.toNat:Int)):=by omega
    have b97:¬((ch.toNat:Int)<97):=by omega
    have a48:((48:Int)≤(ch.toNat:Int)):=by omega
    have b48:¬((ch.toNat:Int)<48):=by omega
    have a122:((ch.toNat:Int)≤122):=by omega
    have b122:¬((122:Int)<(ch.toNat:Int)):=by omega
    have a57:¬((ch.toNat:Int)≤57):=by omega
    have b57:((57:Int)<(ch.toNat:Int)):=by omega
    have hch:chW ch=true:=by unfold chW;simp;omega
    have HS2:=hI0 (HS.out hch)
    clear HS HB hch hq
    go_wp2_with fail
    go_round
    case rel=>exact ⟨k+1,by omega,by go_num,HS2.out⟩
    case measure=>simp [intOf];omega
   ·have f95:¬((ch.toNat:Int)=95):=by omega
    have e95:((ch.toNat:Int)==(95:Int))=false:=by simp;omega
    have a97:((97:Int)≤(ch.toNat:Int)):=by omega
    have b97:¬((ch.toNat:Int)<97):=by omega
    have a48:((48:Int)≤(ch.toNat:Int)):=by omega
    have b48:¬((ch.toNat:Int)<48):=by omega
    have a122:¬((ch.toNat:Int)≤122):=by omega
    have b122:((122:Int)<(ch.toNat:Int)):=by omega
    have a57:¬((ch.toNat:Int)≤57):=by omega
    have b57:((57:Int)<(ch.toNat:Int)):=by omega
    have hw:nmW s=false:=HB.out (by unfold chW;simp;omega)
    have HW:=hI0 hw
    clear hw HS HB hq
    go_wp2_with fail
    go_ret
    exact ⟨by rw [HW.out];rfl,hbW⟩
  have hw:nmW s=true:=nmW_good H0.out (by omega) HDG.out (by have:=HP.out;rwa [List.take_of_length_le (by omega)] at this)
  have HW:=hI0 hw
  clear hw
  go_wp2_with fail
  go_ret
  exact ⟨by rw [HW.out];rfl,hbW⟩
def tabE (S:ByteArray) (vs:List Ver):Int:=if nmB S=true then chkFrom none vs else 8
def dtT (x:RTv):List UInt8:=if tabE x.table (x.vers.map (·.2))=0 then tvT x else []
def DtOut (x:RTv) (w0:World) (e:Ending) (w:World):Prop:=e=.returned (.tuple #[.string (strB (dtT x)),.int .i64 (tabE x.table (x.vers.map (·.2)))])∧Bl w0 w
theorem DtOut.bad {x:RTv} {w0 w:World} {e:Ending} {r:Int} (h:tabE x.table (x.vers.map (·.2))=r) (h0:r≠0) (he:e=.returned (.tuple #[.string ⟨#[]⟩,.int .i64 r])) (hb:Bl w0 w):DtOut x w0 e w:=by
 subst h
 exact ⟨by rw [he];unfold dtT;rw [if_neg h0];rfl,hb⟩
theorem tvT_ne (x:RTv):tvT x≠[]:=by
 rw [tvT_eq]
 unfold lineB
 simp
theorem rows_few {x:RTv} (h:∀p∈x.vers,validVer p.2=true) (hS:x.table.size≤24) (hn:x.vers.length≤1048576):(tvT x).length≤20000000000:=by
 have q1:=qS_len hS
 have q2:=line_bd1 (f:=verI) (C:=13000) (l:=x.vers.map (·.2)) fun y hy=>by
  obtain ⟨p,hp,rfl⟩:=List.mem_map.1 hy
  have k1:=verI_le (h p hp)
  have k2:=(ver_bd (h p hp)).2.2.2
  exact ⟨by simp [verI],by omega⟩
 have e:(lineB [wTable,qS x.table]).length=sumI [wTable,qS x.table]:=lineB_len _ (by simp)
 have e1:wTable.length=5:=rfl
 unfold tvT tabT
 rw [List.length_append,e]
 rw [List.length_map] at q2
 simp only [sumI_cons,sumI_nil]
 omega
theorem dtable_any (x:RTv) (w:World) (he:EnvD w) (hx:x.is w (ltw w)) (hn:x.vers.length≤1048576):
  Calls prog 13 #[.agg x.enc.toArray] w (DtOut x w):=by
 obtain ⟨S,A,c,ps⟩:=x
 show Calls prog 13 #[.agg #[.string S,.slice A ps.length c]] w (DtOut ⟨S,A,c,ps⟩ w)
 have hv:RdVs w (ltw w) (.slice A ps.length c) ps:=hx
 obtain ⟨A0,C0,hAc,z1,z2,_⟩:=hv.1.open_
 simp only [Value.slice.injEq] at hAc
 obtain ⟨rfl,-,rfl⟩:=hAc
 unfold maxLen at z2
 have HVS:=hI0 hv
 have HE:=hI0 he
 have hn':ps.length≤1048576:=hn
 clear hv hx he hn
 obtain ⟨res,hres⟩:=eN0 (chkFrom none (ps.map (·.2)))
 have HRES:=hI0 hres
 clear hres
 obtain ⟨W1,hW1⟩:=eN0 (w.alloc (.cells #[.string S,.slice A ps.length c] 37))
 have hbW1:=bN0 hW1
 have hnW1:=hN0 hW1
 have eW1:w.alloc (.cells #[.string S,.slice A ps.length c] 37)=W1:=by rw [hW1]
 clear hW1
 have HB1:Hid (Bl w W1):=hI0 hbW1
 have c0:=cW1 0 hnW1 rfl
 have HT1:=hI0 hnW1
 have KN:=hI0 (dname_any S.data.toList W1)
 rw [strB_list] at KN
 obtain ⟨bn,hbn⟩:=eN0 (nmW S.data.toList)
 rw [←hbn] at KN
 have HBN:Hid (bn=nmB S):=hI0 hbn
 clear hbW1 hnW1 hbn
 cases bn
 case false=>
  have HF:Hid (tabE S (ps.map (·.2))=8):=hI0 (by unfold tabE;rw [←HBN.out];rfl)
  go_in
  go_wp2_with fail
  clear eW1
  (with_reducible refine KN.out.mono ?_)
  rintro _ w2 ⟨rfl,hb2⟩
  go_wp2_with fail
  go_ret2
  exact DtOut.bad HF.out (by decide) rfl (bU0 HB1 hb2)
 have HR:Hid (tabE S (ps.map (·.2))=res):=hI0 (by unfold tabE;rw [←HBN.out,HRES.out];rfl)
 go_in
 go_wp2_with fail
 clear eW1 c0
 (with_reducible refine KN.out.mono ?_)
 rintro _ w2 ⟨rfl,hb2⟩
 have HB2:=bT0 HB1 hb2
 have HT2:=hI0 (keepRow hb2 HT1.out)
 have c1:=cW1 1 HT2.out rfl
 clear hb2 HT1 HB1 KN
 go_wp2_with fail
 clear c1
 go_loopw [17] (fun i wr=>∃k:Nat,i=.int .i64 (k:Int)∧k≤ps.length∧Hid (chkFrom (prevV (ps.map (·.2)) k) ((ps.map (·.2)).drop k)=res)∧Hid (∀j (h:j<ps.length),j<k→validVer ps[j].2=true)∧Hid (Bl w2 wr)) (fun i _=>ps.length-(intOf i).toNat)
 case atStart=>exact ⟨0,rfl,Nat.zero_le _,hI0 HRES.out.symm,hI0 (fun j h e=>by omega),hI0 (Below.refl _ _)⟩
 obtain ⟨k,rfl,hk,HI,HPR,HB⟩:=hrel
 obtain ⟨wo,rfl⟩:=eN0 wr
 have HBo:Hid (Bl w wo):=hI0 (HB2.out.trans (HB.out.mono HB2.out.size))
 have HTo:=hI0 (keepRow HB.out HT2.out)
 by_cases hlt:k<ps.length
 case neg=>
  have hke:k=ps.length:=by omega
  have HZ:Hid (res=0):=hI0 (by rw [←HI.out];exact chk_end (by rw [List.length_map];exact hke))
  have HVA:Hid (∀p∈ps,validVer p.2=true):=hI0 (fun p hp=>by
   obtain ⟨j,hj,rfl⟩:=List.mem_iff_getElem.1 hp
   exact HPR.out j hj (by omega))
  have hSz:=nmB_le (s:=S) (by rw [←HBN.out])
  have hTl:=rows_few (x:=⟨S,A,c,ps⟩) HVA.out hSz hn'
  obtain ⟨W3,hW3⟩:=eN0 (wo.alloc (.cells #[.pointer none,.slice none 0 0] 64))
  have hb3:=bN0 hW3
  have HP3:Hid (PrAt W3 wo.heap.size []):=hI0 (by rw [hW3];exact PrAt.new wo)
  have e3:wo.alloc (.cells #[.pointer none,.slice none 0 0] 64)=W3:=by rw [hW3]
  have HT3:=hI0 (keepRow hb3 HTo.out)
  have HB3:=bT0 HBo hb3
  obtain ⟨c0,c1⟩:=cX2 HT3.out
  have KT:Hid (Calls prog 24 #[.pointer (some ⟨wo.heap.size,0,none⟩),.agg #[.string S,.slice A ps.length c]] W3 (PrOut wo.heap.size ([]++tvT ⟨S,A,c,ps⟩) W3)):=hI0 (table_any wo.heap.size [] ⟨S,A,c,ps⟩ W3 ⟨w,HE.out,HBo.out.size,HB3.out⟩ HP3.out ((HVS.out.keep (Keeps.below HB3.out)).wide (fun b' (h':b'<w.heap.size)=>by show b'<wo.heap.size;have:=HBo.out.size;omega)) hSz HVA.out (by simp only [List.length_nil];omega))
  clear hW3 hb3 hke hSz hTl
  go_wp2_with fail
  clear e3 c0 c1
  (with_reducible refine KT.out.mono ?_)
  rintro _ W4 ⟨rfl,hp4,hb4,hk4⟩
  rw [List.nil_append] at hp4
  have KS:=hI0 (prString_any wo.heap.size _ W4 hp4 (tvT_ne _))
  have HB4:Hid (Bl w W4):=hI0 (HB3.out.trans (hb4.mono HBo.out.size))
  clear hp4 hb4 hk4
  go_wp2_with fail
  (with_reducible refine KS.out.mono ?_)
  rintro _ W5 ⟨rfl,hb5⟩
  go_wp2_with fail
  go_ret2
  exact ⟨by unfold dtT;simp only;rw [HR.out,HZ.out];rfl,HB4.out.trans (hb5.mono HBo.out.size)⟩
 have hst:=chk_step (xs:=ps.map (·.2)) (k:=k) (by rw [List.length_map];exact hlt)
 rw [HI.out,List.getElem_map] at hst
 have hVo:=HVS.out.below HBo.out
 obtain ⟨b,off,rfl,hF,-,hx⟩:=RdVs.at_ hVo hlt
 have HV1:Hid (RdVs wo (ltw wo) (.slice (cutA (some ⟨b,off,none⟩) c k 9) 1 (c-k)) [ps[k]]):=hI0 (by
  have h:=RdVs.cut hVo (i:=k) (j:=k+1) (m:=c) (by omega) (by omega) (by omega) (Nat.le_refl _)
  rw [take_one hlt,show k+1-k=1 by omega] at h
  exact h)
 have HV2:Hid (∀j (h:j<ps.length),j+1=k→RdVs wo (ltw wo) (.slice (cutA (some ⟨b,off,none⟩) c j 9) 2 (c-j)) [ps[j],ps[k]]):=hI0 (fun j hj e=>by
  subst e
  have h:=RdVs.cut hVo (i:=j) (j:=j+2) (m:=c) (by omega) (by omega) (by omega) (Nat.le_refl _)
  rw [take_two hlt,show j+2-j=2 by omega] at h
  exact h)
 have HPV:Hid (∀j (h:j<ps.length),j+1=k→prevV (ps.map (·.2)) k=some ps[j].2):=hI0 (fun j hj e=>by
  subst e
  unfold prevV
  rw [if_neg (by omega),List.getElem?_map,Nat.add_sub_cancel,List.getElem?_eq_getElem hj];rfl)
 have HNX:Hid (∀j (h:j<ps.length),j<k+1→validVer ps[k].2=true→validVer ps[j].2=true):=hI0 (fun j hj e hv=>by
  by_cases hjk:j<k
  ·exact HPR.out j hj hjk
  ·have:j=k:=by omega
   subst this
   exact hv)
 have HST:=hI0 hst
 clear hst hVo
 generalize hpk:ps[k]=p at *
 clear hpk
 obtain ⟨r0,x⟩:=p
 simp only at hx HST
 have HX:=hI0 hx
 clear hx
 have hsl1:=fun W=>slice_vers (A:=some ⟨b,off,none⟩) (n:=ps.length) (c:=c) k (k+1) (by omega) (by omega) W
 rw [Int.natCast_add,show ((1:Nat):Int)=1 from rfl] at hsl1
 have hwk:IntKind.i64.wrap ((k:Int)+1)=(k:Int)+1:=by rw [IntKind.wrap_i64];omega
 have KV:=encodeVersions_any _ _ wo HV1.out
 have hee:=encVsE_one x HX.out.ok
 have HEE:=hI0 hee
 have c1:=cW1 1 HTo.out rfl
 clear hee
 go_wp2_with fail
 clear c1 hsl1
 (with_reducible refine KV.mono ?_)
 rintro _ w3 ⟨u,rfl,hb3,-,-⟩
 simp only [List.map_cons,List.map_nil]
 clear KV
 have HB3:Hid (Bl wo w3):=hI0 hb3
 have HB3w:=bT0 HBo hb3
 have HB32:=bT0 HB hb3
 have HT3:=hI0 (keepRow hb3 HTo.out)
 clear hb3
 by_cases hval:validVer x=true
 case neg=>
  have HF:Hid (tabE S (ps.map (·.2))=8):=hI0 (by rw [HR.out,HST.out,if_neg hval])
  rw [HEE.out,if_neg hval]
  clear hval
  go_wp2_with fail
  go_ret2
  exact DtOut.bad HF.out (by decide) rfl HB3w.out
 rw [HEE.out,if_pos hval]
 have HC:Hid (res=if okPrev (prevV (ps.map (·.2)) k) x=true then chkFrom (prevV (ps.map (·.2)) (k+1)) ((ps.map (·.2)).drop (k+1)) else 9):=hI0 (by rw [HST.out,if_pos hval])
 have HVL:Hid (validVer x=true):=hI0 hval
 have HNP:Hid (∀j (h:j<ps.length),j<k+1→validVer ps[j].2=true):=hI0 (fun j h e=>HNX.out j h e HVL.out)
 clear hval
 by_cases hk0:k=0
 case pos=>
  have hz1:¬(0:Int)<(k:Int):=by omega
  have hz2:¬ 0<k:=by omega
  have HN:Hid (chkFrom (prevV (ps.map (·.2)) (k+1)) ((ps.map (·.2)).drop (k+1))=res):=hI0 (by rw [HC.out,if_pos (by subst hk0;rfl)])
  clear hk0
  go_wp2_with fail
  go_roundw
  case rel=>exact ⟨k+1,by go_num,by omega,HN,HNP,HB32⟩
  case measure=>simp [intOf];omega
 obtain ⟨j,hj⟩:∃j,j+1=k:=⟨k-1,by omega⟩
 have hjl:j<ps.length:=by omega
 have hz1:(0:Int)<(k:Int):=by omega
 have hz2:0<k:=by omega
 have hV2:=HV2.out j hjl hj
 have hp2:=HPR.out j hjl (by omega)
 have hpv:=HPV.out j hjl hj
 have hsl2:=fun W=>slice_vers (A:=some ⟨b,off,none⟩) (n:=ps.length) (c:=c) j (j+2) (by omega) (by omega) W
 have hwj:IntKind.i64.wrap ((k:Int)-1)=(j:Int):=by rw [IntKind.wrap_i64];omega
 rw [show ((j+2:Nat):Int)=(k:Int)+1 by omega,show j+2-j=2 by omega] at hsl2
 have KV:=encodeVersions_any _ _ w3 (hV2.below HB3.out)
 have htwo:=encVsE_two hp2 HVL.out
 have hC2:=HC.out
 rw [hpv,show okPrev (some ps[j].2) x=ltV ps[j].2 x from rfl] at hC2
 unfold EncVOut at KV
 simp only [List.map_cons,List.map_nil] at KV
 generalize encVsE [ps[j].2,x]=ev at *
 have HC2:=hI0 hC2
 have HTW:=hI0 htwo
 have HJ:=hI0 hj
 have c1:=cW1 1 HT3.out rfl
 clear hV2 hp2 hpv hC2 htwo hj hk0
 go_wp2_with fail
 clear c1
 (with_reducible refine KV.mono ?_)
 rintro _ w4 ⟨u3,rfl,hb4,-,-⟩
 have HB4:=bT0 HB3w hb4
 have HB42:=bT0 HB32 hb4
 clear hb4 KV hsl2
 by_cases hev:ev=9
 case pos=>
  have HF:Hid (tabE S (ps.map (·.2))=9):=hI0 (by rw [HR.out,HC2.out,if_neg (by rw [HTW.out.1 hev];decide)])
  subst hev
  go_wp2_with fail
  go_ret2
  exact DtOut.bad HF.out (by decide) rfl HB4.out
 have HN:Hid (chkFrom (prevV (ps.map (·.2)) (k+1)) ((ps.map (·.2)).drop (k+1))=res):=hI0 (by rw [HC2.out,if_pos (by
  rcases hb:ltV ps[j].2 x with _|_
  ·exact absurd (HTW.out.2 hb) hev
  ·rfl)])
 go_wp2_with fail
 go_roundw
 case rel=>exact ⟨k+1,by go_num,by omega,HN,HNP,HB42⟩
 case measure=>simp [intOf];omega
end Go.Proofs.YtgfhknnklapldaaGreatDoor
