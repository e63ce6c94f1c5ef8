/-
 WkA
-/
import Derived.Test.YtbfdegkickjbpaaGreatHSrcR
import Derived.Deep.Cut
import Derived.Test.YtbfdegkickjbpaaGreatHVerJr
namespace Go.Proofs.YtbfdegkickjbpaaGreat
set_option maxRecDepth 1000000
set_option maxHeartbeats 32000000
open Go.RowKit Go.Lib Go.IntWalk Go.Sort Go.Shelf
theorem zq39 {P:Prop} (i:Nat) (h:Tg i→P:=by
 intro zT39
 first
  |guard_hyp zT39:Tg 2
   have f95:((ch.toNat:Int)=95):=by omega
   have e95:((ch.toNat:Int)==(95:Int))=true:=by simp;omega
   have a97:¬((97:Int)≤(ch.toNat:Int)):=by omega
   have b97:((ch.toNat:Int)<97):=by omega
  |have f95:¬((ch.toNat:Int)=95):=by omega
   have e95:((ch.toNat:Int)==(95:Int))=false:=by simp;omega
   first
    |guard_hyp zT39:Tg 1
     have a97:((97:Int)≤(ch.toNat:Int)):=by omega
     have b97:¬((ch.toNat:Int)<97):=by omega
    |have a97:¬((97:Int)≤(ch.toNat:Int)):=by omega
     have b97:((ch.toNat:Int)<97):=by omega
 have a48:((48:Int)≤(ch.toNat:Int)):=by omega
 have b48:¬((ch.toNat:Int)<48):=by omega
 have a122:((ch.toNat:Int)≤122):=by omega
 have b122:¬((122:Int)<(ch.toNat:Int)):=by omega
 first
  |guard_hyp zT39:Tg 2
   have a57:¬((ch.toNat:Int)≤57):=by omega
   have b57:((57:Int)<(ch.toNat:Int)):=by omega
  |guard_hyp zT39:Tg 1
   have a57:¬((ch.toNat:Int)≤57):=by omega
   have b57:((57:Int)<(ch.toNat:Int)):=by omega
  |have a57:((ch.toNat:Int)≤57):=by omega
   have b57:¬((57:Int)<(ch.toNat:Int)):=by omega
 have hch:chW ch=true:=by unfold chW;simp;omega
 have HS2:=hI0 (HS.out hch)
 clear HS HB hch hq
 go_wp2_with fail
 go_round
 case rel=>exact ⟨k+1,by omega,by go_num,HS2.out⟩
 case measure=>simp [intOf];omega) : P := h ⟨⟩
theorem zq43 {P:Prop} (i:Nat) (h:Tg i→P:=by
 intro zT43
 have f95:¬((ch.toNat:Int)=95):=by omega
 have e95:((ch.toNat:Int)==(95:Int))=false:=by simp;omega
 first
  |guard_hyp zT43:Tg 2
   have a97:((97:Int)≤(ch.toNat:Int)):=by omega
   have b97:¬((ch.toNat:Int)<97):=by omega
   have a48:((48:Int)≤(ch.toNat:Int)):=by omega
   have b48:¬((ch.toNat:Int)<48):=by omega
   have a122:¬((ch.toNat:Int)≤122):=by omega
   have b122:((122:Int)<(ch.toNat:Int)):=by omega
   have a57:¬((ch.toNat:Int)≤57):=by omega
   have b57:((57:Int)<(ch.toNat:Int)):=by omega
  |have a97:¬((97:Int)≤(ch.toNat:Int)):=by omega
   have b97:((ch.toNat:Int)<97):=by omega
   first
    |guard_hyp zT43:Tg 1
     have a48:((48:Int)≤(ch.toNat:Int)):=by omega
     have b48:¬((ch.toNat:Int)<48):=by omega
    |have a48:¬((48:Int)≤(ch.toNat:Int)):=by omega
     have b48:((ch.toNat:Int)<48):=by omega
   have a122:((ch.toNat:Int)≤122):=by omega
   have b122:¬((122:Int)<(ch.toNat:Int)):=by omega
   first
    |guard_hyp zT43:Tg 1
     have a57:¬((ch.toNat:Int)≤57):=by omega
     have b57:((57:Int)<(ch.toNat:Int)):=by omega
    |have a57:((ch.toNat:Int)≤57):=by omega
     have b57:¬((57:Int)<(ch.toNat:Int)):=by omega
 have hw:nmW s=false:=HB.out (by unfold chW;simp;omega)
 have HW:=hI0 hw
 clear hw HS HB hq
 go_wp2_with fail
 go_ret
 exact ⟨by rw [HW.out];rfl,hbW⟩) : P := h ⟨⟩
theorem recWord_any (s:List UInt8) (w:World):Calls Tryz.prog 33 #[.string (strB s)] w fun e w'=>e=.returned (.bool (nmW s))∧Below w.heap.size w w':=by
 have hsz:=strB_size s
 by_cases h0:s.length=0
 ·obtain rfl:s=[]:=List.eq_nil_of_length_eq_zero h0
  rw [nmW_nil]
  have b1:(strB []).toList.isEmpty=true:=by rw [ByteArray.toList_eq];rfl
  generalize strB []=S at *
  clear h0 hsz
  go_enter Tryz.func33,Tryz.ntmps33
  go_wp2_with fail
  go_ret
  exact ⟨rfl,Below.refl _ _⟩
 have b1:(strB s).toList.isEmpty=false:=by rw [ByteArray.toList_eq];cases s<;>simp_all [strB]
 by_cases h1:24<s.length
 ·rw [nmW_long h1]
  have q1:(24:Int)<((strB s).size:Int):=by omega
  generalize strB s=S at *
  clear hsz h0 h1
  go_enter Tryz.func33,Tryz.ntmps33
  go_wp2_with fail
  go_ret
  exact ⟨rfl,Below.refl _ _⟩
 have q1:¬(24:Int)<((strB s).size:Int):=by omega
 have hdg:=digW_of (s:=s) (by omega)
 have hs0:(strB s)[0]'(by rw [strB_size];omega)=s[0]:=rfl
 obtain ⟨x,W,hcv,hrd,hbW⟩:=conv_sb w (strB s) (by omega)
 rw [show (strB s).data.toList=s by simp [strB]] at hrd
 generalize s[0]=c0 at hdg hs0
 have q0:(0:Int)<((strB s).size:Int):=by omega
 have q2:0<(strB s).size:=by omega
 have hc0l:=c0.toNat_lt
 by_cases hd:48≤c0.toNat∧c0.toNat≤57
 ·rw [nmW_dig (by rw [hdg];exact decide_eq_true hd)]
  obtain ⟨S,hS⟩:∃S,S=strB s:=⟨_,rfl⟩
  have q3:0<S.size:=by rw [hS];exact q2
  have q4:(0:Int)<(S.size:Int):=by omega
  have e0:S[0]=c0:=by subst hS;exact hs0
  have d1:(48:Int)≤(S[0].toNat:Int):=by rw [e0];omega
  have d2:(S[0].toNat:Int)≤57:=by rw [e0];omega
  rw [←hS] at b1 q1 ⊢
  clear hsz h0 h1 hdg hrd hcv e0 hs0 hS q0 q2
  go_enter Tryz.func33,Tryz.ntmps33
  go_wp2_with fail
  go_ret
  exact ⟨rfl,Below.refl _ _⟩
 have HDG:Hid (digW s=false):=hI0 (by rw [hdg];exact decide_eq_false hd)
 have HD:=hI0 hd
 obtain ⟨S,hS⟩:∃S,S=strB s:=⟨_,rfl⟩
 have q3:0<S.size:=by rw [hS];exact q2
 have q4:(0:Int)<(S.size:Int):=by omega
 have e0:S[0]=c0:=by subst hS;exact hs0
 rw [←hS] at b1 q1 hcv ⊢
 have E0:=hI0 e0
 obtain ⟨A,c,rfl,hc1,hc2,hc3⟩:=hrd.open_
 unfold maxLen at hc2
 have H0:=hI0 h0
 clear hsz h0 hdg hd e0 hs0 hS q0 q2
 by_cases hd1:(48:Int)≤(S[0].toNat:Int)
 case' pos=>
  have hd2:¬(S[0].toNat:Int)≤57:=by rw [E0.out] at hd1 ⊢;have:=HD.out;omega
 all_goals
  go_enter Tryz.func33,Tryz.ntmps33
  go_wp2_with fail
  go_loop [25] (fun i=>∃k:Nat,k≤s.length∧i=.int .i64 k∧(s.take k).all chW=true) (fun i=>s.length-(intOf i).toNat)
  case atStart=>exact ⟨0,Nat.zero_le _,rfl,rfl⟩
  obtain ⟨k,hk,rfl,hp⟩:=hrel
  have HP:=hI0 hp
  clear hp
  by_cases hlt:k<s.length
  case pos=>
   obtain ⟨b,off,rfl,hF,g0⟩:=RdB.byte hrd hlt
   have HS:=hI0 (@allW_snoc s k hlt HP.out)
   have HB:=hI0 (@nmW_bad s k hlt)
   generalize s[k]=ch at *
   have hc256:=ch.toNat_lt
   have hcases:(ch.toNat:Int)<48∨(48≤(ch.toNat:Int)∧(ch.toNat:Int)≤57)∨(57<(ch.toNat:Int)∧(ch.toNat:Int)<95)∨(ch.toNat:Int)=95∨(ch.toNat:Int)=96∨(97≤(ch.toNat:Int)∧(ch.toNat:Int)≤122)∨122<(ch.toNat:Int):=by omega
   rcases hcases with hq|hq|hq|hq|hq|hq|hq
   ·exact zq43 0
   ·exact zq39 0
   ·exact zq43 1
   ·exact zq39 2
   ·exact zq43 1
   ·exact zq39 1
   ·exact zq43 2
  have hw:nmW s=true:=nmW_good H0.out (by omega) HDG.out (by have:=HP.out;rwa [List.take_of_length_le (by omega)] at this)
  have HW:=hI0 hw
  clear hw
  go_wp2_with fail
  go_ret
  exact ⟨by rw [HW.out];rfl,hbW⟩
end Go.Proofs.YtbfdegkickjbpaaGreat
