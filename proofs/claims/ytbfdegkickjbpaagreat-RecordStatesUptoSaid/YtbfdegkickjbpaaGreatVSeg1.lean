/-
 Seg1
-/
import Derived.Test.YtbfdegkickjbpaaGreatVSrc1
import Derived.Test.YtbfdegkickjbpaaGreatVFrame
import Derived.Deep.Cut
namespace Go.Proofs.YtbfdegkickjbpaaGreat
open Tryz
set_option maxRecDepth 99999
set_option maxHeartbeats 0
theorem zq39 {P:Prop} (h:P:=by
 have KI:=bufInt_any base B l 0 w hbB h (by omega) (by omega) (by omega)
 go_in
 go_wp2_with fail
 (with_reducible refine KI.mono ?_)
 rintro _ w1 ⟨rfl,hA1,hb1,hk1⟩
 have HR:=hI0 (And.intro hA1 (And.intro hb1 hk1))
 clear hA1 hb1 hk1 KI
 go_wp2_with fail
 go_loopw [16] (fun i wr=>i=.int .i64 0∧wr=w1) (fun _ _=>0)
 case atStart=>exact ⟨rfl,rfl⟩
 obtain ⟨rfl,hw⟩:=hrel
 rw [hw]
 clear hw
 go_wp2_with fail
 go_end0
 exact ⟨rfl,HR.out⟩) : P := h
theorem zq59 {P:Prop} (i:Nat) (h:Tg i→P:=by
 intro zT59
 have f95:¬((ch.toNat:Int)=95):=by omega
 have e95:((ch.toNat:Int)==(95:Int))=false:=by simp;omega
 have a97:¬((97:Int)≤(ch.toNat:Int)):=by omega
 have b97:((ch.toNat:Int)<97):=by omega
 first
  |first|guard_hyp zT59:Tg 2|guard_hyp zT59:Tg 3
   have a48:¬((48:Int)≤(ch.toNat:Int)):=by omega
   have b48:((ch.toNat:Int)<48):=by omega
  |have a48:((48:Int)≤(ch.toNat:Int)):=by omega
   have b48:¬((ch.toNat:Int)<48):=by omega
 have a122:((ch.toNat:Int)≤122):=by omega
 have b122:¬((122:Int)<(ch.toNat:Int)):=by omega
 have a57:((ch.toNat:Int)≤57):=by omega
 have b57:¬((57:Int)<(ch.toNat:Int)):=by omega
 first
  |guard_hyp zT59:Tg 3;have hw:wf=false:=by rw [←HWF.out];exact HB.out (by unfold chW;simp;omega)
   subst hw
   clear HS HB hq
   go_wp2_with fail
   go_ret
   exact ⟨rfl,rfl⟩
  |guard_hyp zT59:Tg 2;have hw:nmW s=false:=HB.out (by unfold chW;simp;omega)
   have HW:=hI0 hw
   clear hw HS HB hq
   go_wp2_with fail
   go_ret
   exact ⟨by rw [HW.out];rfl,hbW⟩
  |guard_hyp zT59:Tg 1;have hch:chW ch=true:=by unfold chW;simp;omega
   have HS2:=hI0 (HS.out hch)
   clear HS HB hch hq
   go_wp2_with fail
   go_round
   case rel=>exact ⟨k+1,by omega,by go_num,HS2.out⟩
   case measure=>simp [intOf];omega
  |by_cases hkk:k=0
   ·have hw:wf=false:=by rw [←HWF.out];exact nmW_dig (by rw [HD0.out hkk];exact decide_eq_true (by omega))
    subst hw
    clear HS HB hq
    first
     |(exact absurd hkk HK0.out)
     |(clear hkk
       go_wp2_with fail
       go_ret
       exact ⟨rfl,rfl⟩)
   ·have hch:chW ch=true:=by unfold chW;simp;omega
    have HS2:=hI0 (HS.out hch)
    have HKN:Hid (0<k+1→digW s=false):=hI0 (fun _=>HK.out (by omega))
    clear HS HB hch hq
    first
     |(exact absurd HK0.out hkk)
     |(clear hkk
       go_wp2_with fail
       go_round
       case rel=>exact ⟨k+1,by omega,by go_num,HKN,HS2.out⟩
       case measure=>simp [intOf];omega)) : P := h ⟨⟩
theorem zq60 {P:Prop} (i:Nat) (h:Tg i→P:=by
 intro zT60
 first
  |guard_hyp zT60:Tg 4;have f95:¬((ch.toNat:Int)=95):=by omega
   have e95:((ch.toNat:Int)==(95:Int))=false:=by simp;omega
   have a97:¬((97:Int)≤(ch.toNat:Int)):=by omega
   have b97:((ch.toNat:Int)<97):=by omega
  |first|guard_hyp zT60:Tg 1|guard_hyp zT60:Tg 3
   have f95:((ch.toNat:Int)=95):=by omega
   have e95:((ch.toNat:Int)==(95:Int))=true:=by simp;omega
   have a97:¬((97:Int)≤(ch.toNat:Int)):=by omega
   have b97:((ch.toNat:Int)<97):=by omega
  |have f95:¬((ch.toNat:Int)=95):=by omega
   have e95:((ch.toNat:Int)==(95:Int))=false:=by simp;omega
   have a97:((97:Int)≤(ch.toNat:Int)):=by omega
   have b97:¬((ch.toNat:Int)<97):=by omega
 have a48:((48:Int)≤(ch.toNat:Int)):=by omega
 have b48:¬((ch.toNat:Int)<48):=by omega
 have a122:((ch.toNat:Int)≤122):=by omega
 have b122:¬((122:Int)<(ch.toNat:Int)):=by omega
 have a57:¬((ch.toNat:Int)≤57):=by omega
 have b57:((57:Int)<(ch.toNat:Int)):=by omega
 first
  |guard_hyp zT60:Tg 4;have hw:nmW s=false:=HB.out (by unfold chW;simp;omega)
   have HW:=hI0 hw
   clear hw HS HB hq
  |have hch:chW ch=true:=by unfold chW;simp;omega
   have HS2:=hI0 (HS.out hch)
   first
    |done
    |first|guard_hyp zT60:Tg 2|guard_hyp zT60:Tg 3
    |have HKN:Hid (0<k+1→digW s=false):=hI0 (fun _=>(Nat.eq_zero_or_pos k).elim (fun h=>by rw [HD0.out h];exact decide_eq_false (by omega)) HK.out)
   clear HS HB hch hq
 go_wp2_with fail
 first
  |guard_hyp zT60:Tg 4;go_ret
   exact ⟨by rw [HW.out];rfl,hbW⟩
  |go_round
   first
    |first|guard_hyp zT60:Tg 2|guard_hyp zT60:Tg 3
     case rel=>exact ⟨k+1,by omega,by go_num,HS2.out⟩
    |case rel=>exact ⟨k+1,by omega,by go_num,HKN,HS2.out⟩
   case measure=>simp [intOf];omega) : P := h ⟨⟩
theorem zq67 {P:Prop} (i:Nat) (h:Tg i→P:=by
 intro zT67
 have f95:¬((ch.toNat:Int)=95):=by omega
 have e95:((ch.toNat:Int)==(95:Int))=false:=by simp;omega
 first
  |guard_hyp zT67:Tg 1;have a97:¬((97:Int)≤(ch.toNat:Int)):=by omega
   have b97:((ch.toNat:Int)<97):=by omega
  |have a97:((97:Int)≤(ch.toNat:Int)):=by omega
   have b97:¬((ch.toNat:Int)<97):=by omega
 have a48:((48:Int)≤(ch.toNat:Int)):=by omega
 have b48:¬((ch.toNat:Int)<48):=by omega
 first
  |guard_hyp zT67:Tg 1;have a122:((ch.toNat:Int)≤122):=by omega
   have b122:¬((122:Int)<(ch.toNat:Int)):=by omega
  |have a122:¬((ch.toNat:Int)≤122):=by omega
   have b122:((122:Int)<(ch.toNat:Int)):=by omega
 have a57:¬((ch.toNat:Int)≤57):=by omega
 have b57:((57:Int)<(ch.toNat:Int)):=by omega
 first
  |guard_hyp zT67:Tg 0;have hw:nmW s=false:=HB.out (by unfold chW;simp;omega)
   have HW:=hI0 hw
   clear hw HS HB hq
  |have hw:wf=false:=by rw [←HWF.out];exact HB.out (by unfold chW;simp;omega)
   subst hw
   clear HS HB hq
 go_wp2_with fail
 go_ret
 first
  |guard_hyp zT67:Tg 0;exact ⟨by rw [HW.out];rfl,hbW⟩
  |exact ⟨rfl,rfl⟩) : P := h ⟨⟩
theorem zq75 {P:Prop} (i:Nat) (h:Tg i→P:=by
 intro zT75
 first
  |guard_hyp zT75:Tg 1;obtain rfl:d=e:=by rw [hd,if_neg he]
  |subst he
   obtain rfl:d=c:=by rw [hd,if_pos rfl]
 clear hd
 go_in
 go_wp2_with fail
 exact bodyPost_ret (v:=.agg #[.slice bA bn bc,.int .i64 a,.int .i64 d,.int .i64 0,.string ⟨#[]⟩,.int .i64 0,.int .i64 0,.string ⟨#[]⟩,.slice none 0 0,.int .i64 0,.int .i64 0,.slice none 0 0]) zi44 rfl ⟨rfl,rfl⟩) : P := h ⟨⟩
theorem zq118 {P:Prop} (i:Nat) (h:Tg i→P:=by
 intro zT118
 first
  |guard_hyp zT118:Tg 1;obtain ⟨b,off,rfl,hF,g0⟩:=RdB.byte hrd hlt
  |have hix:=HIX.out k hlt
   have q0:(k:Int)<(S.size:Int):=by omega
 have HS:=hI0 (@allW_snoc s k hlt HP.out)
 have HB:=hI0 (@nmW_bad s k hlt)
 first
  |done
  |guard_hyp zT118:Tg 1
  |have HD0:Hid (k=0→digW s=decide (48≤(s[k]).toNat∧(s[k]).toNat≤57)):=hI0 (fun h=>by subst h;exact digW_of hlt)
 generalize s[k]=ch at *
 have hc256:=ch.toNat_lt
 have hcases:(ch.toNat:Int)<48∨(48≤(ch.toNat:Int)∧(ch.toNat:Int)≤57)∨(57<(ch.toNat:Int)∧(ch.toNat:Int)<95)∨(ch.toNat:Int)=95∨(ch.toNat:Int)=96∨(97≤(ch.toNat:Int)∧(ch.toNat:Int)≤122)∨122<(ch.toNat:Int):=by omega
 first
  |guard_hyp zT118:Tg 1;rcases hcases with hq|hq|hq|hq|hq|hq|hq
   ·exact zq59 2
   ·exact zq59 1
   ·exact zq60 4
   ·exact zq60 3
   ·exact zq60 4
   ·exact zq60 2
   ·exact zq67 0
  |by_cases hk0:k=0
   all_goals
    have HK0:=hI0 hk0
    first
     |(have z1:¬(0:Int)<(k:Int):=by omega
       have z2:¬ 0<k:=by omega
       clear hk0)
     |(have z1:(0:Int)<(k:Int):=by omega
       have z2:0<k:=by omega
       clear hk0)
    rcases hcases with hq|hq|hq|hq|hq|hq|hq
    ·exact zq59 3
    ·exact zq59 0
    ·exact zq67 1
    ·exact zq60 1
    ·exact zq67 1
    ·exact zq60 0
    ·exact zq67 2) : P := h ⟨⟩
theorem zi28 {P:Prop} (h:P:=by simp [results,results74,go_sem]):P:=h
theorem zi44 {P:Prop} (h:P:=by simp [results,results170,go_sem]):P:=h
section
open Go.RowKit Go.Lib Go.IntWalk Go.Sort Go.Shelf
def chW (c:UInt8):Bool:=decide ((97≤c.toNat∧c.toNat≤122)∨c.toNat=95∨(48≤c.toNat∧c.toNat≤57))
def digW (s:List UInt8):Bool:=match s with|c::_=>decide (48≤c.toNat∧c.toNat≤57)|[]=>false
def nmW (s:List UInt8):Bool:= !decide (s.length=0)&&decide (s.length≤24)&& !digW s&&s.all chW
theorem nmW_nil:nmW []=false:=rfl
theorem nmW_long {s:List UInt8} (h:24<s.length):nmW s=false:=by
 unfold nmW;rw [show decide (s.length≤24)=false from by simp;omega];simp
theorem nmW_dig {s:List UInt8} (h:digW s=true):nmW s=false:=by unfold nmW;rw [h];simp
theorem nmW_bad {s:List UInt8} {k:Nat} (hk:k<s.length) (h:chW s[k]=false):nmW s=false:=by
 have:s.all chW=false:=by
  rw [List.all_eq_false]
  exact ⟨s[k],List.getElem_mem hk,by rw [h];simp⟩
 unfold nmW;rw [this];simp
theorem nmW_good {s:List UInt8} (h0:¬s.length=0) (h1:s.length≤24) (hd:digW s=false) (h:s.all chW=true):nmW s=true:=by
 unfold nmW;rw [h,hd];simp;exact ⟨by intro e;subst e;simp at h0,h1⟩
theorem allW_snoc {s:List UInt8} {k:Nat} (hk:k<s.length) (h:(s.take k).all chW=true) (hc:chW s[k]=true):(s.take (k+1)).all chW=true:=by
 rw [List.take_succ_eq_append_getElem hk,List.all_append,h]
 simp [hc]
theorem digW_of {s:List UInt8} (h:0<s.length):digW s=decide (48≤(s[0]).toNat∧(s[0]).toNat≤57):=by
 cases s with
 |nil=>simp at h
 |cons c r=>rfl
theorem run_index_str (S:ByteArray) (s:List UInt8) (hS:S=strB s) (k:Nat) (hk:k<s.length) (w:World):(Instr.index 9 (.string S) (.int .i64 (k:Int))).run prog w=.ok (.int .u8 ((s[k]'hk).toNat:Int)) w:=by
 subst hS
 have h:(strB s)[k]? =some s[k]:=by
  have h1:k<(strB s).size:=by rw [strB_size];exact hk
  rw [getElem?_pos (strB s) k h1]
  rfl
 simp [Instr.index,asIntOf,run_underlying underlying9,h]
theorem refName_any (s:List UInt8) (w:World) (hlen:s.length≤maxLen):Calls prog 44 #[.string (strB s)] w fun e w'=>e=.returned (.bool (nmW s))∧w=w':=by
 have hsz:=strB_size s
 have HIX:=hI0 (run_index_str (strB s) s rfl)
 generalize hwf:nmW s=wf
 have HWF:=hI0 hwf
 clear hwf
 generalize strB s=S at *
 unfold maxLen at hlen
 go_in
 go_wp2_with fail
 go_loop [3] (fun i=>∃k:Nat,k≤s.length∧i=.int .i64 k∧Hid (0<k→digW s=false)∧(s.take k).all chW=true) (fun i=>s.length-(intOf i).toNat)
 case atStart=>exact ⟨0,Nat.zero_le _,rfl,hI0 (fun h=>by omega),rfl⟩
 obtain ⟨k,hk,rfl,HK,hp⟩:=hrel
 have HP:=hI0 hp
 clear hp
 by_cases hlt:k<s.length
 case pos=>
  exact zq118 0
 have q0:¬(k:Int)<(S.size:Int):=by omega
 have hal:s.all chW=true:=by have:=HP.out;rwa [List.take_of_length_le (by omega)] at this
 have HAL:=hI0 hal
 clear hal
 by_cases h0:s.length=0
 ·have hw:wf=false:=by rw [←HWF.out,List.eq_nil_of_length_eq_zero h0];rfl
  subst hw
  have q1:¬(1:Int)≤(S.size:Int):=by omega
  go_wp2_with fail
  go_ret
  exact ⟨rfl,rfl⟩
 ·have q1:(1:Int)≤(S.size:Int):=by omega
  by_cases h1:s.length≤24
  ·have hw:wf=true:=by rw [←HWF.out];exact nmW_good h0 h1 (HK.out (by omega)) HAL.out
   subst hw
   have q2:decide ((s.length:Int)≤24)=true:=by simp;omega
   go_wp2_with fail
   go_ret
   exact ⟨rfl,rfl⟩
  ·have hw:wf=false:=by rw [←HWF.out];exact nmW_long (by omega)
   subst hw
   have q2:decide ((s.length:Int)≤24)=false:=by simp;omega
   go_wp2_with fail
   go_ret
   exact ⟨rfl,rfl⟩
end
section
open Go.RowKit Go.Lib Go.IntWalk Go.Sort Go.Shelf
section
variable {P:Program} {t e:TypeId} {i:TypeInfo} {size:Nat}
end
theorem flat_drop {α:Type} (n:Nat) (f:α→List Value) (hf:∀x,(f x).length=n):∀(i:Nat) (l:List α),(l.flatMap f).drop (i*n)=(l.drop i).flatMap f:=by
 intro i
 induction i with
 |zero=>intro l;simp
 |succ i ih=>
  intro l
  cases l with
  |nil=>simp
  |cons a r=>
   rw [List.flatMap_cons,List.drop_succ_cons,←ih r,Nat.succ_mul,Nat.add_comm,←List.drop_drop]
   congr 1
   rw [←hf a,List.drop_left]
theorem flat_take {α:Type} (n:Nat) (f:α→List Value) (hf:∀x,(f x).length=n):∀(i:Nat) (l:List α),(l.flatMap f).take (i*n)=(l.take i).flatMap f:=by
 intro i
 induction i with
 |zero=>intro l;simp
 |succ i ih=>
  intro l
  cases l with
  |nil=>simp
  |cons a r=>
   rw [List.flatMap_cons,List.take_succ_cons,List.flatMap_cons,←ih r,Nat.succ_mul,Nat.add_comm,List.take_add,←hf a,List.take_left,List.drop_left]
theorem RdVs.cut {w:World} {F:Nat→Prop} {A:Option Addr} {c:Nat} {ps:List VP} (h:RdVs w F (.slice A ps.length c) ps) {i j m:Nat} (hij:i≤j) (hj:j≤ps.length) (hm:j≤m) (hmc:m≤c):
  RdVs w F (.slice (cutA A m i 9) (j-i) (m-i)) ((ps.drop i).take (j-i)):=by
 refine ⟨?_,fun p hp=>h.2 p (List.mem_of_mem_drop (List.mem_of_mem_take hp))⟩
 have h1:=Rd.cut' h.1 (l:=i) (h:=j) (m:=m) hij hj hm hmc
 rw [flat_drop 9 _ (fun p=>p.1.enc_length),flat_take 9 _ (fun p=>p.1.enc_length)] at h1
 have e:((ps.drop i).take (j-i)).length=j-i:=by rw [List.length_take,List.length_drop];omega
 rw [e]
 exact h1
end
section
open Go.RowKit Go.Lib Go.IntWalk Go.Sort Go.Shelf
theorem refVersions_any (v:Value) (ps:List VP) (w:World) (hv:RdVs w (ltw w) v ps):
  Calls prog 185 #[v] w fun e w'=>e=.returned (.int .i64 (chkFrom none (ps.map (·.2))))∧Bl w w':=by
 obtain ⟨A,c,rfl,hc1,hc2,hc3⟩:=hv.1.open_
 unfold maxLen at hc2
 have HVP:=hI0 hv
 clear hv
 obtain ⟨res,hres⟩:=eN0 (chkFrom none (ps.map (·.2)))
 rw [←hres]
 have HRES:=hI0 hres
 clear hres hc3
 go_in
 go_wp2_with fail
 go_loopw [7] (fun i wr=>∃j:Nat,i=.int .i64 (j:Int)∧j≤ps.length∧Hid (chkFrom (prevV (ps.map (·.2)) j) ((ps.map (·.2)).drop j)=res)∧Bl w wr) (fun i _=>ps.length-(intOf i).toNat)
 case atStart=>exact ⟨0,rfl,Nat.zero_le _,hI0 HRES.out.symm,Below.refl _ _⟩
 obtain ⟨j,rfl,hj,HJ,hBi⟩:=hrel
 obtain ⟨wi,rfl⟩:=eN0 wr
 have hsi:=hBi.size
 by_cases hltj:j<ps.length
 case neg=>
  have hje:j=ps.length:=by omega
  have HZ:Hid (res=0):=hI0 (by rw [←HJ.out];exact chk_end (by rw [List.length_map];exact hje))
  go_wp2_with fail
  go_ret
  exact ⟨ret_int HZ.out.symm,hBi⟩
 obtain ⟨b2,off2,rfl,hF2,hcl,hx⟩:=RdVs.at_ (HVP.out.below hBi) hltj
 have hst:=chk_step (xs:=ps.map (·.2)) (k:=j) (by rw [List.length_map];exact hltj)
 rw [HJ.out,List.getElem_map] at hst
 have hpv:0<j→∃q:VP,prevV (ps.map (·.2)) j=some q.2∧VerIs wi (ltw wi) q.1 q.2∧∀t u,t<9→q.1.enc[t]? =some u→wi.cell? ⟨b2,off2+(j-1)*9+t,none⟩=some u:=fun h0=>by
  obtain ⟨b',off',e,_,hcl',hx'⟩:=RdVs.at_ (HVP.out.below hBi) (k:=j-1) (by omega)
  injection e with e;injection e with e1 e2;subst e1;subst e2
  refine ⟨ps[j-1],?_,hx',hcl'⟩
  unfold prevV
  rw [if_neg (by omega),List.getElem?_map,List.getElem?_eq_getElem (by omega)];rfl
 have HPV:=hI0 hpv
 have HST:=hI0 hst
 clear hst hpv
 generalize ps[j]=p at *
 obtain ⟨⟨x1,x2,xA,xn,xc,x3,x4,x5,x6,x7,x8⟩,x⟩:=p
 simp only at hcl hx HST
 obtain ⟨g0,g1,g2,g3,g4,g5,g6,g7,g8⟩:=cK9 hcl (show _=[.int .i64 x1,.int .i64 x2,.slice xA xn xc,.int .i64 x3,.int .i64 x4,.int .i64 x5,.int .i64 x6,.int .i64 x7,.int .i64 x8] from rfl)
 have HX:=hI0 hx
 clear hcl hx
 go_wp2_with fail
 obtain ⟨W1,hW1⟩:=eN0 (wi.alloc (.cells #[.int .i64 x1,.int .i64 x2,.slice xA xn xc,.int .i64 x3,.int .i64 x4,.int .i64 x5,.int .i64 x6,.int .i64 x7,.int .i64 x8] 167))
 have hWs:W1.heap.size=wi.heap.size+1:=by subst hW1;simp
 have hbW:Bl wi W1:=by subst hW1;exact Below.of_alloc _
 have hWh:W1.heap[wi.heap.size]? =some (.cells #[.int .i64 x1,.int .i64 x2,.slice xA xn xc,.int .i64 x3,.int .i64 x4,.int .i64 x5,.int .i64 x6,.int .i64 x7,.int .i64 x8] 167 (0,0)):=by subst hW1;exact heap_alloc_new wi _
 rw [←hW1]
 clear hW1
 have HX1:Hid (VerIs W1 (ltw W1) (⟨x1,x2,xA,xn,xc,x3,x4,x5,x6,x7,x8⟩:RV) x):=hI0 ((HX.out.keep (Keeps.below hbW)).wide (fun b' (h:b'<wi.heap.size)=>by show b'<W1.heap.size;omega))
 have KV:Calls prog 234 #[.agg #[.int .i64 x1,.int .i64 x2,.slice xA xn xc,.int .i64 x3,.int .i64 x4,.int .i64 x5,.int .i64 x6,.int .i64 x7,.int .i64 x8]] W1 (fun e w'=>e=.returned (.bool (validVer x))∧Bl W1 w'):=refVersion_any (⟨x1,x2,xA,xn,xc,x3,x4,x5,x6,x7,x8⟩:RV) x W1 HX1.out
 (with_reducible refine KV.mono ?_)
 rintro _ w2 ⟨rfl,hb2⟩
 have hB2:Bl w w2:=hBi.trans ((hbW.trans (hb2.mono (by omega))).mono hsi)
 have hWh2:w2.heap[wi.heap.size]? =some (.cells #[.int .i64 x1,.int .i64 x2,.slice xA xn xc,.int .i64 x3,.int .i64 x4,.int .i64 x5,.int .i64 x6,.int .i64 x7,.int .i64 x8] 167 (0,0)):=(hb2.block _ (by omega)).trans hWh
 have c6:=cW1 6 hWh2 rfl
 have e6:x6=x.st:=HX.out.st
 by_cases hval:validVer x=true
 case neg=>
  have HVL:=hI0 (show validVer x=false by simpa using hval)
  have HF:Hid (res=8):=hI0 (by rw [HST.out,if_neg hval])
  rw [HVL.out]
  clear hval
  go_wp2_with fail
  go_ret
  exact ⟨ret_int HF.out.symm,hB2⟩
 have HVL:=hI0 hval
 rw [HVL.out]
 have h6:True:=trivial
 all_goals
  have HC:Hid (res=if okPrev (prevV (ps.map (·.2)) j) x=true then chkFrom (prevV (ps.map (·.2)) (j+1)) ((ps.map (·.2)).drop (j+1)) else 9):=hI0 (by rw [HST.out,if_pos hval])
  clear hval e6
  have hbo:Bl wi w2:=hbW.trans (hb2.mono (by omega))
  have hs2:wi.heap.size+1≤w2.heap.size:=by have:=hb2.size;omega
  have LB:Hid (∀w',Bl w2 w'→∀j u,[.int .i64 x1,.int .i64 x2,.slice xA xn xc,.int .i64 x3,.int .i64 x4,.int .i64 x5,.int .i64 x6,.int .i64 x7,.int .i64 x8][j]? =some u→w'.cell? ⟨wi.heap.size,j,none⟩=some u):=hI0 (fun w' h j u hj=>(cW0 _ wi.heap.size j _ _ _ ((h.block _ (by omega)).trans hWh2)).trans (by simpa using hj))
  clear hWh hWh2 HX1 KV
  by_cases h0:j=0
  case pos=>
   exact zq66 0
  obtain ⟨q,hq1,hq2,hq3⟩:=HPV.out (by omega)
  obtain ⟨i,rfl⟩:∃i,j=i+1:=⟨j-1,by omega⟩
  rw [Nat.add_sub_cancel] at hq3
  obtain ⟨⟨y1,y2,yA,yn,yc,y3,y4,y5,y6,y7,y8⟩,y⟩:=q
  simp only at hq1 hq2 hq3
  have HST2:=HC.out
  rw [hq1] at HST2
  have eo:okPrev (some y) x=ltV y x:=rfl
  rw [eo] at HST2
  have hlv:=hq2.lt HX.out
  obtain ⟨lb,hlb⟩:=eN0 (ltV y x)
  rw [←hlb] at hlv HST2
  have HS2:=hI0 HST2
  clear HST2 hq1 hlb HPV eo
  have PC:Hid (∀w',Bl w2 w'→∀j u,j<9→[.int .i64 y1,.int .i64 y2,.slice yA yn yc,.int .i64 y3,.int .i64 y4,.int .i64 y5,.int .i64 y6,.int .i64 y7,.int .i64 y8][j]? =some u→w'.cell? ⟨b2,off2+i*9+j,none⟩=some u):=hI0 (fun w' h j u hj hu=>(World.cell?_of_block ((h.block b2 (by omega)).trans (hbo.block b2 (by omega)))).trans (hq3 j u hj hu))
  clear hq3 hq2
  have ew:IntKind.i64.wrap (((i+1:Nat):Int)-1)=((i:Nat):Int):=by rw [IntKind.wrap_i64];omega
  have hil:(i:Int)<(ps.length:Int):=by omega
  have hip:(0:Int)<((i+1:Nat):Int):=by omega
  have KC:∀W,Calls prog 235 #[.agg #[.int .i64 y1,.int .i64 y2,.slice yA yn yc,.int .i64 y3,.int .i64 y4,.int .i64 y5,.int .i64 y6,.int .i64 y7,.int .i64 y8],.agg #[.int .i64 x1,.int .i64 x2,.slice xA xn xc,.int .i64 x3,.int .i64 x4,.int .i64 x5,.int .i64 x6,.int .i64 x7,.int .i64 x8]] W fun e w'=>e=.returned (.bool lb)∧Bl W w':=fun W=>by rw [←hlv];exact before_any (⟨y1,y2,yA,yn,yc,y3,y4,y5,y6,y7,y8⟩:RV) (⟨x1,x2,xA,xn,xc,x3,x4,x5,x6,x7,x8⟩:RV) W
  clear hlv
  obtain ⟨z,hz⟩:=eN0 (i+1)
  have HZ:=hI0 hz
  rw [←hz] at ew hip hltj HS2 HJ ⊢
  have hz0:0<z:=by omega
  have HLT:=hI0 (And.intro hltj (show i+1≤ps.length from hj))
  clear hz
  go_wp2_with fail
  refine rB0 w2 (fun zh=>?_)
  refine hT 0 15 ?_
  refine hT 1 16 ?_
  refine hT 2 17 ?_
  refine hT 3 18 ?_
  refine hT 4 19 ?_
  refine hT 5 20 ?_
  refine hT 6 21 ?_
  refine hU 7 22 (v:=?_) zh ?_ ?_
  rotate_left
  ·intro w' hSw;(try dsimp only at hSw);have c0:w'.cell? ⟨b2,off2+i*9,none⟩=some (.int .i64 y1):=PC.out w' hSw 0 _ (by decide) rfl;have c1:w'.cell? ⟨b2,off2+i*9+1,none⟩=some (.int .i64 y2):=PC.out w' hSw 1 _ (by decide) rfl;have c2:w'.cell? ⟨b2,off2+i*9+2,none⟩=some (.slice yA yn yc):=PC.out w' hSw 2 _ (by decide) rfl;have c3:w'.cell? ⟨b2,off2+i*9+3,none⟩=some (.int .i64 y3):=PC.out w' hSw 3 _ (by decide) rfl;have c4:w'.cell? ⟨b2,off2+i*9+4,none⟩=some (.int .i64 y4):=PC.out w' hSw 4 _ (by decide) rfl;have c5:w'.cell? ⟨b2,off2+i*9+5,none⟩=some (.int .i64 y5):=PC.out w' hSw 5 _ (by decide) rfl;have c6:w'.cell? ⟨b2,off2+i*9+6,none⟩=some (.int .i64 y6):=PC.out w' hSw 6 _ (by decide) rfl;have c7:w'.cell? ⟨b2,off2+i*9+7,none⟩=some (.int .i64 y7):=PC.out w' hSw 7 _ (by decide) rfl;have c8:w'.cell? ⟨b2,off2+i*9+8,none⟩=some (.int .i64 y8):=PC.out w' hSw 8 _ (by decide) rfl;go_simp<;>with_reducible rfl
  refine hU 8 23 (v:=?_) zh ?_ ?_
  rotate_left
  ·intro w' hSw;(try dsimp only at hSw);have c0:w'.cell? ⟨wi.heap.size,0,none⟩=some (.int .i64 x1):=LB.out w' hSw 0 _ rfl;have c1:w'.cell? ⟨wi.heap.size,1,none⟩=some (.int .i64 x2):=LB.out w' hSw 1 _ rfl;have c2:w'.cell? ⟨wi.heap.size,2,none⟩=some (.slice xA xn xc):=LB.out w' hSw 2 _ rfl;have c3:w'.cell? ⟨wi.heap.size,3,none⟩=some (.int .i64 x3):=LB.out w' hSw 3 _ rfl;have c4:w'.cell? ⟨wi.heap.size,4,none⟩=some (.int .i64 x4):=LB.out w' hSw 4 _ rfl;have c5:w'.cell? ⟨wi.heap.size,5,none⟩=some (.int .i64 x5):=LB.out w' hSw 5 _ rfl;have c6:w'.cell? ⟨wi.heap.size,6,none⟩=some (.int .i64 x6):=LB.out w' hSw 6 _ rfl;have c7:w'.cell? ⟨wi.heap.size,7,none⟩=some (.int .i64 x7):=LB.out w' hSw 7 _ rfl;have c8:w'.cell? ⟨wi.heap.size,8,none⟩=some (.int .i64 x8):=LB.out w' hSw 8 _ rfl;go_simp<;>with_reducible rfl
  refine hC 9 24 ?_
  (with_reducible refine (KC _).mono ?_)
  rintro _ w3 ⟨rfl,hb3'⟩
  have hb3:Bl w2 w3:=(Below.undrew hb3')
  refine ⟨_,rfl,keepAnd hb3 ?_⟩
  clear zh
  intro zh
  simp only [aP]
  refine hT 10 25 ?_
  refine hT 11 26 ?_
  refine rD0 ?_
  clear zh
  have hB3:Bl w w3:=hB2.trans (hb3.mono hB2.size)
  cases lb
  case false=>
   have HN:Hid (res=9):=hI0 (by rw [HS2.out];exact if_neg (by decide))
   go_wp2_with fail
   go_ret
   exact ⟨ret_int HN.out.symm,hB3⟩
  have HN:Hid (res=chkFrom (prevV (ps.map (·.2)) (z+1)) ((ps.map (·.2)).drop (z+1))):=hI0 (by rw [HS2.out];exact if_pos rfl)
  go_wp2_with fail
  go_roundw
  case rel=>exact ⟨z+1,by go_num,by have:=HLT.out.1;omega,hI0 HN.out.symm,hB3⟩
  case measure=>have q1:=HLT.out.1;have q2:=HZ.out;simp [intOf];omega
end
section
open Go.RowKit Go.Lib Go.IntWalk Go.Sort Go.Shelf
def bd64 (n:Int):Prop:= -9223372036854775808≤n∧n≤9223372036854775807
theorem OwnB.cast {w:World} {base:Nat} {v:Value} {a b:List UInt8} (h:OwnB w base v a) (e:a=b):OwnB w base v b:=e▸h
end
section
open Go.RowKit Go.Lib Go.IntWalk Go.Sort Go.Shelf
theorem valid_bds {x:Ver} (hval:validVer x=true):bd64 x.id∧bd64 x.sch∧bd64 x.vf∧bd64 x.vt∧bd64 x.sf∧bd64 x.st∧bd64 x.by_∧bd64 x.un:=by
 have q:=hval
 unfold validVer in50 in64 num50 validP at q
 simp only [Bool.and_eq_true,decide_eq_true_eq] at q
 obtain ⟨q1,q2,q3,_,⟨⟨q4,q5⟩,q6⟩,⟨⟨q7,q8⟩,q9⟩,q10⟩:=q
 unfold bd64
 omega
theorem refPutVersions_any (u:Value) (v:Value) (l:List UInt8) (ps:List VP) (w:World) (hu:RdB w (ltw w) u l) (hv:RdVs w (ltw w) v ps) (hval:∀p∈ps,validVer p.2=true) (hl:l.length≤1099511627776) (hp:ps.length≤1048576):
  Calls prog 115 #[u,v] w (NewB w (l++encVsB (ps.map (·.2)))):=by
 obtain ⟨A,c,rfl,hc1,hc2,hc3⟩:=hv.1.open_
 unfold maxLen at hc2
 have HV:=hI0 hv
 have HVAL:=hI0 hval
 obtain ⟨xs,hxs⟩:=eN0 (ps.map (·.2))
 rw [←hxs]
 have hxl:xs.length=ps.length:=by rw [hxs,List.length_map]
 have K1:=refPutInt_any u l (ps.length:Nat) w (by omega) (by omega) hu (by omega)
 obtain ⟨l0,hl0⟩:=eN0 (l++encI (ps.length:Nat))
 rw [←hl0] at K1
 have hres:l++encVsB xs=l0++encVers xs:=by rw [hl0,encVsB,hxl];simp
 rw [hres]
 have hl0l:l0.length≤1099511627786:=by rw [hl0,List.length_append];have:=encI_length (ps.length:Nat);omega
 have HXS:=hI0 hxs
 have HXL:=hI0 hxl
 have hle:∀k,(encVers (xs.take k)).length≤2600*k:=fun k=>encVers_le xs (fun x hx=>by
  rw [hxs] at hx
  obtain ⟨p,hp,rfl⟩:=List.mem_map.1 hx
  exact (encVer_le (hval p hp) ((hv.2 p hp).ok)).1) k
 have HLE:=hI0 hle
 clear hv hu hval hxs hxl hres hl0 hle hc3
 go_in
 go_wp2_with fail
 (with_reducible refine K1.mono ?_)
 rintro _ w1 ⟨v0,rfl,hO0,hb0⟩
 have HO1:Hid (OwnB w1 w.heap.size v0 (l0++encVers (xs.take 0))):=hI0 (hO0.cast (by simp [encVers]))
 clear K1 hO0
 go_wp2_with fail
 go_loopw [0,13] (fun b i wr=>∃k:Nat,i=.int .i64 (k:Int)∧k≤ps.length∧Hid (OwnB wr w.heap.size b (l0++encVers (xs.take k)))∧Bl w wr) (fun _ i _=>ps.length-(intOf i).toNat)
 case atStart=>exact ⟨0,rfl,Nat.zero_le _,HO1,hb0⟩
 obtain ⟨k,rfl,hk,HO,hB⟩:=hrel
 obtain ⟨wi,rfl⟩:=eN0 wr
 have hsi:=hB.size
 by_cases hlt:k<ps.length
 case neg=>
  have HF:=hI0 (HO.out.cast (b:=l0++encVers xs) (by rw [List.take_of_length_le (by have:=HXL.out;omega)]))
  go_wp2_with fail
  go_ret
  exact ⟨_,rfl,HF.out,hB⟩
 obtain ⟨b,off,rfl,hF,hcl,hx⟩:=RdVs.at_ (HV.out.below hB) hlt
 have hsn:=encVers_snoc (xs:=xs) (k:=k) (by have:=HXL.out;omega)
 have hxk:xs[k]'(by have:=HXL.out;omega)=ps[k].2:=by
  have:=HXS.out
  subst this
  rw [List.getElem_map]
 rw [hxk] at hsn
 have hval:=HVAL.out _ (List.getElem_mem hlt)
 have hlk:=HLE.out k
 generalize ps[k]=p at *
 obtain ⟨⟨x1,x2,xA,xn,xc,x3,x4,x5,x6,x7,x8⟩,x⟩:=p
 simp only at hcl hx hsn hval
 obtain ⟨g0,g1,g2,g3,g4,g5,g6,g7,g8⟩:=cK9 hcl (show _=[.int .i64 x1,.int .i64 x2,.slice xA xn xc,.int .i64 x3,.int .i64 x4,.int .i64 x5,.int .i64 x6,.int .i64 x7,.int .i64 x8] from rfl)
 obtain ⟨hle1,hput,hrl⟩:=encVer_le hval hx.ok
 obtain ⟨⟨a1,a1'⟩,⟨a2,a2'⟩,⟨a3,a3'⟩,⟨a4,a4'⟩,⟨a5,a5'⟩,⟨a6,a6'⟩,⟨a7,a7'⟩,⟨a8,a8'⟩⟩:=valid_bds hval
 rw [←hx.id] at a1 a1'
 rw [←hx.sch] at a2 a2'
 rw [←hx.vf] at a3 a3'
 rw [←hx.vt] at a4 a4'
 rw [←hx.sf] at a5 a5'
 rw [←hx.st] at a6 a6'
 rw [←hx.by_] at a7 a7'
 rw [←hx.un] at a8 a8'
 simp only at a1 a1' a2 a2' a3 a3' a4 a4' a5 a5' a6 a6' a7 a7' a8 a8'
 obtain ⟨L,hL⟩:=eN0 (l0++encVers (xs.take k))
 have hLl:L.length≤1102300000000:=by rw [hL,List.length_append];omega
 have hfin:l0++encVers (xs.take (k+1))=((((((L++encI x1)++encI x2)++encR x.row)++(encI x3++encI x4))++(encI x5++encI x6))++encI x7)++encI x8:=by
  rw [hsn,←List.append_assoc,←hL,encVer,←hx.id,←hx.sch,←hx.vf,←hx.vt,←hx.sf,←hx.st,←hx.by_,←hx.un]
  simp [List.append_assoc]
 have HO1:Hid (RdB wi (ltw wi) u0 L):=hI0 (by rw [hL];exact HO.out.rd)
 have e1:=encI_length x1;have e2:=encI_length x2;have e3:=encI_length x3;have e4:=encI_length x4;have e5:=encI_length x5;have e6:=encI_length x6;have e7:=encI_length x7
 have KA:∀v W,RdB W (ltw W) v L→Calls prog 113 #[v,.int .i64 x1] W (NewB W (L++encI x1)):=fun v W h=>refPutInt_any v L x1 W a1 a1' h (by omega)
 have l1:(L++encI x1).length≤L.length+10:=by rw [List.length_append];omega
 obtain ⟨L1,hL1⟩:=eN0 (L++encI x1)
 rw [←hL1] at KA hfin l1
 have KB:∀v W,RdB W (ltw W) v L1→Calls prog 113 #[v,.int .i64 x2] W (NewB W (L1++encI x2)):=fun v W h=>refPutInt_any v L1 x2 W a2 a2' h (by omega)
 have l2:(L1++encI x2).length≤L1.length+10:=by rw [List.length_append];omega
 obtain ⟨L2,hL2⟩:=eN0 (L1++encI x2)
 rw [←hL2] at KB hfin l2
 have KR:∀v W,RdB W (ltw W) v L2→Bl wi W→Calls prog 159 #[v,.slice xA xn xc] W (NewB W (L2++encR x.row)):=fun v W h hW=>refPutRow_any v _ L2 x.row W h ((Rd.keep hx.row (Keeps.below hW)).wide (fun b (hb:b<wi.heap.size)=>by show b<W.heap.size;have:=hW.size;omega)) hput (by omega)
 have l3:(L2++encR x.row).length≤L2.length+2446:=by rw [List.length_append];omega
 obtain ⟨L3,hL3⟩:=eN0 (L2++encR x.row)
 rw [←hL3] at KR hfin l3
 have KP:∀v W,RdB W (ltw W) v L3→Calls prog 158 #[v,.agg #[.int .i64 x3,.int .i64 x4]] W (NewB W (L3++(encI x3++encI x4))):=fun v W h=>refPutPeriod_any v L3 x3 x4 W a3 a3' a4 a4' h (by omega)
 have l4:(L3++(encI x3++encI x4)).length≤L3.length+20:=by simp only [List.length_append];omega
 obtain ⟨L4,hL4⟩:=eN0 (L3++(encI x3++encI x4))
 rw [←hL4] at KP hfin l4
 have KQ:∀v W,RdB W (ltw W) v L4→Calls prog 158 #[v,.agg #[.int .i64 x5,.int .i64 x6]] W (NewB W (L4++(encI x5++encI x6))):=fun v W h=>refPutPeriod_any v L4 x5 x6 W a5 a5' a6 a6' h (by omega)
 have l5:(L4++(encI x5++encI x6)).length≤L4.length+20:=by simp only [List.length_append];omega
 obtain ⟨L5,hL5⟩:=eN0 (L4++(encI x5++encI x6))
 rw [←hL5] at KQ hfin l5
 have KC:∀v W,RdB W (ltw W) v L5→Calls prog 113 #[v,.int .i64 x7] W (NewB W (L5++encI x7)):=fun v W h=>refPutInt_any v L5 x7 W a7 a7' h (by omega)
 have l6:(L5++encI x7).length≤L5.length+10:=by rw [List.length_append];omega
 obtain ⟨L6,hL6⟩:=eN0 (L5++encI x7)
 rw [←hL6] at KC hfin l6
 have KD:∀v W,RdB W (ltw W) v L6→Calls prog 113 #[v,.int .i64 x8] W (NewB W (L6++encI x8)):=fun v W h=>refPutInt_any v L6 x8 W a8 a8' h (by omega)
 obtain ⟨L7,hL7⟩:=eN0 (L6++encI x8)
 rw [←hL7] at KD hfin
 have HFIN:=hI0 hfin
 obtain ⟨wb,hwb⟩:=eN0 (wi.alloc (.cells #[.int .i64 x1,.int .i64 x2,.slice xA xn xc,.int .i64 x3,.int .i64 x4,.int .i64 x5,.int .i64 x6,.int .i64 x7,.int .i64 x8] 167))
 have hbb:=bN0 hwb
 have hV:=hN0 hwb
 have hVl:wi.heap.size<wb.heap.size:=by rw [hwb];simp
 clear hcl hx hsn hlk hL hL1 hL2 hL3 hL4 hL5 hL6 hL7 hfin hxk hval hle1 hput hrl HO
 go_wp2_with fail
 rw [←hwb]
 clear hwb g0 g1 g2 g3 g4 g5 g6 g7 g8
 have HB:=hI0 hbb
 have HV5:=hI0 hV
 clear hbb hV
 have hR0:=HO1.out.below HB.out
 refine rB0 wb (fun zh=>?_)
 refine hT 0 17 ?_
 refine hT 1 18 ?_
 refine hU 2 19 (v:=?_) zh ?_ ?_
 rotate_left
 ·intro w' hSw;(try dsimp only at hSw);have q0:w'.cell? ⟨wi.heap.size,0,none⟩=some (.int .i64 x1):=(World.cell?_of_block ((Below.trans (Below.refl wb.heap.size wb) (hSw.mono ((Below.refl wb.heap.size wb)).size)).block wi.heap.size hVl)).trans (cW0 wb wi.heap.size 0 _ _ _ HV5.out);go_simp<;>with_reducible rfl
 refine hT 4 21 ?_
 refine hU 5 22 (v:=?_) zh ?_ ?_
 rotate_left
 ·intro w' hSw;(try dsimp only at hSw);have q1:w'.cell? ⟨wi.heap.size,1,none⟩=some (.int .i64 x2):=(World.cell?_of_block ((Below.trans (Below.refl wb.heap.size wb) (hSw.mono ((Below.refl wb.heap.size wb)).size)).block wi.heap.size hVl)).trans (cW0 wb wi.heap.size 1 _ _ _ HV5.out);go_simp<;>with_reducible rfl
 refine hT 7 24 ?_
 refine hU 8 25 (v:=?_) zh ?_ ?_
 rotate_left
 ·intro w' hSw;(try dsimp only at hSw);have q2:w'.cell? ⟨wi.heap.size,2,none⟩=some (.slice xA xn xc):=(World.cell?_of_block ((Below.trans (Below.refl wb.heap.size wb) (hSw.mono ((Below.refl wb.heap.size wb)).size)).block wi.heap.size hVl)).trans (cW0 wb wi.heap.size 2 _ _ _ HV5.out);go_simp<;>with_reducible rfl
 refine hC 3 20 ?_
 (with_reducible refine (KA _ _ (hR0.below (Below.refl _ _).drew)).mono ?_)
 rintro _ w2 ⟨v1,rfl,hO1,hb1'⟩
 have hb1:Bl wb w2:=Below.undrew hb1'
 have hR1:=hO1.rd
 refine ⟨_,rfl,keepAnd hb1 ?_⟩
 clear zh
 intro zh
 simp only [aP]
 refine hC 6 23 ?_
 (with_reducible refine (KB _ _ hR1).mono ?_)
 rintro _ w3 ⟨v2,rfl,hO2,hb2'⟩
 have hb2:Bl w2 w3:=hb2'
 have hR2:=hO2.rd
 have hc2:Bl wb w3:=hb1.trans (hb2.mono hb1.size)
 refine ⟨_,rfl,keepAnd hc2 ?_⟩
 clear zh
 intro zh
 simp only [aP]
 refine hC 9 26 ?_
 (with_reducible refine (KR _ _ hR2 (bU0 HB hc2)).mono ?_)
 rintro _ w4 ⟨v3,rfl,hO3,hb3'⟩
 have hb3:Bl w3 w4:=hb3'
 have hR3:=hO3.rd
 have hc3:Bl wb w4:=hc2.trans (hb3.mono hc2.size)
 refine ⟨_,rfl,keepAnd hc3 ?_⟩
 clear zh
 intro zh
 simp only [aP]
 refine hT 10 0 ?_
 refine rD0 ?_
 clear zh
 have HC3:=hI0 hc3
 have hR3':=hI0 hR3
 clear hR0 hR1 hR2 hO1 hO2 hO3 hb1 hb2 hb3 hb1' hb2' hb3' hc2 hc3 hR3 KA KB KR
 go_wp2_with fail
 have hR3:=hR3'.out
 refine rB0 w4 (fun zh=>?_)
 refine hT 0 27 ?_
 refine hT 1 28 ?_
 refine hU 2 29 (v:=?_) zh ?_ ?_
 rotate_left
 ·intro w' hSw;(try dsimp only at hSw);have q3:w'.cell? ⟨wi.heap.size,3,none⟩=some (.int .i64 x3):=(World.cell?_of_block ((Below.trans HC3.out (hSw.mono (HC3.out).size)).block wi.heap.size hVl)).trans (cW0 wb wi.heap.size 3 _ _ _ HV5.out);have q4:w'.cell? ⟨wi.heap.size,4,none⟩=some (.int .i64 x4):=(World.cell?_of_block ((Below.trans HC3.out (hSw.mono (HC3.out).size)).block wi.heap.size hVl)).trans (cW0 wb wi.heap.size 4 _ _ _ HV5.out);go_simp<;>with_reducible rfl
 refine hT 4 31 ?_
 refine hU 5 32 (v:=?_) zh ?_ ?_
 rotate_left
 ·intro w' hSw;(try dsimp only at hSw);have q5:w'.cell? ⟨wi.heap.size,5,none⟩=some (.int .i64 x5):=(World.cell?_of_block ((Below.trans HC3.out (hSw.mono (HC3.out).size)).block wi.heap.size hVl)).trans (cW0 wb wi.heap.size 5 _ _ _ HV5.out);have q6:w'.cell? ⟨wi.heap.size,6,none⟩=some (.int .i64 x6):=(World.cell?_of_block ((Below.trans HC3.out (hSw.mono (HC3.out).size)).block wi.heap.size hVl)).trans (cW0 wb wi.heap.size 6 _ _ _ HV5.out);go_simp<;>with_reducible rfl
 refine hC 3 30 ?_
 (with_reducible refine (KP _ _ (hR3.below (Below.refl _ _).drew)).mono ?_)
 rintro _ w5 ⟨v4,rfl,hO4,hb4'⟩
 have hb4:Bl w4 w5:=Below.undrew hb4'
 have hR4:=hO4.rd
 refine ⟨_,rfl,keepAnd hb4 ?_⟩
 clear zh
 intro zh
 simp only [aP]
 refine hC 6 33 ?_
 (with_reducible refine (KQ _ _ hR4).mono ?_)
 rintro _ w6 ⟨v5,rfl,hO5,hb5'⟩
 have hb5:Bl w5 w6:=hb5'
 have hR5:=hO5.rd
 have hc5:Bl w4 w6:=hb4.trans (hb5.mono hb4.size)
 refine ⟨_,rfl,keepAnd hc5 ?_⟩
 clear zh
 intro zh
 simp only [aP]
 refine hT 7 0 ?_
 refine rD0 ?_
 clear zh
 have HC5:=bT0 HC3 hc5
 have hR5':=hI0 hR5
 clear hR3 hR4 hR5 hO4 hO5 hb4 hb5 hb4' hb5' hc5 KP KQ
 go_wp2_with fail
 have hR5:=hR5'.out
 refine rB0 w6 (fun zh=>?_)
 refine hT 0 34 ?_
 refine hT 1 35 ?_
 refine hU 2 36 (v:=?_) zh ?_ ?_
 rotate_left
 ·intro w' hSw;(try dsimp only at hSw);have q7:w'.cell? ⟨wi.heap.size,7,none⟩=some (.int .i64 x7):=(World.cell?_of_block ((Below.trans HC5.out (hSw.mono (HC5.out).size)).block wi.heap.size hVl)).trans (cW0 wb wi.heap.size 7 _ _ _ HV5.out);go_simp<;>with_reducible rfl
 refine hT 4 38 ?_
 refine hU 5 39 (v:=?_) zh ?_ ?_
 rotate_left
 ·intro w' hSw;(try dsimp only at hSw);have q8:w'.cell? ⟨wi.heap.size,8,none⟩=some (.int .i64 x8):=(World.cell?_of_block ((Below.trans HC5.out (hSw.mono (HC5.out).size)).block wi.heap.size hVl)).trans (cW0 wb wi.heap.size 8 _ _ _ HV5.out);go_simp<;>with_reducible rfl
 refine hC 3 37 ?_
 (with_reducible refine (KC _ _ (hR5.below (Below.refl _ _).drew)).mono ?_)
 rintro _ w7 ⟨v6,rfl,hO6,hb6'⟩
 have hb6:Bl w6 w7:=Below.undrew hb6'
 have hR6:=hO6.rd
 refine ⟨_,rfl,keepAnd hb6 ?_⟩
 clear zh
 intro zh
 simp only [aP]
 refine hC 6 40 ?_
 (with_reducible refine (KD _ _ hR6).mono ?_)
 rintro _ w8 ⟨v7,rfl,hO7,hb7'⟩
 have hb7:Bl w7 w8:=hb7'
 have hR7:=hO7.rd
 have hc7:Bl w6 w8:=hb6.trans (hb7.mono hb6.size)
 refine ⟨_,rfl,keepAnd hc7 ?_⟩
 clear zh
 intro zh
 simp only [aP]
 refine hT 7 0 ?_
 refine rD0 ?_
 clear zh
 have hBF:Bl w w8:=hB.trans ((HB.out.trans ((bU0 HC5 hc7).mono HB.out.size)).mono hsi)
 have HOF:Hid (OwnB w8 w.heap.size v7 (l0++encVers (xs.take (k+1)))):=hI0 ((OwnB.base hO7 (by have h1:=HB.out.size;have h2:=HC5.out.size;have h3:=hb6.size;omega)).cast HFIN.out.symm)
 clear hR5 hR6 hR7 hO6 hO7 hb6 hb7 hb6' hb7' hc7 KC KD
 go_wp2_with fail
 go_roundw
 case rel=>exact ⟨k+1,by go_num,by omega,HOF,hBF⟩
 case measure=>simp [intOf];omega
end
section
open Go.RowKit Go.Lib Go.IntWalk Go.Sort Go.Shelf
structure InR where
 s:ByteArray
 vk:Int
 vi:Int
 vs:ByteArray
 rA:Option Addr
 rn:Nat
 rc:Nat
 p1:Int
 p2:Int
 lA:Option Addr
 ln:Nat
 lc:Nat
def InR.zero:InR:=⟨⟨#[]⟩,0,0,⟨#[]⟩,none,0,0,0,0,none,0,0⟩
def inV (bA:Option Addr) (bn bc:Nat) (s:Int×Int) (n:Int) (g:InR):Value:=.agg #[.slice bA bn bc,.int .i64 s.1,.int .i64 s.2,.int .i64 n,.string g.s,.int .i64 g.vk,.int .i64 g.vi,.string g.vs,.slice g.rA g.rn g.rc,.int .i64 g.p1,.int .i64 g.p2,.slice g.lA g.ln g.lc]
def inBox (bA:Option Addr) (bn bc:Nat) (s:Int×Int) (n:Int) (g:InR):Obj:=.cells #[.slice bA bn bc,.int .i64 s.1,.int .i64 s.2,.int .i64 n,.string g.s,.int .i64 g.vk,.int .i64 g.vi,.string g.vs,.slice g.rA g.rn g.rc,.int .i64 g.p1,.int .i64 g.p2,.slice g.lA g.ln g.lc] 152
theorem fail_any (bA:Option Addr) (bn bc:Nat) (a e n:Int) (g:InR) (c d:Int) (w:World) (hd:d=if e=0 then c else e):Calls prog 170 #[inV bA bn bc (a,e) n g,.int .i64 c] w fun x w'=>x=.returned (inV bA bn bc (a,d) 0 InR.zero)∧w'=(w.alloc (inBox bA bn bc (a,d) n g)).alloc (inBox bA bn bc (a,d) 0 InR.zero):=by
 obtain ⟨s,vk,vi,vs,rA,rn,rc,p1,p2,lA,ln,lc⟩:=g
 simp only [inV,inBox,InR.zero]
 by_cases he:e=0
 ·exact zq75 0
 ·exact zq75 1
theorem num_any (bA:Option Addr) (bn bc:Nat) (a e n:Int) (g:InR) (l:List UInt8) (w:World) (hv:RdB w (ltw w) (.slice bA bn bc) l):Calls prog 74 #[inV bA bn bc (a,e) n g] w fun x w'=>∃g',x=.returned (inV bA bn bc (rdI l (a,e)).2 (rdI l (a,e)).1 g')∧Bl w w':=by
 obtain ⟨_,_,he,y1,y2,y3⟩:=Rd.open_ hv
 have hz:∀c d V,d=(if e=0 then c else e)→Calls prog 170 #[inV bA bn bc (a,e) n g,.int .i64 c] V _:=fun c d V h=>fail_any bA bn bc a e n g c d V h
 have KI:=fun V (h:RdB V (ltw V) (.slice bA bn bc) l)=>refInt_any _ (.slice bA bn bc) l a V h
 obtain ⟨s,vk,vi,vs,rA,rn,rc,p1,p2,lA,ln,lc⟩:=g
 clear he y1 y2 y3
 by_cases he:e=0
 case neg=>
  rw [show rdI l (a,e)=(0,a,e) from rdS_no he]
  have hz:=fun V=>hz e e V (by rw [if_neg he])
  simp only [inV,inBox,InR.zero] at hz ⊢
  go_in
  go_wp2_with fail
  (with_reducible refine (hz _).mono ?_)
  rintro _ w2 ⟨rfl,hw2⟩
  rw [hw2]
  clear hw2 hz w2
  go_wp2_with fail
  exact bodyPost_ret (v:=.agg #[.slice bA bn bc,.int .i64 a,.int .i64 e,.int .i64 0,.string ⟨#[]⟩,.int .i64 0,.int .i64 0,.string ⟨#[]⟩,.slice none 0 0,.int .i64 0,.int .i64 0,.slice none 0 0]) zi28 rfl ⟨InR.zero,rfl,((((((Below.of_alloc _).alloc (by first|(simp;done)|(simp;omega)) _)).alloc (by first|(simp;done)|(simp;omega)) _)).alloc (by first|(simp;done)|(simp;omega)) _)⟩
 subst he
 rcases hd:decI l a with ⟨m,k,e'⟩
 rw [hd] at KI
 rw [show rdI l (a,0)=(m,if e'=0 then (k,0) else (a,e')) from rdS_go hd]
 by_cases he':e'=0
 case pos=>
  subst he'
  rw [if_pos rfl]
  simp only [inV]
  clear hz hd
  go_in
  go_wp2_with fail
  (with_reducible refine (KI _ (RdB.below hv ((Below.of_alloc _).alloc (by first|(simp;done)|(simp;omega)) _))).mono ?_)
  rintro _ w2 ⟨rfl,hw2⟩
  rw [←hw2]
  clear hw2 w2 KI
  go_wp2_with fail
  exact bodyPost_ret (v:=.agg #[.slice bA bn bc,.int .i64 k,.int .i64 0,.int .i64 m,.string s,.int .i64 vk,.int .i64 vi,.string vs,.slice rA rn rc,.int .i64 p1,.int .i64 p2,.slice lA ln lc]) zi28 rfl ⟨⟨s,vk,vi,vs,rA,rn,rc,p1,p2,lA,ln,lc⟩,rfl,((Below.of_alloc _).alloc (by first|(simp;done)|(simp;omega)) _)⟩
 have hm:m=0:=by
  have:=decI_err (l:=l) (k:=a) (by rw [hd];exact he')
  rw [hd] at this
  exact this
 rw [if_neg he',hm]
 have hq:=fun V=>hz e' e' V (by rw [if_pos rfl])
 simp only [inV,inBox,InR.zero] at hq ⊢
 clear hd hm hz
 go_in
 go_wp2_with fail
 (with_reducible refine (KI _ (RdB.below hv ((Below.of_alloc _).alloc (by first|(simp;done)|(simp;omega)) _))).mono ?_)
 rintro _ w2 ⟨rfl,hw2⟩
 rw [←hw2]
 clear hw2 w2 KI
 go_wp2_with fail
 (with_reducible refine (hq _).mono ?_)
 rintro _ w2 ⟨rfl,hw2⟩
 rw [hw2]
 clear hw2 hq w2
 go_wp2_with fail
 exact bodyPost_ret (v:=.agg #[.slice bA bn bc,.int .i64 a,.int .i64 e',.int .i64 0,.string ⟨#[]⟩,.int .i64 0,.int .i64 0,.string ⟨#[]⟩,.slice none 0 0,.int .i64 0,.int .i64 0,.slice none 0 0]) zi28 rfl ⟨InR.zero,rfl,((((((Below.of_alloc _).alloc (by first|(simp;done)|(simp;omega)) _)).alloc (by first|(simp;done)|(simp;omega)) _)).alloc (by first|(simp;done)|(simp;omega)) _)⟩
end
section
open Go.RowKit Go.Lib Go.IntWalk Go.Sort Go.Shelf
theorem done_any (bA:Option Addr) (bc:Nat) (a e n:Int) (g:InR) (l:List UInt8) (w:World):Calls prog 83 #[inV bA l.length bc (a,e) n g] w fun x w'=>x=.returned (.int .i64 (endE (a,e) l.length))∧Bl w w':=by
 obtain ⟨s,vk,vi,vs,rA,rn,rc,p1,p2,lA,ln,lc⟩:=g
 simp only [inV]
 by_cases he:e=0
 ·subst he
  by_cases hl:a<(l.length:Int)
  ·rw [show endE (a,0) l.length=3 from if_pos ⟨rfl,hl⟩]
   go_in
   go_wp2_with fail
   go_ret
   exact ⟨rfl,Below.of_alloc _⟩
  ·rw [show endE (a,0) l.length=0 from if_neg (fun h=>hl h.2)]
   go_in
   go_wp2_with fail
   go_ret
   exact ⟨rfl,Below.of_alloc _⟩
 ·rw [show endE (a,e) l.length=e from if_neg (fun h=>he h.1)]
  go_in
  go_wp2_with fail
  go_ret
  exact ⟨rfl,Below.of_alloc _⟩
end
section
open Go.RowKit Go.Lib Go.IntWalk Go.Sort Go.Shelf
theorem sameRow_any (v u:Value) (xs:List Val) (w:World) (hv:RdV w (ltw w) v xs) (hu:RdV w (ltw w) u xs):
  Calls prog 179 #[v,u] w fun e w'=>e=.returned (.bool true)∧Bl w w':=by
 obtain ⟨A,c,rfl,hc1,hc2,hc3⟩:=hv.open_
 obtain ⟨A',c',rfl,hc1',hc2',hc3'⟩:=hu.open_
 unfold maxLen at hc2 hc2'
 go_in
 go_wp2_with fail
 go_loopw [13] (fun i wr=>SameRel w xs.length i wr) (fun i _=>xs.length-(intOf i).toNat)
 case atStart=>exact ⟨0,Nat.zero_le _,rfl,Below.refl _ _⟩
 obtain ⟨k,hk,rfl,hB⟩:=hrel
 obtain ⟨wo,rfl⟩:=eN0 wr
 by_cases hlt:k<xs.length
 ·obtain ⟨b1,o1,rfl,hF1,g0,g1,g2⟩:=RdV.at_ (Rd.below hv hB) hlt
  obtain ⟨b2,o2,rfl,hF2,f0,f1,f2⟩:=RdV.at_ (Rd.below hu hB) hlt
  generalize xs[k]=x at *
  obtain ⟨kd,n,s⟩:=x
  simp only at g0 g1 g2 f0 f1 f2
  have i1:(0:Int)≤(k:Int):=by omega
  have i2:(k:Int)<(xs.length:Int):=by omega
  go_wp2_with fail
  refine wp_region_noPanic ?_
  refine wp_region_held_drew (S:=(fun w'=>w'.cell? ⟨b1,o1+k*3,none⟩=some (.int .i64 kd)∧w'.cell? ⟨b1,o1+k*3+1,none⟩=some (.int .i64 n)∧w'.cell? ⟨b1,o1+k*3+2,none⟩=some (.string s)∧w'.cell? ⟨b2,o2+k*3,none⟩=some (.int .i64 kd)∧w'.cell? ⟨b2,o2+k*3+1,none⟩=some (.int .i64 n)∧w'.cell? ⟨b2,o2+k*3+2,none⟩=some (.string s))) (by kernel_rfl) ?_ (fun zh=>?_)
  ·exact ⟨g0,g1,g2,f0,f1,f2⟩
  refine hT 0 16 ?_
  refine hT 1 17 ?_
  refine hT 2 18 ?_
  refine hT 3 19 ?_
  refine hT 4 20 ?_
  refine hT 5 21 ?_
  refine hT 6 22 ?_
  refine hT 7 23 ?_
  refine hT 8 24 ?_
  refine rD0 ?_
  go_wp2_with fail
  go_roundw
  case rel=>exact ⟨k+1,by omega,by go_num,hB.drew⟩
  case measure=>simp [intOf];omega
 ·go_wp2_with fail
  go_ret
  exact ⟨rfl,hB⟩
theorem sameVersions_any (v u:Value) (ps qs:List VP) (w:World) (hv:RdVs w (ltw w) v ps) (hu:RdVs w (ltw w) u qs) (he:ps.map (·.2)=qs.map (·.2)):
  Calls prog 103 #[v,u] w fun e w'=>e=.returned (.bool true)∧Bl w w':=by
 obtain ⟨A,c,rfl,hc1,hc2,hc3⟩:=hv.1.open_
 obtain ⟨A',c',rfl,hc1',hc2',hc3'⟩:=hu.1.open_
 unfold maxLen at hc2 hc2'
 have hlen:ps.length=qs.length:=by have:=congrArg List.length he;simpa using this
 have HVS:=hI0 hv
 have HUS:=hI0 hu
 have HE:=hI0 he
 clear hv hu he
 have HLEN:=hI0 hlen
 rw [←hlen]
 rw [←hlen] at hc1'
 go_in
 go_wp2_with fail
 go_loopw [15] (fun i wr=>SameRel w ps.length i wr) (fun i _=>ps.length-(intOf i).toNat)
 case atStart=>exact ⟨0,Nat.zero_le _,rfl,Below.refl _ _⟩
 obtain ⟨k,hk,rfl,hB⟩:=hrel
 obtain ⟨wo,rfl⟩:=eN0 wr
 have hsz:=hB.size
 by_cases hlt:k<ps.length
 case neg=>
  go_wp2_with fail
  go_ret
  exact ⟨rfl,hB⟩
 have hlt':k<qs.length:=by have:=HLEN.out;omega
 obtain ⟨b,off,rfl,hF,hcl,hx⟩:=RdVs.at_ (HVS.out.below hB) hlt
 obtain ⟨b2,off2,hA2,hF2,hcl2,hx2⟩:=RdVs.at_ (HUS.out.below hB) hlt'
 have hex:ps[k].2=qs[k].2:=by
  have h1:(ps.map (·.2))[k]? =(qs.map (·.2))[k]? :=by rw [HE.out]
  rw [List.getElem?_map,List.getElem?_map,List.getElem?_eq_getElem hlt,List.getElem?_eq_getElem hlt'] at h1
  simpa using h1
 rw [←hex] at hx2
 subst hA2
 clear hex
 generalize ps[k]=p at *
 generalize qs[k]=q at *
 obtain ⟨⟨x1,x2,xA,xn,xc,x3,x4,x5,x6,x7,x8⟩,x⟩:=p
 obtain ⟨⟨y1,y2,yA,yn,yc,y3,y4,y5,y6,y7,y8⟩,y⟩:=q
 simp only at hcl hx hcl2 hx2
 obtain ⟨g0,g1,g2,g3,g4,g5,g6,g7,g8⟩:=cK9 hcl (show _=[.int .i64 x1,.int .i64 x2,.slice xA xn xc,.int .i64 x3,.int .i64 x4,.int .i64 x5,.int .i64 x6,.int .i64 x7,.int .i64 x8] from rfl)
 obtain ⟨h0,h1,h2,h3,h4,h5,h6,h7,h8⟩:=cK9 hcl2 (show _=[.int .i64 y1,.int .i64 y2,.slice yA yn yc,.int .i64 y3,.int .i64 y4,.int .i64 y5,.int .i64 y6,.int .i64 y7,.int .i64 y8] from rfl)
 clear hcl hcl2
 obtain ⟨p1,p2,p3,p4,p5,p6,p7,p8,pv,po⟩:=hx
 obtain ⟨q1,q2,q3,q4,q5,q6,q7,q8,qv,qo⟩:=hx2
 simp only at p1 p2 p3 p4 p5 p6 p7 p8 pv q1 q2 q3 q4 q5 q6 q7 q8 qv
 rw [←p1] at q1;rw [←p2] at q2;rw [←p3] at q3;rw [←p4] at q4;rw [←p5] at q5;rw [←p6] at q6;rw [←p7] at q7;rw [←p8] at q8
 subst q1;subst q2;subst q3;subst q4;subst q5;subst q6;subst q7;subst q8
 have KS:=fun W (h:Bl wo W)=>sameRow_any _ _ x.row W (RdV.below pv h) (RdV.below qv h)
 clear p1 p2 p3 p4 p5 p6 p7 p8 pv qv po qo
 have hbx:Bl wo ((wo.alloc (.cells #[.int .i64 y1,.int .i64 y2,.slice xA xn xc,.int .i64 y3,.int .i64 y4,.int .i64 y5,.int .i64 y6,.int .i64 y7,.int .i64 y8] 167)).alloc (.cells #[.int .i64 y1,.int .i64 y2,.slice yA yn yc,.int .i64 y3,.int .i64 y4,.int .i64 y5,.int .i64 y6,.int .i64 y7,.int .i64 y8] 167)):=(Below.of_alloc _).alloc (by simp) _
 go_wp2_with fail
 (with_reducible refine (KS _ hbx).mono ?_)
 rintro _ w2 ⟨rfl,hb2⟩
 have hB2:Bl w w2:=hB.trans ((hbx.trans (hb2.mono hbx.size)).mono hsz)
 go_wp2_with fail
 go_roundw
 case rel=>exact ⟨k+1,by omega,by go_num,hB2⟩
 case measure=>simp [intOf];omega
end
section
open Go.RowKit Go.Lib Go.IntWalk Go.Sort Go.Shelf
theorem recWord_any (s:List UInt8) (w:World):Calls prog 33 #[.string (strB s)] w fun e w'=>e=.returned (.bool (nmW s))∧Bl w w':=by
 have hsz:=strB_size s
 by_cases h0:s.length=0
 ·obtain rfl:s=[]:=List.eq_nil_of_length_eq_zero h0
  rw [nmW_nil]
  have b1:(strB []).toList.isEmpty=true:=by rw [ByteArray.toList_eq];rfl
  generalize strB []=S at *
  clear h0 hsz
  go_in
  go_wp2_with fail
  go_ret
  exact ⟨rfl,Below.refl _ _⟩
 have b1:(strB s).toList.isEmpty=false:=by rw [ByteArray.toList_eq];cases s<;>simp_all [strB]
 by_cases h1:24<s.length
 ·rw [nmW_long h1]
  have q1:(24:Int)<((strB s).size:Int):=by omega
  generalize strB s=S at *
  clear hsz h0 h1
  go_in
  go_wp2_with fail
  go_ret
  exact ⟨rfl,Below.refl _ _⟩
 have q1:¬(24:Int)<((strB s).size:Int):=by omega
 have hdg:=digW_of (s:=s) (by omega)
 have hs0:(strB s)[0]'(by rw [strB_size];omega)=s[0]:=rfl
 obtain ⟨x,W,hcv,hrd,hbW⟩:=conv_sb w (strB s) (by omega)
 rw [show (strB s).data.toList=s by simp [strB]] at hrd
 generalize s[0]=c0 at hdg hs0
 have q0:(0:Int)<((strB s).size:Int):=by omega
 have q2:0<(strB s).size:=by omega
 have hc0l:=c0.toNat_lt
 by_cases hd:48≤c0.toNat∧c0.toNat≤57
 ·rw [nmW_dig (by rw [hdg];exact decide_eq_true hd)]
  obtain ⟨S,hS⟩:=eN0 (strB s)
  have q3:0<S.size:=by rw [hS];exact q2
  have q4:(0:Int)<(S.size:Int):=by omega
  have e0:S[0]=c0:=by subst hS;exact hs0
  have d1:(48:Int)≤(S[0].toNat:Int):=by rw [e0];omega
  have d2:(S[0].toNat:Int)≤57:=by rw [e0];omega
  rw [←hS] at b1 q1 ⊢
  clear hsz h0 h1 hdg hrd hcv e0 hs0 hS q0 q2
  go_in
  go_wp2_with fail
  go_ret
  exact ⟨rfl,Below.refl _ _⟩
 have HDG:Hid (digW s=false):=hI0 (by rw [hdg];exact decide_eq_false hd)
 have HD:=hI0 hd
 obtain ⟨S,hS⟩:=eN0 (strB s)
 have q3:0<S.size:=by rw [hS];exact q2
 have q4:(0:Int)<(S.size:Int):=by omega
 have e0:S[0]=c0:=by subst hS;exact hs0
 rw [←hS] at b1 q1 hcv ⊢
 have E0:=hI0 e0
 obtain ⟨A,c,rfl,hc1,hc2,hc3⟩:=hrd.open_
 unfold maxLen at hc2
 have H0:=hI0 h0
 clear hsz h0 hdg hd e0 hs0 hS q0 q2
 by_cases hd1:(48:Int)≤(S[0].toNat:Int)
 case' pos=>
  have hd2:¬(S[0].toNat:Int)≤57:=by rw [E0.out] at hd1 ⊢;have:=HD.out;omega
 all_goals
  go_in
  go_wp2_with fail
  go_loop [25] (fun i=>∃k:Nat,k≤s.length∧i=.int .i64 k∧(s.take k).all chW=true) (fun i=>s.length-(intOf i).toNat)
  case atStart=>exact ⟨0,Nat.zero_le _,rfl,rfl⟩
  obtain ⟨k,hk,rfl,hp⟩:=hrel
  have HP:=hI0 hp
  clear hp
  by_cases hlt:k<s.length
  case pos=>
   exact zq118 1
  have hw:nmW s=true:=nmW_good H0.out (by omega) HDG.out (by have:=HP.out;rwa [List.take_of_length_le (by omega)] at this)
  have HW:=hI0 hw
  clear hw
  go_wp2_with fail
  go_ret
  exact ⟨by rw [HW.out];rfl,hbW⟩
theorem put0Entry (base B:Nat) (l:List UInt8) (w:World) (hbB:base≤B) (h:BufAt w base B l) (hl:l.length≤1000000):Calls prog 47 #[.pointer (some ⟨B,0,none⟩),.slice none 0 0,.func (.func 48) #[] #[]] w (BufOut base B (l++encI 0) w):=by
 exact zq39
theorem put0Delta (base B:Nat) (l:List UInt8) (w:World) (hbB:base≤B) (h:BufAt w base B l) (hl:l.length≤1000000):Calls prog 49 #[.pointer (some ⟨B,0,none⟩),.slice none 0 0,.func (.func 50) #[] #[]] w (BufOut base B (l++encI 0) w):=by
 exact zq39
theorem put0Hold (base B:Nat) (l:List UInt8) (w:World) (hbB:base≤B) (h:BufAt w base B l) (hl:l.length≤1000000):Calls prog 51 #[.pointer (some ⟨B,0,none⟩),.slice none 0 0,.func (.func 52) #[] #[]] w (BufOut base B (l++encI 0) w):=by
 exact zq39
theorem put0Str (base B:Nat) (l:List UInt8) (w:World) (hbB:base≤B) (h:BufAt w base B l) (hl:l.length≤1000000):Calls prog 53 #[.pointer (some ⟨B,0,none⟩),.slice none 0 0,.func (.func 54) #[] #[]] w (BufOut base B (l++encI 0) w):=by
 exact zq39
theorem put0Policy (base B:Nat) (l:List UInt8) (w:World) (hbB:base≤B) (h:BufAt w base B l) (hl:l.length≤1000000):Calls prog 55 #[.pointer (some ⟨B,0,none⟩),.slice none 0 0,.func (.func 56) #[] #[]] w (BufOut base B (l++encI 0) w):=by
 exact zq39
theorem put0Horizon (base B:Nat) (l:List UInt8) (w:World) (hbB:base≤B) (h:BufAt w base B l) (hl:l.length≤1000000):Calls prog 57 #[.pointer (some ⟨B,0,none⟩),.slice none 0 0,.func (.func 58) #[] #[]] w (BufOut base B (l++encI 0) w):=by
 exact zq39
theorem put0Int (base B:Nat) (l:List UInt8) (w:World) (hbB:base≤B) (h:BufAt w base B l) (hl:l.length≤1000000):Calls prog 152 #[.pointer (some ⟨B,0,none⟩),.slice none 0 0,.func (.func 153) #[] #[]] w (BufOut base B (l++encI 0) w):=by
 exact zq39
end
end Go.Proofs.YtbfdegkickjbpaaGreat
