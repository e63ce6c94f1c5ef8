/-
 Seg1
-/
import Derived.Test.YtgfhknnklapldaaGreatDoorPSrc1
import Derived.Test.YtgfhknnklapldaaGreatDoorPFrame
import Derived.Deep.Cut
namespace Go.Proofs.YtgfhknnklapldaaGreatDoor
open Go.Proofs.Tryz
set_option maxRecDepth 99999
set_option maxHeartbeats 0
section
open Go.RowKit Go.Lib Go.IntWalk Go.Sort Go.Shelf
def chW (c:UInt8):Bool:=decide ((97≤c.toNat∧c.toNat≤122)∨c.toNat=95∨(48≤c.toNat∧c.toNat≤57))
def digW (s:List UInt8):Bool:=match s with|c::_=>decide (48≤c.toNat∧c.toNat≤57)|[]=>false
def nmW (s:List UInt8):Bool:= !decide (s.length=0)&&decide (s.length≤24)&& !digW s&&s.all chW
theorem nmW_nil:nmW []=false:=rfl
theorem nmW_long {s:List UInt8} (h:24<s.length):nmW s=false:=by
 unfold nmW;rw [show decide (s.length≤24)=false from by simp;omega];simp
theorem nmW_dig {s:List UInt8} (h:digW s=true):nmW s=false:=by unfold nmW;rw [h];simp
theorem nmW_bad {s:List UInt8} {k:Nat} (hk:k<s.length) (h:chW s[k]=false):nmW s=false:=by
 have:s.all chW=false:=by
  rw [List.all_eq_false]
  exact ⟨s[k],List.getElem_mem hk,by rw [h];simp⟩
 unfold nmW;rw [this];simp
theorem nmW_good {s:List UInt8} (h0:¬s.length=0) (h1:s.length≤24) (hd:digW s=false) (h:s.all chW=true):nmW s=true:=by
 unfold nmW;rw [h,hd];simp;exact ⟨by intro e;subst e;simp at h0,h1⟩
theorem allW_snoc {s:List UInt8} {k:Nat} (hk:k<s.length) (h:(s.take k).all chW=true) (hc:chW s[k]=true):(s.take (k+1)).all chW=true:=by
 rw [List.take_succ_eq_append_getElem hk,List.all_append,h]
 simp [hc]
theorem digW_of {s:List UInt8} (h:0<s.length):digW s=decide (48≤(s[0]).toNat∧(s[0]).toNat≤57):=by
 cases s with
 |nil=>simp at h
 |cons c r=>rfl
theorem run_index_str (S:ByteArray) (s:List UInt8) (hS:S=strB s) (k:Nat) (hk:k<s.length) (w:World):(Instr.index 9 (.string S) (.int .i64 (k:Int))).run prog w=.ok (.int .u8 ((s[k]'hk).toNat:Int)) w:=by
 subst hS
 have h:(strB s)[k]? =some s[k]:=by
  have h1:k<(strB s).size:=by rw [strB_size];exact hk
  rw [getElem?_pos (strB s) k h1]
  rfl
 simp [Instr.index,asIntOf,run_underlying underlying9,h]
theorem refName_any (s:List UInt8) (w:World) (hlen:s.length≤maxLen):Calls prog 32 #[.string (strB s)] w fun e w'=>e=.returned (.bool (nmW s))∧w=w':=by
 have hsz:=strB_size s
 have HIX:=hI0 (run_index_str (strB s) s rfl)
 generalize hwf:nmW s=wf
 have HWF:=hI0 hwf
 clear hwf
 generalize strB s=S at *
 unfold maxLen at hlen
 go_in
 go_wp2_with fail
 go_loop [3] (fun i=>∃k:Nat,k≤s.length∧i=.int .i64 k∧Hid (0<k→digW s=false)∧(s.take k).all chW=true) (fun i=>s.length-(intOf i).toNat)
 case atStart=>exact ⟨0,Nat.zero_le _,rfl,hI0 (fun h=>by omega),rfl⟩
 obtain ⟨k,hk,rfl,HK,hp⟩:=hrel
 have HP:=hI0 hp
 clear hp
 by_cases hlt:k<s.length
 case pos=>
  have hix:=HIX.out k hlt
  have q0:(k:Int)<(S.size:Int):=by omega
  have HS:=hI0 (@allW_snoc s k hlt HP.out)
  have HB:=hI0 (@nmW_bad s k hlt)
  have HD0:Hid (k=0→digW s=decide (48≤(s[k]).toNat∧(s[k]).toNat≤57)):=hI0 (fun h=>by subst h;exact digW_of hlt)
  generalize s[k]=ch at *
  have hc256:=ch.toNat_lt
  have hcases:(ch.toNat:Int)<48∨(48≤(ch.toNat:Int)∧(ch.toNat:Int)≤57)∨(57<(ch.toNat:Int)∧(ch.toNat:Int)<95)∨(ch.toNat:Int)=95∨(ch.toNat:Int)=96∨(97≤(ch.toNat:Int)∧(ch.toNat:Int)≤122)∨122<(ch.toNat:Int):=by omega
  by_cases hk0:k=0
  all_goals
   have HK0:=hI0 hk0
   first
    |(have z1:¬(0:Int)<(k:Int):=by omega
      have z2:¬ 0<k:=by omega
      clear hk0)
    |(have z1:(0:Int)<(k:Int):=by omega
      have z2:0<k:=by omega
      clear hk0)
   rcases hcases with hq|hq|hq|hq|hq|hq|hq
   ·have f95:¬((ch.toNat:Int)=95):=by omega
    have e95:((ch.toNat:Int)==(95:Int))=false:=by simp;omega
    have a97:¬((97:Int)≤(ch.toNat:Int)):=by omega
    have b97:((ch.toNat:Int)<97):=by omega
    have a48:¬((48:Int)≤(ch.toNat:Int)):=by omega
    have b48:((ch.toNat:Int)<48):=by omega
    have a122:((ch.toNat:Int)≤122):=by omega
    have b122:¬((122:Int)<(ch.toNat:Int)):=by omega
    have a57:((ch.toNat:Int)≤57):=by omega
    have b57:¬((57:Int)<(ch.toNat:Int)):=by omega
    have hw:wf=false:=by rw [←HWF.out];exact HB.out (by unfold chW;simp;omega)
    subst hw
    clear HS HB hq
    go_wp2_with fail
    go_ret
    exact ⟨rfl,rfl⟩
   ·have f95:¬((ch.toNat:Int)=95):=by omega
    have e95:((ch.toNat:Int)==(95:Int))=false:=by simp;omega
    have a97:¬((97:Int)≤(ch.toNat:Int)):=by omega
    have b97:((ch.toNat:Int)<97):=by omega
    have a48:((48:Int)≤(ch.toNat:Int)):=by omega
    have b48:¬((ch.toNat:Int)<48):=by omega
    have a122:((ch.toNat:Int)≤122):=by omega
    have b122:¬((122:Int)<(ch.toNat:Int)):=by omega
    have a57:((ch.toNat:Int)≤57):=by omega
    have b57:¬((57:Int)<(ch.toNat:Int)):=by omega
    by_cases hkk:k=0
    ·have hw:wf=false:=by rw [←HWF.out];exact nmW_dig (by rw [HD0.out hkk];exact decide_eq_true (by omega))
     subst hw
     clear HS HB hq
     first
      |(exact absurd hkk HK0.out)
      |(clear hkk
        go_wp2_with fail
        go_ret
        exact ⟨rfl,rfl⟩)
    ·have hch:chW ch=true:=by unfold chW;simp;omega
     have HS2:=hI0 (HS.out hch)
     have HKN:Hid (0<k+1→digW s=false):=hI0 (fun _=>HK.out (by omega))
     clear HS HB hch hq
     first
      |(exact absurd HK0.out hkk)
      |(clear hkk
        go_wp2_with fail
        go_round
        case rel=>exact ⟨k+1,by omega,by go_num,HKN,HS2.out⟩
        case measure=>simp [intOf];omega)
   ·have f95:¬((ch.toNat:Int)=95):=by omega
    have e95:((ch.toNat:Int)==(95:Int))=false:=by simp;omega
    have a97:¬((97:Int)≤(ch.toNat:Int)):=by omega
    have b97:((ch.toNat:Int)<97):=by omega
    have a48:((48:Int)≤(ch.toNat:Int)):=by omega
    have b48:¬((ch.toNat:Int)<48):=by omega
    have a122:((ch.toNat:Int)≤122):=by omega
    have b122:¬((122:Int)<(ch.toNat:Int)):=by omega
    have a57:¬((ch.toNat:Int)≤57):=by omega
    have b57:((57:Int)<(ch.toNat:Int)):=by omega
    have hw:wf=false:=by rw [←HWF.out];exact HB.out (by unfold chW;simp;omega)
    subst hw
    clear HS HB hq
    go_wp2_with fail
    go_ret
    exact ⟨rfl,rfl⟩
   ·have f95:((ch.toNat:Int)=95):=by omega
    have e95:((ch.toNat:Int)==(95:Int))=true:=by simp;omega
    have a97:¬((97:Int)≤(ch.toNat:Int)):=by omega
    have b97:((ch.toNat:Int)<97):=by omega
    have a48:((48:Int)≤(ch.toNat:Int)):=by omega
    have b48:¬((ch.toNat:Int)<48):=by omega
    have a122:((ch.toNat:Int)≤122):=by omega
    have b122:¬((122:Int)<(ch.toNat:Int)):=by omega
    have a57:¬((ch.toNat:Int)≤57):=by omega
    have b57:((57:Int)<(ch.toNat:Int)):=by omega
    have hch:chW ch=true:=by unfold chW;simp;omega
    have HS2:=hI0 (HS.out hch)
    have HKN:Hid (0<k+1→digW s=false):=hI0 (fun _=>(Nat.eq_zero_or_pos k).elim (fun h=>by rw [HD0.out h];exact decide_eq_false (by omega)) HK.out)
    clear HS HB hch hq
    go_wp2_with fail
    go_round
    case rel=>exact ⟨k+1,by omega,by go_num,HKN,HS2.out⟩
    case measure=>simp [intOf];omega
   ·have f95:¬((ch.toNat:Int)=95):=by omega
    have e95:((ch.toNat:Int)==(95:Int))=false:=by simp;omega
    have a97:¬((97:Int)≤(ch.toNat:Int)):=by omega
    have b97:((ch.toNat:Int)<97):=by omega
    have a48:((48:Int)≤(ch.toNat:Int)):=by omega
    have b48:¬((ch.toNat:Int)<48):=by omega
    have a122:((ch.toNat:Int)≤122):=by omega
    have b122:¬((122:Int)<(ch.toNat:Int)):=by omega
    have a57:¬((ch.toNat:Int)≤57):=by omega
    have b57:((57:Int)<(ch.toNat:Int)):=by omega
    have hw:wf=false:=by rw [←HWF.out];exact HB.out (by unfold chW;simp;omega)
    subst hw
    clear HS HB hq
    go_wp2_with fail
    go_ret
    exact ⟨rfl,rfl⟩
   ·have f95:¬((ch.toNat:Int)=95):=by omega
    have e95:((ch.toNat:Int)==(95:Int))=false:=by simp;omega
    have a97:((97:Int)≤(ch.toNat:Int)):=by omega
    have b97:¬((ch.toNat:Int)<97):=by omega
    have a48:((48:Int)≤(ch.toNat:Int)):=by omega
    have b48:¬((ch.toNat:Int)<48):=by omega
    have a122:((ch.toNat:Int)≤122):=by omega
    have b122:¬((122:Int)<(ch.toNat:Int)):=by omega
    have a57:¬((ch.toNat:Int)≤57):=by omega
    have b57:((57:Int)<(ch.toNat:Int)):=by omega
    have hch:chW ch=true:=by unfold chW;simp;omega
    have HS2:=hI0 (HS.out hch)
    have HKN:Hid (0<k+1→digW s=false):=hI0 (fun _=>(Nat.eq_zero_or_pos k).elim (fun h=>by rw [HD0.out h];exact decide_eq_false (by omega)) HK.out)
    clear HS HB hch hq
    go_wp2_with fail
    go_round
    case rel=>exact ⟨k+1,by omega,by go_num,HKN,HS2.out⟩
    case measure=>simp [intOf];omega
   ·have f95:¬((ch.toNat:Int)=95):=by omega
    have e95:((ch.toNat:Int)==(95:Int))=false:=by simp;omega
    have a97:((97:Int)≤(ch.toNat:Int)):=by omega
    have b97:¬((ch.toNat:Int)<97):=by omega
    have a48:((48:Int)≤(ch.toNat:Int)):=by omega
    have b48:¬((ch.toNat:Int)<48):=by omega
    have a122:¬((ch.toNat:Int)≤122):=by omega
    have b122:((122:Int)<(ch.toNat:Int)):=by omega
    have a57:¬((ch.toNat:Int)≤57):=by omega
    have b57:((57:Int)<(ch.toNat:Int)):=by omega
    have hw:wf=false:=by rw [←HWF.out];exact HB.out (by unfold chW;simp;omega)
    subst hw
    clear HS HB hq
    go_wp2_with fail
    go_ret
    exact ⟨rfl,rfl⟩
 have q0:¬(k:Int)<(S.size:Int):=by omega
 have hal:s.all chW=true:=by have:=HP.out;rwa [List.take_of_length_le (by omega)] at this
 have HAL:=hI0 hal
 clear hal
 by_cases h0:s.length=0
 ·have hw:wf=false:=by rw [←HWF.out,List.eq_nil_of_length_eq_zero h0];rfl
  subst hw
  have q1:¬(1:Int)≤(S.size:Int):=by omega
  go_wp2_with fail
  go_ret
  exact ⟨rfl,rfl⟩
 ·have q1:(1:Int)≤(S.size:Int):=by omega
  by_cases h1:s.length≤24
  ·have hw:wf=true:=by rw [←HWF.out];exact nmW_good h0 h1 (HK.out (by omega)) HAL.out
   subst hw
   have q2:decide ((s.length:Int)≤24)=true:=by simp;omega
   go_wp2_with fail
   go_ret
   exact ⟨rfl,rfl⟩
  ·have hw:wf=false:=by rw [←HWF.out];exact nmW_long (by omega)
   subst hw
   have q2:decide ((s.length:Int)≤24)=false:=by simp;omega
   go_wp2_with fail
   go_ret
   exact ⟨rfl,rfl⟩
end
section
open Go.RowKit Go.Lib Go.IntWalk Go.Sort Go.Shelf
section
variable {P:Program} {t e:TypeId} {i:TypeInfo} {size:Nat}
end
theorem slice_vers {A:Option Addr} {n c:Nat} (i j:Nat) (hij:i≤j) (hj:j≤c) (w:World):
  (Instr.slice 35 (.slice A n c) (some (.int .i64 (i:Int))) (some (.int .i64 (j:Int))) none).run prog w=.ok (.slice (cutA A c i 9) (j-i) (c-i)) w:=by
 obtain ⟨i0,hi,hz0,hz1,hz2⟩:=info_parts infoVer
 exact run_slice_lohi (P:=prog) underlying35 hi hz1 A n c i j hij hj w
theorem flat_drop {α:Type} (n:Nat) (f:α→List Value) (hf:∀x,(f x).length=n):∀(i:Nat) (l:List α),(l.flatMap f).drop (i*n)=(l.drop i).flatMap f:=by
 intro i
 induction i with
 |zero=>intro l;simp
 |succ i ih=>
  intro l
  cases l with
  |nil=>simp
  |cons a r=>
   rw [List.flatMap_cons,List.drop_succ_cons,←ih r,Nat.succ_mul,Nat.add_comm,←List.drop_drop]
   congr 1
   rw [←hf a,List.drop_left]
theorem flat_take {α:Type} (n:Nat) (f:α→List Value) (hf:∀x,(f x).length=n):∀(i:Nat) (l:List α),(l.flatMap f).take (i*n)=(l.take i).flatMap f:=by
 intro i
 induction i with
 |zero=>intro l;simp
 |succ i ih=>
  intro l
  cases l with
  |nil=>simp
  |cons a r=>
   rw [List.flatMap_cons,List.take_succ_cons,List.flatMap_cons,←ih r,Nat.succ_mul,Nat.add_comm,List.take_add,←hf a,List.take_left,List.drop_left]
theorem RdVs.cut {w:World} {F:Nat→Prop} {A:Option Addr} {c:Nat} {ps:List VP} (h:RdVs w F (.slice A ps.length c) ps) {i j m:Nat} (hij:i≤j) (hj:j≤ps.length) (hm:j≤m) (hmc:m≤c):
  RdVs w F (.slice (cutA A m i 9) (j-i) (m-i)) ((ps.drop i).take (j-i)):=by
 refine ⟨?_,fun p hp=>h.2 p (List.mem_of_mem_drop (List.mem_of_mem_take hp))⟩
 have h1:=Rd.cut' h.1 (l:=i) (h:=j) (m:=m) hij hj hm hmc
 rw [flat_drop 9 _ (fun p=>p.1.enc_length),flat_take 9 _ (fun p=>p.1.enc_length)] at h1
 have e:((ps.drop i).take (j-i)).length=j-i:=by rw [List.length_take,List.length_drop];omega
 rw [e]
 exact h1
theorem take_one {α:Type} {l:List α} {k:Nat} (hk:k<l.length):(l.drop k).take (k+1-k)=[l[k]]:=by
 rw [Nat.add_sub_cancel_left,List.drop_eq_getElem_cons hk];rfl
theorem take_two {α:Type} {l:List α} {k:Nat} (hk:k+1<l.length):(l.drop k).take (k+2-k)=[l[k],l[k+1]]:=by
 rw [Nat.add_sub_cancel_left,List.drop_eq_getElem_cons (by omega),List.drop_eq_getElem_cons hk];rfl
theorem encVsE_two {p x:Ver} (hp:validVer p=true) (hx:validVer x=true):encVsE [p,x]=9↔ltV p x=false:=by
 have hc:chkFrom none [p,x]=if ltV p x=true then 0 else 9:=by
  rw [chkFrom_cons,if_pos hp,if_pos (show okPrev none p=true from rfl),chkFrom_cons,if_pos hx]
  rfl
 unfold encVsE
 rw [if_neg (by simp),hc]
 by_cases h:ltV p x=true
 ·rw [if_pos h,if_neg (by simp),h]
  split<;>simp
 ·rw [if_neg h,if_pos (by decide)]
  simpa using h
end
section
open Go.RowKit Go.Lib Go.IntWalk Go.Sort Go.Shelf
theorem refVersions_any (v:Value) (ps:List VP) (w:World) (hv:RdVs w (ltw w) v ps):
  Calls prog 81 #[v] w fun e w'=>e=.returned (.int .i64 (chkFrom none (ps.map (·.2))))∧Bl w w':=by
 obtain ⟨A,c,rfl,hc1,hc2,hc3⟩:=hv.1.open_
 unfold maxLen at hc2
 have HVP:=hI0 hv
 clear hv
 obtain ⟨res,hres⟩:=eN0 (chkFrom none (ps.map (·.2)))
 rw [←hres]
 have HRES:=hI0 hres
 clear hres hc3
 go_in
 go_wp2_with fail
 go_loopw [7] (fun i wr=>∃j:Nat,i=.int .i64 (j:Int)∧j≤ps.length∧Hid (chkFrom (prevV (ps.map (·.2)) j) ((ps.map (·.2)).drop j)=res)∧Bl w wr) (fun i _=>ps.length-(intOf i).toNat)
 case atStart=>exact ⟨0,rfl,Nat.zero_le _,hI0 HRES.out.symm,Below.refl _ _⟩
 obtain ⟨j,rfl,hj,HJ,hBi⟩:=hrel
 obtain ⟨wi,rfl⟩:=eN0 wr
 have hsi:=hBi.size
 by_cases hltj:j<ps.length
 case neg=>
  have hje:j=ps.length:=by omega
  have HZ:Hid (res=0):=hI0 (by rw [←HJ.out];exact chk_end (by rw [List.length_map];exact hje))
  go_wp2_with fail
  go_ret
  exact ⟨ret_int HZ.out.symm,hBi⟩
 obtain ⟨b2,off2,rfl,hF2,hcl,hx⟩:=RdVs.at_ (HVP.out.below hBi) hltj
 have hst:=chk_step (xs:=ps.map (·.2)) (k:=j) (by rw [List.length_map];exact hltj)
 rw [HJ.out,List.getElem_map] at hst
 have hpv:0<j→∃q:VP,prevV (ps.map (·.2)) j=some q.2∧VerIs wi (ltw wi) q.1 q.2∧∀t u,t<9→q.1.enc[t]? =some u→wi.cell? ⟨b2,off2+(j-1)*9+t,none⟩=some u:=fun h0=>by
  obtain ⟨b',off',e,_,hcl',hx'⟩:=RdVs.at_ (HVP.out.below hBi) (k:=j-1) (by omega)
  injection e with e;injection e with e1 e2;subst e1;subst e2
  refine ⟨ps[j-1],?_,hx',hcl'⟩
  unfold prevV
  rw [if_neg (by omega),List.getElem?_map,List.getElem?_eq_getElem (by omega)];rfl
 have HPV:=hI0 hpv
 have HST:=hI0 hst
 clear hst hpv
 generalize ps[j]=p at *
 obtain ⟨⟨x1,x2,xA,xn,xc,x3,x4,x5,x6,x7,x8⟩,x⟩:=p
 simp only at hcl hx HST
 obtain ⟨g0,g1,g2,g3,g4,g5,g6,g7,g8⟩:=cK9 hcl (show _=[.int .i64 x1,.int .i64 x2,.slice xA xn xc,.int .i64 x3,.int .i64 x4,.int .i64 x5,.int .i64 x6,.int .i64 x7,.int .i64 x8] from rfl)
 have HX:=hI0 hx
 clear hcl hx
 go_wp2_with fail
 obtain ⟨W1,hW1⟩:=eN0 (wi.alloc (.cells #[.int .i64 x1,.int .i64 x2,.slice xA xn xc,.int .i64 x3,.int .i64 x4,.int .i64 x5,.int .i64 x6,.int .i64 x7,.int .i64 x8] 56))
 have hWs:W1.heap.size=wi.heap.size+1:=by subst hW1;simp
 have hbW:Bl wi W1:=by subst hW1;exact Below.of_alloc _
 have hWh:W1.heap[wi.heap.size]? =some (.cells #[.int .i64 x1,.int .i64 x2,.slice xA xn xc,.int .i64 x3,.int .i64 x4,.int .i64 x5,.int .i64 x6,.int .i64 x7,.int .i64 x8] 56 (0,0)):=by subst hW1;exact heap_alloc_new wi _
 rw [←hW1]
 clear hW1
 have HX1:Hid (VerIs W1 (ltw W1) (⟨x1,x2,xA,xn,xc,x3,x4,x5,x6,x7,x8⟩:RV) x):=hI0 ((HX.out.keep (Keeps.below hbW)).wide (fun b' (h:b'<wi.heap.size)=>by show b'<W1.heap.size;omega))
 have KV:Calls prog 33 #[.agg #[.int .i64 x1,.int .i64 x2,.slice xA xn xc,.int .i64 x3,.int .i64 x4,.int .i64 x5,.int .i64 x6,.int .i64 x7,.int .i64 x8]] W1 (fun e w'=>e=.returned (.bool (validVer x))∧Bl W1 w'):=refVersion_any (⟨x1,x2,xA,xn,xc,x3,x4,x5,x6,x7,x8⟩:RV) x W1 HX1.out
 (with_reducible refine KV.mono ?_)
 rintro _ w2 ⟨rfl,hb2⟩
 have hB2:Bl w w2:=hBi.trans ((hbW.trans (hb2.mono (by omega))).mono hsi)
 have hWh2:w2.heap[wi.heap.size]? =some (.cells #[.int .i64 x1,.int .i64 x2,.slice xA xn xc,.int .i64 x3,.int .i64 x4,.int .i64 x5,.int .i64 x6,.int .i64 x7,.int .i64 x8] 56 (0,0)):=(hb2.block _ (by omega)).trans hWh
 have c6:=cW1 6 hWh2 rfl
 have e6:x6=x.st:=HX.out.st
 by_cases hval:validVer x=true
 case neg=>
  have HVL:=hI0 (show validVer x=false by simpa using hval)
  have HF:Hid (res=8):=hI0 (by rw [HST.out,if_neg hval])
  rw [HVL.out]
  clear hval
  go_wp2_with fail
  go_ret
  exact ⟨ret_int HF.out.symm,hB2⟩
 have HVL:=hI0 hval
 rw [HVL.out]
 have h6:True:=trivial
 all_goals
  have HC:Hid (res=if okPrev (prevV (ps.map (·.2)) j) x=true then chkFrom (prevV (ps.map (·.2)) (j+1)) ((ps.map (·.2)).drop (j+1)) else 9):=hI0 (by rw [HST.out,if_pos hval])
  clear hval e6
  have hbo:Bl wi w2:=hbW.trans (hb2.mono (by omega))
  have hs2:wi.heap.size+1≤w2.heap.size:=by have:=hb2.size;omega
  have LB:Hid (∀w',Bl w2 w'→∀j u,[.int .i64 x1,.int .i64 x2,.slice xA xn xc,.int .i64 x3,.int .i64 x4,.int .i64 x5,.int .i64 x6,.int .i64 x7,.int .i64 x8][j]? =some u→w'.cell? ⟨wi.heap.size,j,none⟩=some u):=hI0 (fun w' h j u hj=>(cW0 _ wi.heap.size j _ _ _ ((h.block _ (by omega)).trans hWh2)).trans (by simpa using hj))
  clear hWh hWh2 HX1 KV
  by_cases h0:j=0
  case pos=>
   have HN:Hid (chkFrom (prevV (ps.map (·.2)) (j+1)) ((ps.map (·.2)).drop (j+1))=res):=hI0 (by rw [HC.out,if_pos (by subst h0;rfl)])
   have hz1:¬(0:Int)<(j:Int):=by omega
   have hz2:¬ 0<j:=by omega
   clear h0
   go_wp2_with fail
   refine rB0 w2 (fun zh=>?_)
   refine hT 0 15 ?_
   refine hT 1 16 ?_
   refine hT 2 17 ?_
   refine hK 3 18 ?_
   refine hK 4 19 ?_
   refine hK 5 20 ?_
   refine hK 6 21 ?_
   refine hK 7 22 ?_
   refine hK 8 23 ?_
   refine hK 9 24 ?_
   refine hK 10 25 ?_
   refine hT 11 26 ?_
   refine rD0 ?_
   clear zh
   go_wp2_with fail
   go_roundw
   case rel=>exact ⟨j+1,by go_num,by omega,HN,hB2.drew⟩
   case measure=>simp [intOf];omega
  obtain ⟨q,hq1,hq2,hq3⟩:=HPV.out (by omega)
  obtain ⟨i,rfl⟩:∃i,j=i+1:=⟨j-1,by omega⟩
  rw [Nat.add_sub_cancel] at hq3
  obtain ⟨⟨y1,y2,yA,yn,yc,y3,y4,y5,y6,y7,y8⟩,y⟩:=q
  simp only at hq1 hq2 hq3
  have HST2:=HC.out
  rw [hq1] at HST2
  have eo:okPrev (some y) x=ltV y x:=rfl
  rw [eo] at HST2
  have hlv:=hq2.lt HX.out
  obtain ⟨lb,hlb⟩:=eN0 (ltV y x)
  rw [←hlb] at hlv HST2
  have HS2:=hI0 HST2
  clear HST2 hq1 hlb HPV eo
  have PC:Hid (∀w',Bl w2 w'→∀j u,j<9→[.int .i64 y1,.int .i64 y2,.slice yA yn yc,.int .i64 y3,.int .i64 y4,.int .i64 y5,.int .i64 y6,.int .i64 y7,.int .i64 y8][j]? =some u→w'.cell? ⟨b2,off2+i*9+j,none⟩=some u):=hI0 (fun w' h j u hj hu=>(World.cell?_of_block ((h.block b2 (by omega)).trans (hbo.block b2 (by omega)))).trans (hq3 j u hj hu))
  clear hq3 hq2
  have ew:IntKind.i64.wrap (((i+1:Nat):Int)-1)=((i:Nat):Int):=by rw [IntKind.wrap_i64];omega
  have hil:(i:Int)<(ps.length:Int):=by omega
  have hip:(0:Int)<((i+1:Nat):Int):=by omega
  have KC:∀W,Calls prog 34 #[.agg #[.int .i64 y1,.int .i64 y2,.slice yA yn yc,.int .i64 y3,.int .i64 y4,.int .i64 y5,.int .i64 y6,.int .i64 y7,.int .i64 y8],.agg #[.int .i64 x1,.int .i64 x2,.slice xA xn xc,.int .i64 x3,.int .i64 x4,.int .i64 x5,.int .i64 x6,.int .i64 x7,.int .i64 x8]] W fun e w'=>e=.returned (.bool lb)∧Bl W w':=fun W=>by rw [←hlv];exact before_any (⟨y1,y2,yA,yn,yc,y3,y4,y5,y6,y7,y8⟩:RV) (⟨x1,x2,xA,xn,xc,x3,x4,x5,x6,x7,x8⟩:RV) W
  clear hlv
  obtain ⟨z,hz⟩:=eN0 (i+1)
  have HZ:=hI0 hz
  rw [←hz] at ew hip hltj HS2 HJ ⊢
  have hz0:0<z:=by omega
  have HLT:=hI0 (And.intro hltj (show i+1≤ps.length from hj))
  clear hz
  go_wp2_with fail
  refine rB0 w2 (fun zh=>?_)
  refine hT 0 15 ?_
  refine hT 1 16 ?_
  refine hT 2 17 ?_
  refine hT 3 18 ?_
  refine hT 4 19 ?_
  refine hT 5 20 ?_
  refine hT 6 21 ?_
  refine hU 7 22 (v:=?_) zh ?_ ?_
  rotate_left
  ·intro w' hSw;(try dsimp only at hSw);have c0:w'.cell? ⟨b2,off2+i*9,none⟩=some (.int .i64 y1):=PC.out w' hSw 0 _ (by decide) rfl;have c1:w'.cell? ⟨b2,off2+i*9+1,none⟩=some (.int .i64 y2):=PC.out w' hSw 1 _ (by decide) rfl;have c2:w'.cell? ⟨b2,off2+i*9+2,none⟩=some (.slice yA yn yc):=PC.out w' hSw 2 _ (by decide) rfl;have c3:w'.cell? ⟨b2,off2+i*9+3,none⟩=some (.int .i64 y3):=PC.out w' hSw 3 _ (by decide) rfl;have c4:w'.cell? ⟨b2,off2+i*9+4,none⟩=some (.int .i64 y4):=PC.out w' hSw 4 _ (by decide) rfl;have c5:w'.cell? ⟨b2,off2+i*9+5,none⟩=some (.int .i64 y5):=PC.out w' hSw 5 _ (by decide) rfl;have c6:w'.cell? ⟨b2,off2+i*9+6,none⟩=some (.int .i64 y6):=PC.out w' hSw 6 _ (by decide) rfl;have c7:w'.cell? ⟨b2,off2+i*9+7,none⟩=some (.int .i64 y7):=PC.out w' hSw 7 _ (by decide) rfl;have c8:w'.cell? ⟨b2,off2+i*9+8,none⟩=some (.int .i64 y8):=PC.out w' hSw 8 _ (by decide) rfl;go_simp<;>with_reducible rfl
  refine hU 8 23 (v:=?_) zh ?_ ?_
  rotate_left
  ·intro w' hSw;(try dsimp only at hSw);have c0:w'.cell? ⟨wi.heap.size,0,none⟩=some (.int .i64 x1):=LB.out w' hSw 0 _ rfl;have c1:w'.cell? ⟨wi.heap.size,1,none⟩=some (.int .i64 x2):=LB.out w' hSw 1 _ rfl;have c2:w'.cell? ⟨wi.heap.size,2,none⟩=some (.slice xA xn xc):=LB.out w' hSw 2 _ rfl;have c3:w'.cell? ⟨wi.heap.size,3,none⟩=some (.int .i64 x3):=LB.out w' hSw 3 _ rfl;have c4:w'.cell? ⟨wi.heap.size,4,none⟩=some (.int .i64 x4):=LB.out w' hSw 4 _ rfl;have c5:w'.cell? ⟨wi.heap.size,5,none⟩=some (.int .i64 x5):=LB.out w' hSw 5 _ rfl;have c6:w'.cell? ⟨wi.heap.size,6,none⟩=some (.int .i64 x6):=LB.out w' hSw 6 _ rfl;have c7:w'.cell? ⟨wi.heap.size,7,none⟩=some (.int .i64 x7):=LB.out w' hSw 7 _ rfl;have c8:w'.cell? ⟨wi.heap.size,8,none⟩=some (.int .i64 x8):=LB.out w' hSw 8 _ rfl;go_simp<;>with_reducible rfl
  refine hC 9 24 ?_
  (with_reducible refine (KC _).mono ?_)
  rintro _ w3 ⟨rfl,hb3'⟩
  have hb3:Bl w2 w3:=(Below.undrew hb3')
  refine ⟨_,rfl,keepAnd hb3 ?_⟩
  clear zh
  intro zh
  simp only [aP]
  refine hT 10 25 ?_
  refine hT 11 26 ?_
  refine rD0 ?_
  clear zh
  have hB3:Bl w w3:=hB2.trans (hb3.mono hB2.size)
  cases lb
  case false=>
   have HN:Hid (res=9):=hI0 (by rw [HS2.out];exact if_neg (by decide))
   go_wp2_with fail
   go_ret
   exact ⟨ret_int HN.out.symm,hB3⟩
  have HN:Hid (res=chkFrom (prevV (ps.map (·.2)) (z+1)) ((ps.map (·.2)).drop (z+1))):=hI0 (by rw [HS2.out];exact if_pos rfl)
  go_wp2_with fail
  go_roundw
  case rel=>exact ⟨z+1,by go_num,by have:=HLT.out.1;omega,hI0 HN.out.symm,hB3⟩
  case measure=>have q1:=HLT.out.1;have q2:=HZ.out;simp [intOf];omega
end
section
open Go.RowKit Go.Lib Go.IntWalk Go.Sort Go.Shelf
theorem OwnB.cast {w:World} {base:Nat} {v:Value} {a b:List UInt8} (h:OwnB w base v a) (e:a=b):OwnB w base v b:=e▸h
end
section
open Go.RowKit Go.Lib Go.IntWalk Go.Sort Go.Shelf
theorem recWord_any (s:List UInt8) (w:World):Calls prog 108 #[.string (strB s)] w fun e w'=>e=.returned (.bool (nmW s))∧Bl w w':=by
 have hsz:=strB_size s
 by_cases h0:s.length=0
 ·obtain rfl:s=[]:=List.eq_nil_of_length_eq_zero h0
  rw [nmW_nil]
  have b1:(strB []).toList.isEmpty=true:=by rw [ByteArray.toList_eq];rfl
  generalize strB []=S at *
  clear h0 hsz
  go_in
  go_wp2_with fail
  go_ret
  exact ⟨rfl,Below.refl _ _⟩
 have b1:(strB s).toList.isEmpty=false:=by rw [ByteArray.toList_eq];cases s<;>simp_all [strB]
 by_cases h1:24<s.length
 ·rw [nmW_long h1]
  have q1:(24:Int)<((strB s).size:Int):=by omega
  generalize strB s=S at *
  clear hsz h0 h1
  go_in
  go_wp2_with fail
  go_ret
  exact ⟨rfl,Below.refl _ _⟩
 have q1:¬(24:Int)<((strB s).size:Int):=by omega
 have hdg:=digW_of (s:=s) (by omega)
 have hs0:(strB s)[0]'(by rw [strB_size];omega)=s[0]:=rfl
 obtain ⟨x,W,hcv,hrd,hbW⟩:=conv_sb w (strB s) (by omega)
 rw [show (strB s).data.toList=s by simp [strB]] at hrd
 generalize s[0]=c0 at hdg hs0
 have q0:(0:Int)<((strB s).size:Int):=by omega
 have q2:0<(strB s).size:=by omega
 have hc0l:=c0.toNat_lt
 by_cases hd:48≤c0.toNat∧c0.toNat≤57
 ·rw [nmW_dig (by rw [hdg];exact decide_eq_true hd)]
  obtain ⟨S,hS⟩:=eN0 (strB s)
  have q3:0<S.size:=by rw [hS];exact q2
  have q4:(0:Int)<(S.size:Int):=by omega
  have e0:S[0]=c0:=by subst hS;exact hs0
  have d1:(48:Int)≤(S[0].toNat:Int):=by rw [e0];omega
  have d2:(S[0].toNat:Int)≤57:=by rw [e0];omega
  rw [←hS] at b1 q1 ⊢
  clear hsz h0 h1 hdg hrd hcv e0 hs0 hS q0 q2
  go_in
  go_wp2_with fail
  go_ret
  exact ⟨rfl,Below.refl _ _⟩
 have HDG:Hid (digW s=false):=hI0 (by rw [hdg];exact decide_eq_false hd)
 have HD:=hI0 hd
 obtain ⟨S,hS⟩:=eN0 (strB s)
 have q3:0<S.size:=by rw [hS];exact q2
 have q4:(0:Int)<(S.size:Int):=by omega
 have e0:S[0]=c0:=by subst hS;exact hs0
 rw [←hS] at b1 q1 hcv ⊢
 have E0:=hI0 e0
 obtain ⟨A,c,rfl,hc1,hc2,hc3⟩:=hrd.open_
 unfold maxLen at hc2
 have H0:=hI0 h0
 clear hsz h0 hdg hd e0 hs0 hS q0 q2
 by_cases hd1:(48:Int)≤(S[0].toNat:Int)
 case' pos=>
  have hd2:¬(S[0].toNat:Int)≤57:=by rw [E0.out] at hd1 ⊢;have:=HD.out;omega
 all_goals
  go_in
  go_wp2_with fail
  go_loop [25] (fun i=>∃k:Nat,k≤s.length∧i=.int .i64 k∧(s.take k).all chW=true) (fun i=>s.length-(intOf i).toNat)
  case atStart=>exact ⟨0,Nat.zero_le _,rfl,rfl⟩
  obtain ⟨k,hk,rfl,hp⟩:=hrel
  have HP:=hI0 hp
  clear hp
  by_cases hlt:k<s.length
  case pos=>
   obtain ⟨b,off,rfl,hF,g0⟩:=RdB.byte hrd hlt
   have HS:=hI0 (@allW_snoc s k hlt HP.out)
   have HB:=hI0 (@nmW_bad s k hlt)
   generalize s[k]=ch at *
   have hc256:=ch.toNat_lt
   have hcases:(ch.toNat:Int)<48∨(48≤(ch.toNat:Int)∧(ch.toNat:Int)≤57)∨(57<(ch.toNat:Int)∧(ch.toNat:Int)<95)∨(ch.toNat:Int)=95∨(ch.toNat:Int)=96∨(97≤(ch.toNat:Int)∧(ch.toNat:Int)≤122)∨122<(ch.toNat:Int):=by omega
   rcases hcases with hq|hq|hq|hq|hq|hq|hq
   ·have f95:¬((ch.toNat:Int)=95):=by omega
    have e95:((ch.toNat:Int)==(95:Int))=false:=by simp;omega
    have a97:¬((97:Int)≤(ch.toNat:Int)):=by omega
    have b97:((ch.toNat:Int)<97):=by omega
    have a48:¬((48:Int)≤(ch.toNat:Int)):=by omega
    have b48:((ch.toNat:Int)<48):=by omega
    have a122:((ch.toNat:Int)≤122):=by omega
    have b122:¬((122:Int)<(ch.toNat:Int)):=by omega
    have a57:((ch.toNat:Int)≤57):=by omega
    have b57:¬((57:Int)<(ch.toNat:Int)):=by omega
    have hw:nmW s=false:=HB.out (by unfold chW;simp;omega)
    have HW:=hI0 hw
    clear hw HS HB hq
    go_wp2_with fail
    go_ret
    exact ⟨by rw [HW.out];rfl,hbW⟩
   ·have f95:¬((ch.toNat:Int)=95):=by omega
    have e95:((ch.toNat:Int)==(95:Int))=false:=by simp;omega
    have a97:¬((97:Int)≤(ch.toNat:Int)):=by omega
    have b97:((ch.toNat:Int)<97):=by omega
    have a48:((48:Int)≤(ch.toNat:Int)):=by omega
    have b48:¬((ch.toNat:Int)<48):=by omega
    have a122:((ch.toNat:Int)≤122):=by omega
    have b122:¬((122:Int)<(ch.toNat:Int)):=by omega
    have a57:((ch.toNat:Int)≤57):=by omega
    have b57:¬((57:Int)<(ch.toNat:Int)):=by omega
    have hch:chW ch=true:=by unfold chW;simp;omega
    have HS2:=hI0 (HS.out hch)
    clear HS HB hch hq
    go_wp2_with fail
    go_round
    case rel=>exact ⟨k+1,by omega,by go_num,HS2.out⟩
    case measure=>simp [intOf];omega
   ·have f95:¬((ch.toNat:Int)=95):=by omega
    have e95:((ch.toNat:Int)==(95:Int))=false:=by simp;omega
    have a97:¬((97:Int)≤(ch.toNat:Int)):=by omega
    have b97:((ch.toNat:Int)<97):=by omega
    have a48:((48:Int)≤(ch.toNat:Int)):=by omega
    have b48:¬((ch.toNat:Int)<48):=by omega
    have a122:((ch.toNat:Int)≤122):=by omega
    have b122:¬((122:Int)<(ch.toNat:Int)):=by omega
    have a57:¬((ch.toNat:Int)≤57):=by omega
    have b57:((57:Int)<(ch.toNat:Int)):=by omega
    have hw:nmW s=false:=HB.out (by unfold chW;simp;omega)
    have HW:=hI0 hw
    clear hw HS HB hq
    go_wp2_with fail
    go_ret
    exact ⟨by rw [HW.out];rfl,hbW⟩
   ·have f95:((ch.toNat:Int)=95):=by omega
    have e95:((ch.toNat:Int)==(95:Int))=true:=by simp;omega
    have a97:¬((97:Int)≤(ch.toNat:Int)):=by omega
    have b97:((ch.toNat:Int)<97):=by omega
    have a48:((48:Int)≤(ch.toNat:Int)):=by omega
    have b48:¬((ch.toNat:Int)<48):=by omega
    have a122:((ch.toNat:Int)≤122):=by omega
    have b122:¬((122:Int)<(ch.toNat:Int)):=by omega
    have a57:¬((ch.toNat:Int)≤57):=by omega
    have b57:((57:Int)<(ch.toNat:Int)):=by omega
    have hch:chW ch=true:=by unfold chW;simp;omega
    have HS2:=hI0 (HS.out hch)
    clear HS HB hch hq
    go_wp2_with fail
    go_round
    case rel=>exact ⟨k+1,by omega,by go_num,HS2.out⟩
    case measure=>simp [intOf];omega
   ·have f95:¬((ch.toNat:Int)=95):=by omega
    have e95:((ch.toNat:Int)==(95:Int))=false:=by simp;omega
    have a97:¬((97:Int)≤(ch.toNat:Int)):=by omega
    have b97:((ch.toNat:Int)<97):=by omega
    have a48:((48:Int)≤(ch.toNat:Int)):=by omega
    have b48:¬((ch.toNat:Int)<48):=by omega
    have a122:((ch.toNat:Int)≤122):=by omega
    have b122:¬((122:Int)<(ch.toNat:Int)):=by omega
    have a57:¬((ch.toNat:Int)≤57):=by omega
    have b57:((57:Int)<(ch.toNat:Int)):=by omega
    have hw:nmW s=false:=HB.out (by unfold chW;simp;omega)
    have HW:=hI0 hw
    clear hw HS HB hq
    go_wp2_with fail
    go_ret
    exact ⟨by rw [HW.out];rfl,hbW⟩
   ·have f95:¬((ch.toNat:Int)=95):=by omega
    have e95:((ch.toNat:Int)==(95:Int))=false:=by simp;omega
    have a97:((97:Int)≤(ch.toNat:Int)):=by omega
    have b97:¬((ch.toNat:Int)<97):=by omega
    have a48:((48:Int)≤(ch.toNat:Int)):=by omega
    have b48:¬((ch.toNat:Int)<48):=by omega
    have a122:((ch.toNat:Int)≤122):=by omega
    have b122:¬((122:Int)<(ch.toNat:Int)):=by omega
    have a57:¬((ch.toNat:Int)≤57):=by omega
    have b57:((57:Int)<(ch.toNat:Int)):=by omega
    have hch:chW ch=true:=by unfold chW;simp;omega
    have HS2:=hI0 (HS.out hch)
    clear HS HB hch hq
    go_wp2_with fail
    go_round
    case rel=>exact ⟨k+1,by omega,by go_num,HS2.out⟩
    case measure=>simp [intOf];omega
   ·have f95:¬((ch.toNat:Int)=95):=by omega
    have e95:((ch.toNat:Int)==(95:Int))=false:=by simp;omega
    have a97:((97:Int)≤(ch.toNat:Int)):=by omega
    have b97:¬((ch.toNat:Int)<97):=by omega
    have a48:((48:Int)≤(ch.toNat:Int)):=by omega
    have b48:¬((ch.toNat:Int)<48):=by omega
    have a122:¬((ch.toNat:Int)≤122):=by omega
    have b122:((122:Int)<(ch.toNat:Int)):=by omega
    have a57:¬((ch.toNat:Int)≤57):=by omega
    have b57:((57:Int)<(ch.toNat:Int)):=by omega
    have hw:nmW s=false:=HB.out (by unfold chW;simp;omega)
    have HW:=hI0 hw
    clear hw HS HB hq
    go_wp2_with fail
    go_ret
    exact ⟨by rw [HW.out];rfl,hbW⟩
  have hw:nmW s=true:=nmW_good H0.out (by omega) HDG.out (by have:=HP.out;rwa [List.take_of_length_le (by omega)] at this)
  have HW:=hI0 hw
  clear hw
  go_wp2_with fail
  go_ret
  exact ⟨by rw [HW.out];rfl,hbW⟩
end
end Go.Proofs.YtgfhknnklapldaaGreatDoor
