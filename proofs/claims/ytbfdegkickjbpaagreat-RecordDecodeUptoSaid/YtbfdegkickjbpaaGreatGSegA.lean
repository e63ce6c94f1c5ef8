/-
 SegA
-/
import Derived.Test.YtbfdegkickjbpaaGreatGSrc1
import Derived.Test.YtbfdegkickjbpaaGreatGFrame
namespace Go.Proofs.YtbfdegkickjbpaaGreat
set_option maxRecDepth 1000000
set_option maxHeartbeats 32000000
open Go.RowKit Go.Lib Go.IntWalk Go.Sort Go.Shelf
def chW (c:UInt8):Bool:=decide ((97≤c.toNat∧c.toNat≤122)∨c.toNat=95∨(48≤c.toNat∧c.toNat≤57))
def digW (s:List UInt8):Bool:=match s with|c::_=>decide (48≤c.toNat∧c.toNat≤57)|[]=>false
def nmW (s:List UInt8):Bool:= !decide (s.length=0)&&decide (s.length≤24)&& !digW s&&s.all chW
theorem nmW_nil:nmW []=false:=rfl
theorem nmW_long {s:List UInt8} (h:24<s.length):nmW s=false:=by
 unfold nmW;rw [show decide (s.length≤24)=false from by simp;omega];simp
theorem nmW_dig {s:List UInt8} (h:digW s=true):nmW s=false:=by unfold nmW;rw [h];simp
theorem nmW_bad {s:List UInt8} {k:Nat} (hk:k<s.length) (h:chW s[k]=false):nmW s=false:=by
 have:s.all chW=false:=by
  rw [List.all_eq_false]
  exact ⟨s[k],List.getElem_mem hk,by rw [h];simp⟩
 unfold nmW;rw [this];simp
theorem nmW_good {s:List UInt8} (h0:¬s.length=0) (h1:s.length≤24) (hd:digW s=false) (h:s.all chW=true):nmW s=true:=by
 unfold nmW;rw [h,hd];simp;exact ⟨by intro e;subst e;simp at h0,h1⟩
theorem allW_snoc {s:List UInt8} {k:Nat} (hk:k<s.length) (h:(s.take k).all chW=true) (hc:chW s[k]=true):(s.take (k+1)).all chW=true:=by
 rw [List.take_succ_eq_append_getElem hk,List.all_append,h]
 simp [hc]
theorem digW_of {s:List UInt8} (h:0<s.length):digW s=decide (48≤(s[0]).toNat∧(s[0]).toNat≤57):=by
 cases s with
 |nil=>simp at h
 |cons c r=>rfl
theorem run_index_str (S:ByteArray) (s:List UInt8) (hS:S=strB s) (k:Nat) (hk:k<s.length) (w:World):(Instr.index 9 (.string S) (.int .i64 (k:Int))).run Tryz.prog w=.ok (.int .u8 ((s[k]'hk).toNat:Int)) w:=by
 subst hS
 have h:(strB s)[k]? =some s[k]:=by
  have h1:k<(strB s).size:=by rw [strB_size];exact hk
  rw [getElem?_pos (strB s) k h1]
  rfl
 simp [Instr.index,asIntOf,run_underlying Tryz.underlying9,h]
theorem refName_any (s:List UInt8) (w:World) (hlen:s.length≤maxLen):Calls Tryz.prog 44 #[.string (strB s)] w fun e w'=>e=.returned (.bool (nmW s))∧w=w':=by
 have hsz:=strB_size s
 have HIX:=hI0 (run_index_str (strB s) s rfl)
 generalize hwf:nmW s=wf
 have HWF:=hI0 hwf
 clear hwf
 generalize strB s=S at *
 unfold maxLen at hlen
 go_enter Tryz.func44,Tryz.ntmps44
 go_wp2_with fail
 go_loop [3] (fun i=>∃k:Nat,k≤s.length∧i=.int .i64 k∧Hid (0<k→digW s=false)∧(s.take k).all chW=true) (fun i=>s.length-(intOf i).toNat)
 case atStart=>exact ⟨0,Nat.zero_le _,rfl,hI0 (fun h=>by omega),rfl⟩
 obtain ⟨k,hk,rfl,HK,hp⟩:=hrel
 have HP:=hI0 hp
 clear hp
 by_cases hlt:k<s.length
 case pos=>
  have hix:=HIX.out k hlt
  have q0:(k:Int)<(S.size:Int):=by omega
  have HS:=hI0 (@allW_snoc s k hlt HP.out)
  have HB:=hI0 (@nmW_bad s k hlt)
  have HD0:Hid (k=0→digW s=decide (48≤(s[k]).toNat∧(s[k]).toNat≤57)):=hI0 (fun h=>by subst h;exact digW_of hlt)
  generalize s[k]=ch at *
  have hc256:=ch.toNat_lt
  have hcases:(ch.toNat:Int)<48∨(48≤(ch.toNat:Int)∧(ch.toNat:Int)≤57)∨(57<(ch.toNat:Int)∧(ch.toNat:Int)<95)∨(ch.toNat:Int)=95∨(ch.toNat:Int)=96∨(97≤(ch.toNat:Int)∧(ch.toNat:Int)≤122)∨122<(ch.toNat:Int):=by omega
  by_cases hk0:k=0
  all_goals
   have HK0:=hI0 hk0
   first
    |(have z1:¬(0:Int)<(k:Int):=by omega
      have z2:¬ 0<k:=by omega
      clear hk0)
    |(have z1:(0:Int)<(k:Int):=by omega
      have z2:0<k:=by omega
      clear hk0)
   rcases hcases with hq|hq|hq|hq|hq|hq|hq
   ·have f95:¬((ch.toNat:Int)=95):=by omega
    have e95:((ch.toNat:Int)==(95:Int))=false:=by simp;omega
    have a97:¬((97:Int)≤(ch.toNat:Int)):=by omega
    have b97:((ch.toNat:Int)<97):=by omega
    have a48:¬((48:Int)≤(ch.toNat:Int)):=by omega
    have b48:((ch.toNat:Int)<48):=by omega
    have a122:((ch.toNat:Int)≤122):=by omega
    have b122:¬((122:Int)<(ch.toNat:Int)):=by omega
    have a57:((ch.toNat:Int)≤57):=by omega
    have b57:¬((57:Int)<(ch.toNat:Int)):=by omega
    have hw:wf=false:=by rw [←HWF.out];exact HB.out (by unfold chW;simp;omega)
    subst hw
    clear HS HB hq
    go_wp2_with fail
    go_ret
    exact ⟨rfl,rfl⟩
   ·have f95:¬((ch.toNat:Int)=95):=by omega
    have e95:((ch.toNat:Int)==(95:Int))=false:=by simp;omega
    have a97:¬((97:Int)≤(ch.toNat:Int)):=by omega
    have b97:((ch.toNat:Int)<97):=by omega
    have a48:((48:Int)≤(ch.toNat:Int)):=by omega
    have b48:¬((ch.toNat:Int)<48):=by omega
    have a122:((ch.toNat:Int)≤122):=by omega
    have b122:¬((122:Int)<(ch.toNat:Int)):=by omega
    have a57:((ch.toNat:Int)≤57):=by omega
    have b57:¬((57:Int)<(ch.toNat:Int)):=by omega
    by_cases hkk:k=0
    ·have hw:wf=false:=by rw [←HWF.out];exact nmW_dig (by rw [HD0.out hkk];exact decide_eq_true (by omega))
     subst hw
     clear HS HB hq
     first
      |(exact absurd hkk HK0.out)
      |(clear hkk
        go_wp2_with fail
        go_ret
        exact ⟨rfl,rfl⟩)
    ·have hch:chW ch=true:=by unfold chW;simp;omega
     have HS2:=hI0 (HS.out hch)
     have HKN:Hid (0<k+1→digW s=false):=hI0 (fun _=>HK.out (by omega))
     clear HS HB hch hq
     first
      |(exact absurd HK0.out hkk)
      |(clear hkk
        go_wp2_with fail
        go_round
        case rel=>exact ⟨k+1,by omega,by go_num,HKN,HS2.out⟩
        case measure=>simp [intOf];omega)
   ·have f95:¬((ch.toNat:Int)=95):=by omega
    have e95:((ch.toNat:Int)==(95:Int))=false:=by simp;omega
    have a97:¬((97:Int)≤(ch.toNat:Int)):=by omega
    have b97:((ch.toNat:Int)<97):=by omega
    have a48:((48:Int)≤(ch.toNat:Int)):=by omega
    have b48:¬((ch.toNat:Int)<48):=by omega
    have a122:((ch.toNat:Int)≤122):=by omega
    have b122:¬((122:Int)<(ch.toNat:Int)):=by omega
    have a57:¬((ch.toNat:Int)≤57):=by omega
    have b57:((57:Int)<(ch.toNat:Int)):=by omega
    have hw:wf=false:=by rw [←HWF.out];exact HB.out (by unfold chW;simp;omega)
    subst hw
    clear HS HB hq
    go_wp2_with fail
    go_ret
    exact ⟨rfl,rfl⟩
   ·have f95:((ch.toNat:Int)=95):=by omega
    have e95:((ch.toNat:Int)==(95:Int))=true:=by simp;omega
    have a97:¬((97:Int)≤(ch.toNat:Int)):=by omega
    have b97:((ch.toNat:Int)<97):=by omega
    have a48:((48:Int)≤(ch.toNat:Int)):=by omega
    have b48:¬((ch.toNat:Int)<48):=by omega
    have a122:((ch.toNat:Int)≤122):=by omega
    have b122:¬((122:Int)<(ch.toNat:Int)):=by omega
    have a57:¬((ch.toNat:Int)≤57):=by omega
    have b57:((57:Int)<(ch.toNat:Int)):=by omega
    have hch:chW ch=true:=by unfold chW;simp;omega
    have HS2:=hI0 (HS.out hch)
    have HKN:Hid (0<k+1→digW s=false):=hI0 (fun _=>(Nat.eq_zero_or_pos k).elim (fun h=>by rw [HD0.out h];exact decide_eq_false (by omega)) HK.out)
    clear HS HB hch hq
    go_wp2_with fail
    go_round
    case rel=>exact ⟨k+1,by omega,by go_num,HKN,HS2.out⟩
    case measure=>simp [intOf];omega
   ·have f95:¬((ch.toNat:Int)=95):=by omega
    have e95:((ch.toNat:Int)==(95:Int))=false:=by simp;omega
    have a97:¬((97:Int)≤(ch.toNat:Int)):=by omega
    have b97:((ch.toNat:Int)<97):=by omega
    have a48:((48:Int)≤(ch.toNat:Int)):=by omega
    have b48:¬((ch.toNat:Int)<48):=by omega
    have a122:((ch.toNat:Int)≤122):=by omega
    have b122:¬((122:Int)<(ch.toNat:Int)):=by omega
    have a57:¬((ch.toNat:Int)≤57):=by omega
    have b57:((57:Int)<(ch.toNat:Int)):=by omega
    have hw:wf=false:=by rw [←HWF.out];exact HB.out (by unfold chW;simp;omega)
    subst hw
    clear HS HB hq
    go_wp2_with fail
    go_ret
    exact ⟨rfl,rfl⟩
   ·have f95:¬((ch.toNat:Int)=95):=by omega
    have e95:((ch.toNat:Int)==(95:Int))=false:=by simp;omega
    have a97:((97:Int)≤(ch.toNat:Int)):=by omega
    have b97:¬((ch.toNat:Int)<97):=by omega
    have a48:((48:Int)≤(ch.toNat:Int)):=by omega
    have b48:¬((ch.toNat:Int)<48):=by omega
    have a122:((ch.toNat:Int)≤122):=by omega
    have b122:¬((122:Int)<(ch.toNat:Int)):=by omega
    have a57:¬((ch.toNat:Int)≤57):=by omega
    have b57:((57:Int)<(ch.toNat:Int)):=by omega
    have hch:chW ch=true:=by unfold chW;simp;omega
    have HS2:=hI0 (HS.out hch)
    have HKN:Hid (0<k+1→digW s=false):=hI0 (fun _=>(Nat.eq_zero_or_pos k).elim (fun h=>by rw [HD0.out h];exact decide_eq_false (by omega)) HK.out)
    clear HS HB hch hq
    go_wp2_with fail
    go_round
    case rel=>exact ⟨k+1,by omega,by go_num,HKN,HS2.out⟩
    case measure=>simp [intOf];omega
   ·have f95:¬((ch.toNat:Int)=95):=by omega
    have e95:((ch.toNat:Int)==(95:Int))=false:=by simp;omega
    have a97:((97:Int)≤(ch.toNat:Int)):=by omega
    have b97:¬((ch.toNat:Int)<97):=by omega
    have a48:((48:Int)≤(ch.toNat:Int)):=by omega
    have b48:¬((ch.toNat:Int)<48):=by omega
    have a122:¬((ch.toNat:Int)≤122):=by omega
    have b122:((122:Int)<(ch.toNat:Int)):=by omega
    have a57:¬((ch.toNat:Int)≤57):=by omega
    have b57:((57:Int)<(ch.toNat:Int)):=by omega
    have hw:wf=false:=by rw [←HWF.out];exact HB.out (by unfold chW;simp;omega)
    subst hw
    clear HS HB hq
    go_wp2_with fail
    go_ret
    exact ⟨rfl,rfl⟩
 have q0:¬(k:Int)<(S.size:Int):=by omega
 have hal:s.all chW=true:=by have:=HP.out;rwa [List.take_of_length_le (by omega)] at this
 have HAL:=hI0 hal
 clear hal
 by_cases h0:s.length=0
 ·have hw:wf=false:=by rw [←HWF.out,List.eq_nil_of_length_eq_zero h0];rfl
  subst hw
  have q1:¬(1:Int)≤(S.size:Int):=by omega
  go_wp2_with fail
  go_ret
  exact ⟨rfl,rfl⟩
 ·have q1:(1:Int)≤(S.size:Int):=by omega
  by_cases h1:s.length≤24
  ·have hw:wf=true:=by rw [←HWF.out];exact nmW_good h0 h1 (HK.out (by omega)) HAL.out
   subst hw
   have q2:decide ((s.length:Int)≤24)=true:=by simp;omega
   go_wp2_with fail
   go_ret
   exact ⟨rfl,rfl⟩
  ·have hw:wf=false:=by rw [←HWF.out];exact nmW_long (by omega)
   subst hw
   have q2:decide ((s.length:Int)≤24)=false:=by simp;omega
   go_wp2_with fail
   go_ret
   exact ⟨rfl,rfl⟩
end Go.Proofs.YtbfdegkickjbpaaGreat
