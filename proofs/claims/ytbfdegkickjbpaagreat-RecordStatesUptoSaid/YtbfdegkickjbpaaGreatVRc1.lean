/-
 Rc1
-/
import Derived.Test.YtbfdegkickjbpaaGreatVRcA
namespace Go.Proofs.YtbfdegkickjbpaaGreat
open Tryz
set_option maxRecDepth 99999
set_option maxHeartbeats 0
open Go.RowKit Go.Lib Go.IntWalk Go.Sort Go.Shelf
theorem zq8 {P:Prop} (i:Nat) (h:Tg i→P:=by
 intro zT8
 obtain ⟨W0,hW0⟩:=eN0 (w.alloc (.cells #[.int .i64 x1,.string x2,.string x3,.string x4,.int .i64 x5,.bool x6,.int .i64 x7,.int .i64 x8,.string x9] 81))
 obtain ⟨W,hW⟩:=eN0 (W0.alloc (.cells #[.string x2,.string x3,.string x4] 9))
 have hb0:=bN0 hW0
 have hb1:=bN0 hW
 have hT0:=hN0 hW0
 have hz0:=sN0 hW0
 have hN:W.heap[w.heap.size+1]? =some (.cells #[.string x2,.string x3,.string x4] 9 (0,0)):=by rw [hW,←hz0];exact heap_alloc_new _ _
 have hz1:W.heap.size=w.heap.size+2:=by rw [hW];simp [hz0]
 have HT:=hI0 ((hb1.block w.heap.size (by omega)).trans hT0)
 have HN:=hI0 hN
 have HZ:=hI0 hz1
 have HBW:Hid (Bl w W):=hI0 (hb0.trans (hb1.mono hb0.size))
 obtain ⟨rs,hrs⟩:=eN0 (Chn.ok ⟨x1,x2,x3,x4,x5,x6,⟨x7,x8,x9⟩⟩)
 rw [←hrs]
 have HR:Hid (rs=(emW x2&&(emW x3&&(emW x4&&(decide (1≤x1∧x1≤4)&&(decide (0≤x5∧x5≤3)&&validV ⟨x7,x8,x9⟩)))))):=hI0 hrs
 clear hrs hb0 hb1 hT0 hN
 go_in
 go_wp2_with fail
 rw [←hW0,←hW]
 clear hW0 hW hz0 hz1
 go_loopw [14] (fun i wr=>∃k:Nat,i=.int .i64 (k:Int)∧k≤3∧Hid ((1≤k→emW x2=true)∧(2≤k→emW x3=true)∧(3≤k→emW x4=true))∧Hid (Bl W wr)) (fun i _=>3-(intOf i).toNat)
 case atStart=>exact ⟨0,rfl,by omega,hI0 ⟨fun h=>absurd h (by decide),fun h=>absurd h (by decide),fun h=>absurd h (by decide)⟩,hI0 (Below.refl _ _)⟩
 obtain ⟨k,rfl,hk,HG,HB⟩:=hrel
 obtain ⟨wi,rfl⟩:=eN0 wr
 have hNi:=(HB.out.block (w.heap.size+1) (by have:=HZ.out;omega)).trans HN.out
 obtain rfl|rfl|rfl|rfl:k=0∨k=1∨k=2∨k=3:=by omega
 ·have g:=cW1 0 hNi rfl
  clear hNi
  cases hem:x2.toList.isEmpty
  case true=>
   have HE:Hid ((1≤1→emW x2=true)∧(2≤1→emW x3=true)∧(3≤1→emW x4=true)):=hI0 ⟨fun _=>em_eq hem,fun h=>absurd h (by decide),fun h=>absurd h (by decide)⟩
   go_wp2_with fail
   go_roundw
   case rel=>exact ⟨1,by go_num,by omega,HE,HB⟩
   case measure=>simp [intOf]
  have hme:=em_ne hem
  first
   |guard_hyp zT8:Tg 1;have K:=word_any x2 wi
   |have K:=kword_any x2 wi hx2
  obtain ⟨v,hv⟩:=eN0 (nmB x2)
  rw [←hv] at hme K
  have HME:=hI0 hme
  clear hme hv
  go_wp2_with fail
  (with_reducible refine K.mono ?_)
  rintro _ z1 ⟨rfl,hz⟩
  have HB1:=bT0 HB hz
  clear hz K g
  cases v
  case false=>
   exact zq106
  have HE:Hid ((1≤1→emW x2=true)∧(2≤1→emW x3=true)∧(3≤1→emW x4=true)):=hI0 ⟨fun _=>HME.out,fun h=>absurd h (by decide),fun h=>absurd h (by decide)⟩
  go_wp2_with fail
  go_roundw
  case rel=>exact ⟨1,by go_num,by omega,HE,HB1⟩
  case measure=>simp [intOf]
 ·have g:=cW1 1 hNi rfl
  clear hNi
  cases hem:x3.toList.isEmpty
  case true=>
   have HE:Hid ((1≤2→emW x2=true)∧(2≤2→emW x3=true)∧(3≤2→emW x4=true)):=hI0 ⟨fun _=>HG.out.1 (by omega),fun _=>em_eq hem,fun h=>absurd h (by decide)⟩
   go_wp2_with fail
   go_roundw
   case rel=>exact ⟨2,by go_num,by omega,HE,HB⟩
   case measure=>simp [intOf]
  have hme:=em_ne hem
  first
   |guard_hyp zT8:Tg 1;have K:=word_any x3 wi
   |have K:=kword_any x3 wi hx3
  obtain ⟨v,hv⟩:=eN0 (nmB x3)
  rw [←hv] at hme K
  have HME:=hI0 hme
  clear hme hv
  go_wp2_with fail
  (with_reducible refine K.mono ?_)
  rintro _ z1 ⟨rfl,hz⟩
  have HB1:=bT0 HB hz
  clear hz K g
  cases v
  case false=>
   exact zq106
  have HE:Hid ((1≤2→emW x2=true)∧(2≤2→emW x3=true)∧(3≤2→emW x4=true)):=hI0 ⟨fun _=>HG.out.1 (by omega),fun _=>HME.out,fun h=>absurd h (by decide)⟩
  go_wp2_with fail
  go_roundw
  case rel=>exact ⟨2,by go_num,by omega,HE,HB1⟩
  case measure=>simp [intOf]
 ·have g:=cW1 2 hNi rfl
  clear hNi
  cases hem:x4.toList.isEmpty
  case true=>
   have HE:Hid ((1≤3→emW x2=true)∧(2≤3→emW x3=true)∧(3≤3→emW x4=true)):=hI0 ⟨fun _=>HG.out.1 (by omega),fun _=>HG.out.2.1 (by omega),fun _=>em_eq hem⟩
   go_wp2_with fail
   go_roundw
   case rel=>exact ⟨3,by go_num,by omega,HE,HB⟩
   case measure=>simp [intOf]
  have hme:=em_ne hem
  first
   |guard_hyp zT8:Tg 1;have K:=word_any x4 wi
   |have K:=kword_any x4 wi hx4
  obtain ⟨v,hv⟩:=eN0 (nmB x4)
  rw [←hv] at hme K
  have HME:=hI0 hme
  clear hme hv
  go_wp2_with fail
  (with_reducible refine K.mono ?_)
  rintro _ z1 ⟨rfl,hz⟩
  have HB1:=bT0 HB hz
  clear hz K g
  cases v
  case false=>
   exact zq106
  have HE:Hid ((1≤3→emW x2=true)∧(2≤3→emW x3=true)∧(3≤3→emW x4=true)):=hI0 ⟨fun _=>HG.out.1 (by omega),fun _=>HG.out.2.1 (by omega),fun _=>HME.out⟩
  go_wp2_with fail
  go_roundw
  case rel=>exact ⟨3,by go_num,by omega,HE,HB1⟩
  case measure=>simp [intOf]
 ·have hTi:=(HB.out.block w.heap.size (by have:=HZ.out;omega)).trans HT.out
  obtain ⟨c0,c1,c2,c3,c4,c5,c6,c7,c8⟩:=cX9 hTi
  have HR2:Hid (rs=(decide (1≤x1∧x1≤4)&&(decide (0≤x5∧x5≤3)&&validV ⟨x7,x8,x9⟩))):=hI0 zi35
  first
   |done
   |guard_hyp zT8:Tg 1;have K1:=within_any x1 1 4 wi
    have K2:=within_any x5 0 3 wi
    have K3:=validValue_any x7 x8 x9 wi hs
    obtain ⟨v1,hv1⟩:=eN0 (decide (1≤x1∧x1≤4))
    obtain ⟨v2,hv2⟩:=eN0 (decide (0≤x5∧x5≤3))
    obtain ⟨v3,hv3⟩:=eN0 (validV ⟨x7,x8,x9⟩)
    rw [←hv1] at K1 HR2
    rw [←hv2] at K2 HR2
    rw [←hv3] at K3 HR2
   |skip
  have HBF:Hid (Bl w wi):=hI0 (HBW.out.trans (HB.out.mono HBW.out.size))
  first
   |guard_hyp zT8:Tg 1;clear hTi hNi hv1 hv2 hv3
   |have HTF:=hI0 hTi
    have HLF:Hid (w.heap.size<wi.heap.size):=hI0 (Array.getElem?_eq_some_iff.1 hTi).1
    obtain ⟨v3,hv3⟩:=eN0 (validV ⟨x7,x8,x9⟩)
    have K3:=fun (V:World) (hV:Bl w V)=>refValidValue_any x7 x8 x9 V hs
    rw [←hv3] at K3 HR2
    clear hTi hNi hv3
    by_cases t1_0:x1<1
    case pos=>
     exact zq86
    by_cases t1_1:4<x1
    case pos=>
     exact zq86
    have g1:decide (1≤x1∧x1≤4)=true:=decide_eq_true (by omega)
    have G1:=hI0 g1
    clear g1
    by_cases t2_0:x5<0
    case pos=>
     exact zq87
    by_cases t2_1:3<x5
    case pos=>
     exact zq87
    have g2:decide (0≤x5∧x5≤3)=true:=decide_eq_true (by omega)
    have G2:=hI0 g2
    clear g2
    have KK3:=K3 wi HBF.out
  go_wp2_with fail
  first
   |guard_hyp zT8:Tg 1;(with_reducible refine K1.mono ?_)
    rintro _ z1 ⟨rfl,hz⟩
    rw [hz]
    clear hz z1 K1
    cases v1
    skip
   |(with_reducible refine KK3.mono ?_)
    rintro _ z3 ⟨rfl,hz3⟩
    clear KK3
    have hz3':Bl wi z3:=by rw [←hz3];exact Below.of_alloc _
    have HB4:Hid (Bl w z3):=hI0 (HBF.out.trans (hz3'.mono HBF.out.size))
    have HT4:=hI0 ((hz3'.block w.heap.size HLF.out).trans HTF.out)
    have HL4:Hid (w.heap.size<z3.heap.size):=hI0 (gL0 HT4.out)
    clear hz3'
    clear hz3
    clear c0 c1 c2 c3 c4 c5 c6 c7 c8
    obtain ⟨c0,c1,c2,c3,c4,c5,c6,c7,c8⟩:=cX9 HT4.out
    cases v3
  case false=>
   first
    |done
    |guard_hyp zT8:Tg 1
    |have HF:Hid (rs=false):=hI0 (by rw [HR2.out]<;>simp)
   go_wp2_with fail
   go_ret
   first
    |guard_hyp zT8:Tg 1;exact ⟨by rw [HR2.out];rfl,HBF.out⟩
    |exact ⟨by rw [HF.out]<;>first|rfl|(simp;done),HB4.out⟩
  first
   |guard_hyp zT8:Tg 1;go_wp2_with fail
    (with_reducible refine K2.mono ?_)
    rintro _ z1 ⟨rfl,hz⟩
    rw [hz]
    clear hz z1 K2
    cases v2
    case false=>
     go_wp2_with fail
     go_ret
     exact ⟨by rw [HR2.out];rfl,HBF.out⟩
    go_wp2_with fail
    (with_reducible refine K3.mono ?_)
    rintro _ z1 ⟨rfl,hz⟩
    have HBG:Hid (Bl w z1):=hI0 (by rw [←hz];exact HBF.out.alloc HBF.out.size _)
    clear hz K3
   |have HF:Hid (rs=true):=hI0 (by rw [HR2.out,G1.out,G2.out]<;>first|rfl|(simp;done))
  go_wp2_with fail
  go_ret
  first
   |guard_hyp zT8:Tg 1;exact ⟨by rw [HR2.out];rfl,HBG.out⟩
   |exact ⟨by rw [HF.out]<;>first|rfl|(simp;done),HB4.out⟩) : P := h ⟨⟩
theorem zq31 {P:Prop} (i:Nat) (h:Tg i→P:=by
 intro zT31
 obtain ⟨A,c,rfl,hc1,hc2,hc3⟩:=Rd.open_ (show Rd w _ 1 v xs.length (xs.flatMap intE) from hv)
 unfold maxLen at hc2
 have HV:=hI0 hv
 first
  |done
  |guard_hyp zT31:Tg 1
  |have HE:Hid (ixF xs=(xs.all ix11&&decide (xs.length≤12))):=hI0 rfl
   generalize ixF xs=rs at *
 clear hv hc3
 go_in
 go_wp2_with fail
 first
  |guard_hyp zT31:Tg 1;go_loopw [8] (fun i wr=>∃k:Nat,i=.int .i64 (k:Int)∧k≤xs.length∧Hid ((xs.take k).all ix11=true)∧wr=w) (fun i _=>xs.length-(intOf i).toNat)
  |go_loopw [7] (fun i wr=>∃k:Nat,i=.int .i64 (k:Int)∧k≤xs.length∧Hid ((xs.take k).all ix11=true)∧wr=w) (fun i _=>xs.length-(intOf i).toNat)
 case atStart=>exact ⟨0,rfl,Nat.zero_le _,hI0 rfl,rfl⟩
 obtain ⟨k,rfl,hk,HA,hw⟩:=hrel
 rw [hw]
 clear hw
 by_cases hlt:k<xs.length
 case neg=>
  have hlt2:¬(k:Int)<(xs.length:Int):=by omega
  first
   |guard_hyp zT31:Tg 1;have HE:Hid (xs.all ix11=true):=hI0 (by have h:=HA.out;rw [List.take_of_length_le (by omega)] at h;exact h)
    go_wp2_with fail
    go_ret
    exact ⟨-1,rfl,by rw [HE.out];rfl,rfl⟩
   |have HR:Hid (rs=decide (xs.length≤12)):=hI0 (by have h:=HA.out;rw [List.take_of_length_le (by omega)] at h;rw [HE.out,h];rfl)
    by_cases h12:xs.length≤12
    ·have h13:(xs.length:Int)≤12:=by omega
     have HF:Hid (rs=true):=hI0 (by rw [HR.out,decide_eq_true h12])
     clear h12
     go_wp2_with fail
     go_ret
     exact ⟨by rw [HF.out];rfl,rfl⟩
    ·have h13:¬(xs.length:Int)≤12:=by omega
     have HF:Hid (rs=false):=hI0 (by rw [HR.out,decide_eq_false h12])
     clear h12
     go_wp2_with fail
     go_ret
     exact ⟨by rw [HF.out];rfl,rfl⟩
 have hlt2:(k:Int)<(xs.length:Int):=by omega
 obtain ⟨b,off,rfl,hF,hcl⟩:=RdE.at_ (K:=1) (enc:=intE) (fun _=>rfl) (by omega) HV.out hlt
 have hcx:=hcl k hlt 0 _ (by decide) rfl
 rw [Nat.mul_one,Nat.add_zero] at hcx
 have hs:=fun h=>allP_snoc' (p:=ix11) hlt h
 have hn:=allP_no (p:=ix11) hlt
 obtain ⟨x,hx⟩:=eN0 (xs[k])
 rw [←hx] at hcx hn
 first
  |guard_hyp zT31:Tg 1;have hs2:ix11 x=true→(xs.take (k+1)).all ix11=true:=fun h=>hs HA.out (by rw [←hx];exact h)
   have HS:=hI0 hs2
  |have HS:Hid (ix11 x=true→(xs.take (k+1)).all ix11=true):=hI0 (fun h=>hs HA.out (by rw [←hx];exact h))
 have HN:=hI0 hn
 first
  |guard_hyp zT31:Tg 1;have K:=ix1_any x w
   obtain ⟨v,hv⟩:=eN0 (ix11 x)
   rw [←hv] at K HS HN
   clear hcl hF hs hn hs2 hx hv
   go_wp2_with fail
   (with_reducible refine K.mono ?_)
   rintro _ w1 ⟨rfl,hw⟩
   rw [hw]
   clear hw w1 K
   cases v
   case false=>
    go_wp2_with fail
    go_ret
    exact ⟨k,rfl,by rw [HN.out (by first|rfl|trivial)];simp,rfl⟩
   have HA2:Hid ((xs.take (k+1)).all ix11=true):=hI0 (HS.out (by first|rfl|trivial))
   go_wp2_with fail
   go_roundw
   case rel=>exact ⟨k+1,by go_num,hlt,HA2,by first|trivial|rfl⟩
   case measure=>simp [intOf];omega
  |clear hcl hF hs hn hx
   by_cases g1:x<0
   ·have HF:Hid (rs=false):=hI0 zi42
    go_wp2_with fail
    go_ret
    exact ⟨by rw [HF.out];rfl,rfl⟩
   ·by_cases g2:12≤x
    ·have HF:Hid (rs=false):=hI0 zi42
     go_wp2_with fail
     go_ret
     exact ⟨by rw [HF.out];rfl,rfl⟩
    ·have HA2:Hid ((xs.take (k+1)).all ix11=true):=hI0 (HS.out (by unfold ix11;exact decide_eq_true (by omega)))
     go_wp2_with fail
     go_roundw
     case rel=>exact ⟨k+1,by go_num,hlt,HA2,by first|trivial|rfl⟩
     case measure=>simp [intOf];omega) : P := h ⟨⟩
theorem zq86 {P:Prop} (h:P:=by
 have g1:decide (1≤x1∧x1≤4)=false:=decide_eq_false (by omega)
 have HF:Hid (rs=false):=hI0 (by rw [HR2.out,g1]<;>simp)
 go_wp2_with fail
 go_ret
 exact ⟨by rw [HF.out]<;>first|rfl|(simp;done),HBF.out⟩) : P := h
theorem zq87 {P:Prop} (h:P:=by
 have g2:decide (0≤x5∧x5≤3)=false:=decide_eq_false (by omega)
 have HF:Hid (rs=false):=hI0 (by rw [HR2.out,g2]<;>simp)
 go_wp2_with fail
 go_ret
 exact ⟨by rw [HF.out]<;>first|rfl|(simp;done),HBF.out⟩) : P := h
theorem zq106 {P:Prop} (h:P:=by
 have HF:Hid (rs=false):=hI0 zi34
 go_wp2_with fail
 go_ret
 exact ⟨by rw [HF.out];rfl,HBW.out.trans (HB1.out.mono HBW.out.size)⟩) : P := h
theorem zi34 {P:Prop} (h:P:=by rw [HR.out,HME.out];simp):P:=h
theorem zi35 {P:Prop} (h:P:=by rw [HR.out,HG.out.1 (by omega),HG.out.2.1 (by omega),HG.out.2.2 (by omega)];rfl):P:=h
structure Fct where
 row:List Val
 vf:Int
 vt:Int
structure RF where
 rA:Option Addr
 rn:Nat
 rc:Nat
 row:List Val
 vf:Int
 vt:Int
def RF.fct (p:RF):Fct:=⟨p.row,p.vf,p.vt⟩
def RF.enc (p:RF):List Value:=[.slice p.rA p.rn p.rc,.int .i64 p.vf,.int .i64 p.vt]
def RF.is (w:World) (F:Nat→Prop) (p:RF):Prop:=RdV w F (.slice p.rA p.rn p.rc) p.row∧∀v∈p.row,goV v
def RdFs (w:World) (F:Nat→Prop) (v:Value) (ps:List RF):Prop:=RdE 3 RF.enc w F v ps∧∀p∈ps,p.is w F
theorem RdFs.below {w w':World} {v:Value} {ps:List RF} (h:RdFs w (ltw w) v ps) (hb:Bl w w'):RdFs w' (ltw w') v ps:=
 ⟨h.1.below hb,fun p hp=>⟨(Rd.keep (h.2 p hp).1 (Keeps.below hb)).wide (fun b (hb':b<w.heap.size)=>by show b<w'.heap.size;have:=hb.size;omega),(h.2 p hp).2⟩⟩
def intE (n:Int):List Value:=[.int .i64 n]
def Fct.ok (x:Fct):Bool:=validRowF x.row&&validP x.vf x.vt
def closeF (first:Int):Option Int→List Int→Int
 |_,[]=>0
 |p,n::r=>if ¬(1≤n∧n≤first-1) then 6 else if (match p with|some q=>decide (n≤q)|none=>false)=true then 9 else closeF first (some n) r
def opensF (l:List Fct):Int:=if l.all Fct.ok=true then 0 else 8
def deltaF (first:Int) (cl:List Int) (l:List Fct):Int:=if closeF first none cl≠0 then closeF first none cl else opensF l
theorem closeF_cons {first n:Int} {p:Option Int} {r:List Int}:closeF first p (n::r)=if ¬(1≤n∧n≤first-1) then 6 else if (match p with|some q=>decide (n≤q)|none=>false)=true then 9 else closeF first (some n) r:=by
 cases p<;>rfl
def prevI (l:List Int) (k:Nat):Option Int:=if k=0 then none else l[k-1]?
theorem prevI_succ {l:List Int} {k:Nat} (h:k<l.length):prevI l (k+1)=some l[k]:=by
 unfold prevI;rw [if_neg (Nat.succ_ne_zero k),Nat.add_sub_cancel,List.getElem?_eq_getElem h]
theorem closeF_at {first:Int} {p:Option Int} {l:List Int} {k:Nat} (h:k<l.length):closeF first p (l.drop k)=if ¬(1≤l[k]∧l[k]≤first-1) then 6 else if (match p with|some q=>decide (l[k]≤q)|none=>false)=true then 9 else closeF first (prevI l (k+1)) (l.drop (k+1)):=by
 rw [List.drop_eq_getElem_cons h,closeF_cons,prevI_succ h]
theorem closeF_end {first:Int} {p:Option Int} {l:List Int} {k:Nat} (h:l.length≤k):closeF first p (l.drop k)=0:=by
 rw [List.drop_of_length_le h];cases p<;>rfl
theorem okF_take {l:List Fct} {k:Nat} (hk:k<l.length) (h:(l.take k).all Fct.ok=true) (h2:l[k].ok=true):(l.take (k+1)).all Fct.ok=true:=by
 rw [List.take_succ_eq_append_getElem hk,List.all_append,h]
 simp [h2]
theorem okF_bad {l:List Fct} {k:Nat} (hk:k<l.length) (h2:l[k].ok=false):opensF l=8:=by
 unfold opensF
 rw [if_neg]
 intro h
 have:=List.all_eq_true.1 h _ (List.getElem_mem hk)
 rw [h2] at this
 cases this
theorem checkDelta_any (S:ByteArray) (cv ov:Value) (cl:List Int) (ops:List RF) (first:Int) (w:World) (hc:RdE 1 intE w (ltw w) cv cl) (ho:RdFs w (ltw w) ov ops) (hf:1≤first) (hf2:first≤1125899906842624):
  Calls prog 34 #[.agg #[.string S,cv,ov],.int .i64 first] w fun e w'=>e=.returned (.int .i64 (deltaF first cl (ops.map RF.fct)))∧Bl w w':=by
 obtain ⟨cA,cc,rfl,a1,a2,a3⟩:=Rd.open_ (show Rd w _ 1 cv cl.length (cl.flatMap intE) from hc)
 obtain ⟨oA,oc,rfl,b1,b2,b3⟩:=Rd.open_ (show Rd w _ 3 ov ops.length (ops.flatMap RF.enc) from ho.1)
 unfold maxLen at a2 b2
 obtain ⟨W,hW⟩:=eN0 (w.alloc (.cells #[.string S,.slice cA cl.length cc,.slice oA ops.length oc] 63))
 have hbW:=bN0 hW
 have hWs:w.heap.size<W.heap.size:=by rw [hW];simp
 have hT:=hN0 hW
 have HC:=hI0 (hc.below hbW)
 have HO:=hI0 ho
 have HBW:=hI0 hbW
 have HT:=hI0 hT
 have HWS:=hI0 hWs
 obtain ⟨res,hres⟩:=eN0 (deltaF first cl (ops.map RF.fct))
 rw [←hres]
 have HRES:=hI0 hres
 obtain ⟨t0,t1,t2⟩:=cX3 hT
 clear hc ho hbW hT hWs hres a3 b3
 go_in
 go_wp2_with fail
 rw [←hW]
 clear hW
 go_loopw [12] (fun i wr=>∃k:Nat,i=.int .i64 (k:Int)∧k≤cl.length∧Hid (closeF first (prevI cl k) (cl.drop k)=closeF first none cl)∧wr=W) (fun i _=>cl.length-(intOf i).toNat)
 case atStart=>exact ⟨0,rfl,Nat.zero_le _,hI0 rfl,rfl⟩
 obtain ⟨k,rfl,hk,HG,hw⟩:=hrel
 rw [hw]
 clear hw
 by_cases hlt:k<cl.length
 case pos=>
  obtain ⟨b,off,rfl,hF,hcl⟩:=RdE.at_ (K:=1) (enc:=intE) (fun _=>rfl) (by omega) HC.out hlt
  have hg:=HG.out
  rw [closeF_at hlt] at hg
  have hcx:=hcl k hlt 0 _ (by decide) rfl
  rw [Nat.mul_one,Nat.add_zero] at hcx
  have HCL:=hI0 hcl
  obtain ⟨x,hx⟩:=eN0 (cl[k])
  rw [←hx] at hg hcx
  have hnx:=prevI_succ hlt
  rw [←hx] at hnx
  have HNX:=hI0 hnx
  have HG2:=hI0 hg
  clear hcl hF hg hx hnx
  have hfs1:first-1≤9223372036854775807:=by omega
  have hfs2: -9223372036854775808≤first-1:=by omega
  have KW:=within_any x 1 (first-1) W
  by_cases hin:1≤x∧x≤first-1
  case neg=>
   rw [decide_eq_false hin] at KW
   have HE:Hid (res=6):=hI0 (by
    have h:=HG2.out
    rw [if_pos hin] at h
    rw [HRES.out,deltaF,←h]
    exact if_pos (by decide))
   clear hin
   go_wp2_with fail
   (with_reducible refine KW.mono ?_)
   rintro _ z1 ⟨rfl,hz⟩
   rw [hz]
   clear hz z1 KW
   go_wp2_with fail
   go_ret
   exact ⟨by rw [HE.out];rfl,HBW.out⟩
  rw [decide_eq_true hin] at KW
  have hg3:=HG2.out
  rw [if_neg (by simpa using hin)] at hg3
  have HG3:=hI0 hg3
  clear hin hg3
  go_wp2_with fail
  (with_reducible refine KW.mono ?_)
  rintro _ z1 ⟨rfl,hz⟩
  rw [hz]
  clear hz z1 KW
  by_cases hk0:k=0
  case pos=>
   have HN:Hid (closeF first (prevI cl (k+1)) (cl.drop (k+1))=closeF first none cl):=hI0 (by rw [←HG3.out];exact (if_neg (by simp [prevI,hk0])).symm)
   subst hk0
   go_wp2_with fail
   go_roundw
   case rel=>exact ⟨1,by go_num,hlt,HN,by first|trivial|rfl⟩
   case measure=>simp [intOf];omega
  obtain ⟨m,rfl⟩:∃m,k=m+1:=⟨k-1,by omega⟩
  have hml:m<cl.length:=by omega
  have hcy:=HCL.out m hml 0 _ (by decide) rfl
  rw [Nat.mul_one,Nat.add_zero] at hcy
  have hpv:=prevI_succ hml
  have hg4:=HG3.out
  rw [hpv] at hg4
  obtain ⟨y,hy⟩:=eN0 (cl[m])
  rw [←hy] at hcy hg4
  simp only at hg4
  have HG4:=hI0 hg4
  have ew:IntKind.i64.wrap (((m+1:Nat):Int)-1)=((m:Nat):Int):=by rw [IntKind.wrap_i64];omega
  have hil:(m:Int)<(cl.length:Int):=by omega
  obtain ⟨z,hz⟩:=eN0 (m+1)
  have HML:Hid (z<cl.length):=hI0 (by omega)
  have hip:(0:Int)<(z:Int):=by omega
  have hzl:z+1≤9223372036854775807:=by omega
  have hz0:0<z:=by omega
  have HN2:Hid (closeF first (prevI cl (z+1)) (cl.drop (z+1))=closeF first (prevI cl (m+1+1)) (cl.drop (m+1+1))):=hI0 (by rw [hz])
  have HZM:=hI0 hz
  rw [←hz] at ew ⊢
  clear hpv hg4 hy HNX HCL HG HG2 HG3 hlt hk hk0 hz hcx
  by_cases hle:x≤y
  case pos=>
   have HE:Hid (res=9):=hI0 (by
    have h:=HG4.out
    rw [if_pos (by simpa using hle)] at h
    rw [HRES.out,deltaF,←h]
    exact if_pos (by decide))
   go_wp2_with fail
   go_ret
   exact ⟨by rw [HE.out];rfl,HBW.out⟩
  have HN:Hid (closeF first (prevI cl (z+1)) (cl.drop (z+1))=closeF first none cl):=hI0 (by rw [HN2.out,←HG4.out];exact (if_neg (by simpa using hle)).symm)
  go_wp2_with fail
  go_roundw
  case rel=>exact ⟨z+1,by go_num,by have:=HML.out;omega,HN,by first|trivial|rfl⟩
  case measure=>have:=HML.out;have:=HZM.out;simp [intOf];omega
 have hlt2:¬(k:Int)<(cl.length:Int):=by omega
 have HR2:Hid (res=opensF (ops.map RF.fct)):=hI0 (by
  have h:=HG.out
  rw [closeF_end (by omega)] at h
  rw [HRES.out,deltaF,←h]
  exact if_neg (by simp))
 clear HG
 go_wp2_with fail
 clear hlt2 hlt
 go_loopw [38] (fun i wr=>∃j:Nat,i=.int .i64 (j:Int)∧j≤ops.length∧Hid (((ops.map RF.fct).take j).all Fct.ok=true)∧Hid (Bl w wr)) (fun i _=>ops.length-(intOf i).toNat)
 case atStart=>exact ⟨0,rfl,Nat.zero_le _,hI0 rfl,HBW⟩
 obtain ⟨j,rfl,hj,HG,HB⟩:=hrel
 obtain ⟨wi,rfl⟩:=eN0 wr
 by_cases hltj:j<ops.length
 case neg=>
  have hlt3:¬(j:Int)<(ops.length:Int):=by omega
  have HE:Hid (res=0):=hI0 (by
   have h:=HG.out
   rw [List.take_of_length_le (by rw [List.length_map];omega)] at h
   rw [HR2.out,opensF,if_pos h])
  go_wp2_with fail
  go_ret
  exact ⟨by rw [HE.out];rfl,HB.out⟩
 have hlt3:(j:Int)<(ops.length:Int):=by omega
 have hbi:Bl w wi:=HB.out
 obtain ⟨b,off,rfl,hF,hcl⟩:=RdE.at_ (K:=3) (enc:=RF.enc) (fun _=>rfl) (by omega) (HO.out.1.below hbi) hltj
 have hcx:=hcl j hltj
 have hxi:=(HO.out.below hbi).2 _ (List.getElem_mem hltj)
 obtain ⟨x,hx⟩:=eN0 (ops[j])
 have hjm:j<(ops.map RF.fct).length:=by rw [List.length_map];exact hltj
 have htk:((ops.map RF.fct).take j).all Fct.ok=true→x.fct.ok=true→((ops.map RF.fct).take (j+1)).all Fct.ok=true:=fun h h2=>okF_take hjm h (by rw [List.getElem_map,←hx];exact h2)
 have hbd:x.fct.ok=false→opensF (ops.map RF.fct)=8:=fun h=>okF_bad hjm (by rw [List.getElem_map,←hx];exact h)
 clear hjm
 rw [←hx] at hcx hxi
 obtain ⟨xA,xn,xc,xr,x1,x2⟩:=x
 simp only [RF.is,RF.fct,Fct.ok] at hxi htk hbd
 obtain ⟨g0,g1,g2⟩:=cK3 hcx (show _=[.slice xA xn xc,.int .i64 x1,.int .i64 x2] from rfl)
 have HTK:=hI0 htk
 have HBD:=hI0 hbd
 obtain ⟨W1,hW1⟩:=eN0 (wi.alloc (.cells #[.slice xA xn xc,.int .i64 x1,.int .i64 x2] 68))
 have hb1:=bN0 hW1
 have hF1:=hN0 hW1
 have hl1:wi.heap.size<W1.heap.size:=by rw [hW1];simp
 have KR:=validRow_any (.slice xA xn xc) xr W1 ((Rd.keep hxi.1 (Keeps.below hb1)).wide (fun b (hb:b<wi.heap.size)=>by show b<W1.heap.size;omega)) hxi.2
 have KP:=fun V=>pvR_any x1 x2 V
 obtain ⟨v0,hv0⟩:=eN0 (validRowF xr)
 obtain ⟨v1,hv1⟩:=eN0 (validP x1 x2)
 rw [←hv0] at KR HTK HBD
 rw [←hv1] at KP HTK HBD
 have HF1:=hI0 hF1
 have HL1:=hI0 hl1
 have HB1:=bT0 HB hb1
 clear hcl hcx hxi htk hbd hx hb1 hF1 hl1 hF hv0 hv1 hbi
 go_wp2_with fail
 rw [←hW1]
 clear hW1 g0 g1 g2
 (with_reducible refine KR.mono ?_)
 rintro _ y1 ⟨rfl,hy1⟩
 have hT2:=(hy1.block _ HL1.out).trans HF1.out
 have q1:=cW1 1 hT2 rfl
 have q2:=cW1 2 hT2 rfl
 have HY1:=bT0 HB1 hy1
 clear hy1 hT2 KR
 cases v0
 case false=>
  have HE:Hid (res=8):=hI0 (by rw [HR2.out];exact HBD.out rfl)
  go_wp2_with fail
  go_ret
  exact ⟨by rw [HE.out];rfl,HY1.out⟩
 have KP:=KP y1
 go_wp2_with fail
 (with_reducible refine KP.mono ?_)
 rintro _ y2 ⟨rfl,hy2⟩
 have HY2:=bT0 HY1 hy2
 clear hy2 KP q1 q2
 cases v1
 case false=>
  have HE:Hid (res=8):=hI0 (by rw [HR2.out];exact HBD.out rfl)
  go_wp2_with fail
  go_ret
  exact ⟨by rw [HE.out];rfl,HY2.out⟩
 have HN:Hid (((ops.map RF.fct).take (j+1)).all Fct.ok=true):=hI0 (HTK.out HG.out rfl)
 go_wp2_with fail
 go_roundw
 case rel=>exact ⟨j+1,by go_num,hltj,HN,HY2⟩
 case measure=>simp [intOf];omega
def ix11 (n:Int):Bool:=decide (0≤n∧n≤11)
def ixF (l:List Int):Bool:=l.all ix11&&decide (l.length≤12)
theorem allP_snoc' {α:Type} {p:α→Bool} {xs:List α} {k:Nat} (hk:k<xs.length) (h:(xs.take k).all p=true) (h2:p xs[k]=true):(xs.take (k+1)).all p=true:=by
 rw [List.take_succ_eq_append_getElem hk,List.all_append,h];simp [h2]
theorem allP_no {α:Type} {p:α→Bool} {xs:List α} {k:Nat} (hk:k<xs.length) (h:p xs[k]=false):xs.all p=false:=by
 rw [←Bool.not_eq_true,List.all_eq_true]
 intro hh
 have:=hh xs[k] (List.getElem_mem hk)
 rw [h] at this
 cases this
theorem ix1_any (n:Int) (w:World):Calls prog 240 #[.int .i64 n] w fun e w'=>e=.returned (.bool (!ix11 n))∧w'=w:=by
 have K:=within_any n 0 11 w
 rw [show decide (0≤n∧n≤11)=ix11 n from rfl] at K
 go_in
 go_wp2_with fail
 (with_reducible refine K.mono ?_)
 rintro _ w1 ⟨rfl,hw⟩
 rw [hw]
 clear hw w1 K
 go_wp2_with fail
 go_ret
 exact ⟨rfl,rfl⟩
theorem ixIndex_any (v:Value) (xs:List Int) (w:World) (hv:RdE 1 intE w (ltw w) v xs):
  Calls prog 247 #[v,.func (.func 240) #[] #[]] w fun e w'=>∃m:Int,e=.returned (.int .i64 m)∧(decide (0≤m))=(!xs.all ix11)∧w'=w:=by
 exact zq31 1
theorem ixContains_any (v:Value) (xs:List Int) (w:World) (hv:RdE 1 intE w (ltw w) v xs):
  Calls prog 239 #[v,.func (.func 240) #[] #[]] w fun e w'=>e=.returned (.bool (!xs.all ix11))∧w'=w:=by
 have K:=ixIndex_any v xs w hv
 go_in
 go_wp2_with fail
 (with_reducible refine K.mono ?_)
 rintro _ w2 ⟨m,rfl,hm,hw⟩
 rw [hw]
 have HM:=hI0 hm
 clear hm hw w2 K
 go_wp2_with fail
 all_goals
  go_ret
  exact ⟨ret_bool (by rw [←HM.out]),rfl⟩
theorem indexes_any (v:Value) (xs:List Int) (w:World) (hv:RdE 1 intE w (ltw w) v xs):
  Calls prog 194 #[v] w fun e w'=>e=.returned (.bool (ixF xs))∧w'=w:=by
 have K:=ixContains_any v xs w hv
 obtain ⟨A,c,rfl,hc1,hc2,hc3⟩:=Rd.open_ (show Rd w _ 1 v xs.length (xs.flatMap intE) from hv)
 have HE:Hid (ixF xs=(xs.all ix11&&decide (xs.length≤12))):=hI0 rfl
 generalize ixF xs=r at *
 generalize xs.all ix11=b at *
 clear hv hc3 hc2 hc1
 by_cases h:xs.length≤12
 ·have hz:(xs.length:Int)≤12:=by omega
  have HR:Hid (r=b):=hI0 (by rw [HE.out];simp [h])
  clear HE
  go_in
  go_wp2_with fail
  (with_reducible refine K.mono ?_)
  rintro _ w2 ⟨rfl,hw⟩
  rw [hw]
  clear hw w2 K
  cases b
  ·go_wp2_with fail
   go_ret
   exact ⟨ret_bool HR.out.symm,rfl⟩
  ·go_wp2_with fail
   go_ret
   exact ⟨ret_bool HR.out.symm,rfl⟩
 ·have hz:¬(xs.length:Int)≤12:=by omega
  have HR:Hid (r=false):=hI0 (by rw [HE.out];simp [h])
  clear HE K
  go_in
  go_wp2_with fail
  go_ret
  exact ⟨ret_bool HR.out.symm,rfl⟩
structure Chn where
 kind:Int
 name:ByteArray
 to:ByteArray
 cname:ByteArray
 ckind:Int
 cnull:Bool
 def_:Val
def Chn.enc (x:Chn):List Value:=[.int .i64 x.kind,.string x.name,.string x.to,.string x.cname,.int .i64 x.ckind,.bool x.cnull,.int .i64 x.def_.kind,.int .i64 x.def_.int,.string x.def_.text]
def emW (s:ByteArray):Bool:=s.toList.isEmpty||nmB s
def Chn.ok (x:Chn):Bool:=emW x.name&&(emW x.to&&(emW x.cname&&(decide (1≤x.kind∧x.kind≤4)&&(decide (0≤x.ckind∧x.ckind≤3)&&validV x.def_))))
theorem em_eq {S:ByteArray} (h:S.toList.isEmpty=true):emW S=true:=by unfold emW;rw [h];rfl
theorem em_ne {S:ByteArray} (h:S.toList.isEmpty=false):emW S=nmB S:=by unfold emW;rw [h];rfl
theorem storedChange_any (x1:Int) (x2 x3 x4:ByteArray) (x5:Int) (x6:Bool) (x7 x8:Int) (x9:ByteArray) (w:World) (hs:x9.size≤maxLen):
  Calls prog 131 #[.agg #[.int .i64 x1,.string x2,.string x3,.string x4,.int .i64 x5,.bool x6,.int .i64 x7,.int .i64 x8,.string x9]] w fun e w'=>e=.returned (.bool (Chn.ok ⟨x1,x2,x3,x4,x5,x6,⟨x7,x8,x9⟩⟩))∧Bl w w':=by
 exact zq8 1
inductive RE where
 |mk (op int:Int) (val:Val) (name:ByteArray) (A:Option Addr) (c:Nat) (args:List RE)
def RE.enc:RE→List Value
 | .mk op int val name A c args=>[.int .i64 op,.int .i64 int,.int .i64 val.kind,.int .i64 val.int,.string val.text,.string name,.slice A args.length c]
theorem RE.enc_length (e:RE):e.enc.length=7:=by cases e;rfl
def exIs:Nat→World→(Nat→Prop)→RE→Prop
 |0,_,_,_=>True
 |d+1,w,F,.mk _ _ val name A c args=>RdE 7 RE.enc w F (.slice A args.length c) args∧goV val∧name.size≤maxLen∧∀a∈args,exIs d w F a
theorem exIs_below {w w':World} (hb:Bl w w'):∀(d:Nat) (e:RE),exIs d w (ltw w) e→exIs d w' (ltw w') e:=by
 intro d
 induction d with
 |zero=>intro e _;trivial
 |succ d ih=>
  intro e h
  obtain ⟨op,it,val,nm,A,c,args⟩:=e
  obtain ⟨h1,h2,h3,h4⟩:=h
  exact ⟨h1.below hb,h2,h3,fun a ha=>ih a (h4 a ha)⟩
def chP (c:UInt8):Bool:=decide (32≤(c.toNat:Int)∧(c.toNat:Int)≤126)
def okX:Nat→RE→Bool
 |0,_=>false
 |d+1,.mk op int val name _ _ args=>decide (1≤op∧op≤26)&&(decide (-1125899906842624≤int∧int≤1125899906842624)&&(validV val&&(decide (name.size≤49)&&(name.data.toList.all chP&&args.all (okX d)))))
theorem storedExpr_any:∀(d:Nat) (e:RE) (lv:Int) (w:World),lv+d=25→1≤lv→exIs d w (ltw w) e→
  Calls prog 195 #[.agg e.enc.toArray,.int .i64 lv] w fun x w'=>x=.returned (.bool (okX d e))∧Bl w w':=by
 intro d
 induction d with
 |zero=>
  intro e lv w hlv _ _
  obtain ⟨op,it,⟨vk,vi,vs⟩,nm,A,c,args⟩:=e
  show Calls prog 195 #[.agg #[.int .i64 op,.int .i64 it,.int .i64 vk,.int .i64 vi,.string vs,.string nm,.slice A args.length c],.int .i64 lv] w _
  have hl:(24:Int)<lv:=by omega
  clear hlv
  go_in
  go_wp2_with fail
  go_ret
  exact ⟨rfl,Below.of_alloc _⟩
 |succ d ih=>
  intro e lv w hlv hl1 he
  obtain ⟨op,it,⟨vk,vi,vs⟩,nm,A,c,args⟩:=e
  obtain ⟨h1,h2,h3,h4⟩:=he
  have IH:=hI0 ih
  obtain ⟨rs,hrs⟩:=eN0 (okX (d+1) (.mk op it ⟨vk,vi,vs⟩ nm A c args))
  rw [←hrs]
  have HR:Hid (rs=(decide (1≤op∧op≤26)&&(decide (-1125899906842624≤it∧it≤1125899906842624)&&(validV ⟨vk,vi,vs⟩&&(decide (nm.size≤49)&&(nm.data.toList.all chP&&args.all (okX d))))))):=hI0 hrs
  show Calls prog 195 #[.agg #[.int .i64 op,.int .i64 it,.int .i64 vk,.int .i64 vi,.string vs,.string nm,.slice A args.length c],.int .i64 lv] w _
  obtain ⟨W,hW⟩:=eN0 (w.alloc (.cells #[.int .i64 op,.int .i64 it,.int .i64 vk,.int .i64 vi,.string vs,.string nm,.slice A args.length c] 212))
  have hbW:=bN0 hW
  have hT:=hN0 hW
  have hWs:w.heap.size<W.heap.size:=by rw [hW];simp
  have HBW:=hI0 hbW
  have HT:=hI0 hT
  have HWS:=hI0 hWs
  have HA:=hI0 h1
  have HA4:=hI0 h4
  have hl:¬(24:Int)<lv:=by omega
  have HLV:=hI0 (And.intro hlv hl1)
  have K1:=within_any op 1 26 W
  have K2:=within_any it (-1125899906842624) 1125899906842624 W
  have K3:=validValue_any vk vi vs W h2.2.2
  obtain ⟨v1,hv1⟩:=eN0 (decide (1≤op∧op≤26))
  obtain ⟨v2,hv2⟩:=eN0 (decide (-1125899906842624≤it∧it≤1125899906842624))
  obtain ⟨v3,hv3⟩:=eN0 (validV ⟨vk,vi,vs⟩)
  rw [←hv1] at K1 HR
  rw [←hv2] at K2 HR
  rw [←hv3] at K3 HR
  obtain ⟨c0,c1,c2,c3,c4,c5,c6⟩:=cX7 hT
  clear hbW hT hWs hv1 hv2 hv3 h1 h2 h4 hrs hlv hl1 ih
  go_in
  go_wp2_with fail
  rw [←hW]
  clear hW
  (with_reducible refine K1.mono ?_)
  rintro _ z1 ⟨rfl,hz⟩
  rw [hz]
  clear hz z1 K1
  cases v1
  case false=>
   go_wp2_with fail
   go_ret
   exact ⟨by rw [HR.out];rfl,HBW.out⟩
  go_wp2_with fail
  (with_reducible refine K2.mono ?_)
  rintro _ z1 ⟨rfl,hz⟩
  rw [hz]
  clear hz z1 K2
  cases v2
  case false=>
   go_wp2_with fail
   go_ret
   exact ⟨by rw [HR.out];rfl,HBW.out⟩
  go_wp2_with fail
  (with_reducible refine K3.mono ?_)
  rintro _ W3 ⟨rfl,hz⟩
  have hb3:Bl W W3:=by rw [←hz];exact Below.of_alloc _
  have HB3:=bT0 HBW hb3
  have HT3:=hI0 ((hb3.block _ HWS.out).trans HT.out)
  have HL3:Hid (w.heap.size<W3.heap.size):=hI0 (by have:=HWS.out;have:=hb3.size;omega)
  clear hz hb3 K3 c0 c1 c2 c3 c4 c5 c6
  cases v3
  case false=>
   go_wp2_with fail
   go_ret
   exact ⟨by rw [HR.out];rfl,HB3.out⟩
  obtain ⟨c0,c1,c2,c3,c4,c5,c6⟩:=cX7 HT3.out
  by_cases hn:nm.size≤49
  case neg=>
   have hni:(49:Int)<(nm.size:Int):=by omega
   have HF:Hid (rs=false):=hI0 (by rw [HR.out];simp [hn])
   go_wp2_with fail
   go_ret
   exact ⟨by rw [HF.out];rfl,HB3.out⟩
  have hni:¬(49:Int)<(nm.size:Int):=by omega
  have HR2:Hid (rs=(nm.data.toList.all chP&&args.all (okX d))):=hI0 (by rw [HR.out];simp [hn])
  obtain ⟨xb,Wc,hcv,hrd,hbc⟩:=conv_sb W3 nm (by omega)
  obtain ⟨nl,hnl⟩:=eN0 nm.data.toList
  rw [←hnl] at hrd HR2
  obtain ⟨Ab,cb,rfl,m1,m2,m3⟩:=Rd.open_ hrd
  unfold maxLen at m2
  have HRD:=hI0 hrd
  have HBC:=bT0 HB3 hbc
  have HTC:=hI0 ((hbc.block _ HL3.out).trans HT3.out)
  clear hrd hbc m3 hnl hn
  go_wp2_with fail
  clear hcv c0 c1 c2 c3 c4 c5 c6
  go_loopw [39] (fun i wr=>∃k:Nat,i=.int .i64 (k:Int)∧k≤nl.length∧Hid ((nl.take k).all chP=true)∧wr=Wc) (fun i _=>nl.length-(intOf i).toNat)
  case atStart=>exact ⟨0,rfl,Nat.zero_le _,hI0 rfl,rfl⟩
  obtain ⟨k,rfl,hk,HG,hw⟩:=hrel
  rw [hw]
  clear hw
  by_cases hlt:k<nl.length
  case pos=>
   have hlt2:(k:Int)<(nl.length:Int):=by omega
   obtain ⟨b,off,rfl,hF,g0⟩:=RdB.byte HRD.out hlt
   have hs:=fun h=>allP_snoc' (p:=chP) hlt HG.out h
   have hno:=allP_no (p:=chP) hlt
   obtain ⟨ch,hch⟩:=eN0 (nl[k])
   rw [←hch] at g0 hno
   have hs2:chP ch=true→(nl.take (k+1)).all chP=true:=fun h=>hs (by rw [←hch];exact h)
   have KW:=within_any (ch.toNat:Int) 32 126 Wc
   rw [show decide (32≤(ch.toNat:Int)∧(ch.toNat:Int)≤126)=chP ch from rfl] at KW
   obtain ⟨v,hv⟩:=eN0 (chP ch)
   rw [←hv] at KW hno hs2
   have HS:=hI0 hs2
   have HNO:=hI0 hno
   have hc256:=ch.toNat_lt
   clear hs hs2 hno hch hv hF
   go_wp2_with fail
   (with_reducible refine KW.mono ?_)
   rintro _ z1 ⟨rfl,hz⟩
   rw [hz]
   clear hz z1 KW
   cases v
   case false=>
    have HF:Hid (rs=false):=hI0 (by rw [HR2.out,HNO.out (by first|rfl|trivial)];rfl)
    go_wp2_with fail
    go_ret
    exact ⟨by rw [HF.out];rfl,HBC.out⟩
   have HN:Hid ((nl.take (k+1)).all chP=true):=hI0 (HS.out (by first|rfl|trivial))
   go_wp2_with fail
   go_roundw
   case rel=>exact ⟨k+1,by go_num,hlt,HN,by first|trivial|rfl⟩
   case measure=>simp [intOf];omega
  have hlt2:¬(k:Int)<(nl.length:Int):=by omega
  have HR3:Hid (rs=args.all (okX d)):=hI0 (by
   have h:=HG.out
   rw [List.take_of_length_le (by omega)] at h
   rw [HR2.out,h];rfl)
  have c6:=cW1 6 HTC.out rfl
  obtain ⟨A0,c0,hAc,n1,n2,n3⟩:=Rd.open_ (show Rd w _ 7 (.slice A args.length c) args.length (args.flatMap RE.enc) from HA.out)
  simp only [Value.slice.injEq] at hAc
  obtain ⟨rfl,-,rfl⟩:=hAc
  unfold maxLen at n2
  clear HG n3 hlt
  go_wp2_with fail
  clear c6 hlt2
  go_loopw [51] (fun i wr=>∃j:Nat,i=.int .i64 (j:Int)∧j≤args.length∧Hid ((args.take j).all (okX d)=true)∧Hid (Bl w wr)) (fun i _=>args.length-(intOf i).toNat)
  case atStart=>exact ⟨0,rfl,Nat.zero_le _,hI0 rfl,HBC⟩
  obtain ⟨j,rfl,hj,HG,HB⟩:=hrel
  obtain ⟨wi,rfl⟩:=eN0 wr
  by_cases hltj:j<args.length
  case neg=>
   have hlt3:¬(j:Int)<(args.length:Int):=by omega
   have HE:Hid (rs=true):=hI0 (by
    have h:=HG.out
    rw [List.take_of_length_le (by omega)] at h
    rw [HR3.out,h])
   go_wp2_with fail
   go_ret
   exact ⟨by rw [HE.out];rfl,HB.out⟩
  have hlt3:(j:Int)<(args.length:Int):=by omega
  obtain ⟨b,off,rfl,hF,hcl⟩:=RdE.at_ (K:=7) (enc:=RE.enc) RE.enc_length (by omega) (HA.out.below HB.out) hltj
  have hcx:=hcl j hltj
  have hxi:=HA4.out _ (List.getElem_mem hltj)
  have hs:=fun h=>allP_snoc' (p:=okX d) hltj HG.out h
  have hno:=allP_no (p:=okX d) hltj
  obtain ⟨x,hx⟩:=eN0 (args[j])
  rw [←hx] at hcx hxi hno
  have hs2:okX d x=true→(args.take (j+1)).all (okX d)=true:=fun h=>hs (by rw [←hx];exact h)
  have KX:∀V,Bl w V→_:=fun V hV=>IH.out x (lv+1) V (by have:=HLV.out;omega) (by have:=HLV.out;omega) (exIs_below hV d x hxi)
  obtain ⟨v,hv⟩:=eN0 (okX d x)
  rw [←hv] at KX hno hs2
  have HS:=hI0 hs2
  have HNO:=hI0 hno
  clear hs hs2 hno hx hv hF hcl
  obtain ⟨op2,it2,⟨vk2,vi2,vs2⟩,nm2,A2,c2,args2⟩:=x
  have KX2:∀V,Bl w V→Calls prog 195 #[.agg #[.int .i64 op2,.int .i64 it2,.int .i64 vk2,.int .i64 vi2,.string vs2,.string nm2,.slice A2 args2.length c2],.int .i64 (lv+1)] V fun x w'=>x=.returned (.bool v)∧Bl V w':=KX
  obtain ⟨g0,g1,g2,g3,g4,g5,g6⟩:=cK7 hcx (show _=[.int .i64 op2,.int .i64 it2,.int .i64 vk2,.int .i64 vi2,.string vs2,.string nm2,.slice A2 args2.length c2] from rfl)
  obtain ⟨W1,hW1⟩:=eN0 (wi.alloc (.cells #[.int .i64 op2,.int .i64 it2,.int .i64 vk2,.int .i64 vi2,.string vs2,.string nm2,.slice A2 args2.length c2] 212))
  have hb1:=bN0 hW1
  have HB1:=bT0 HB hb1
  have KV:=KX2 W1 HB1.out
  have hlv1:lv+1≤9223372036854775807:=by have:=HLV.out;omega
  have hlv2: -9223372036854775808≤lv+1:=by have:=HLV.out;omega
  clear hcx hxi KX KX2 hb1
  go_wp2_with fail
  rw [←hW1]
  clear hW1 g0 g1 g2 g3 g4 g5 g6
  (with_reducible refine KV.mono ?_)
  rintro _ w2 ⟨rfl,hb2⟩
  have HB2:=bT0 HB1 hb2
  clear hb2 KV
  cases v
  case false=>
   have HF:Hid (rs=false):=hI0 (by rw [HR3.out,HNO.out (by first|rfl|trivial)])
   go_wp2_with fail
   go_ret
   exact ⟨by rw [HF.out];rfl,HB2.out⟩
  have HN:Hid ((args.take (j+1)).all (okX d)=true):=hI0 (HS.out (by first|rfl|trivial))
  go_wp2_with fail
  go_roundw
  case rel=>exact ⟨j+1,by go_num,hltj,HN,HB2⟩
  case measure=>simp [intOf];omega
end Go.Proofs.YtbfdegkickjbpaaGreat
