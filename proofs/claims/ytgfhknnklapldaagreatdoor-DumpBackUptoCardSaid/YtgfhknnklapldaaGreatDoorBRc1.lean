/-
 Rc1
-/
import Derived.Test.YtgfhknnklapldaaGreatDoorBRcA
namespace Go.Proofs.YtgfhknnklapldaaGreatDoor
open Go.Proofs.Tryz
set_option maxRecDepth 99999
set_option maxHeartbeats 0
open Go.RowKit Go.Lib Go.IntWalk Go.Sort Go.Shelf
theorem zq16 {P:Prop} (i:Nat) (h:Tg i→P:=by
 intro zT16
 first
  |guard_hyp zT16:Tg 2;have g:=cW1 1 hNi rfl
  |guard_hyp zT16:Tg 1;have g:=cW1 2 hNi rfl
  |have g:=cW1 0 hNi rfl
 clear hNi
 first
  |guard_hyp zT16:Tg 2
   cases hem:x3.toList.isEmpty
   skip
  |guard_hyp zT16:Tg 1
   cases hem:x4.toList.isEmpty
   skip
  |cases hem:x2.toList.isEmpty
 case true=>
  first
   |guard_hyp zT16:Tg 2;have HE:Hid ((1≤2→emW x2=true)∧(2≤2→emW x3=true)∧(3≤2→emW x4=true)):=hI0 ⟨fun _=>HG.out.1 (by omega),fun _=>em_eq hem,fun h=>absurd h (by decide)⟩
   |guard_hyp zT16:Tg 1;have HE:Hid ((1≤3→emW x2=true)∧(2≤3→emW x3=true)∧(3≤3→emW x4=true)):=hI0 ⟨fun _=>HG.out.1 (by omega),fun _=>HG.out.2.1 (by omega),fun _=>em_eq hem⟩
   |have HE:Hid ((1≤1→emW x2=true)∧(2≤1→emW x3=true)∧(3≤1→emW x4=true)):=hI0 ⟨fun _=>em_eq hem,fun h=>absurd h (by decide),fun h=>absurd h (by decide)⟩
  go_wp2_with fail
  go_roundw
  first
   |guard_hyp zT16:Tg 2
    case rel=>exact ⟨2,by go_num,by omega,HE,HB⟩
   |guard_hyp zT16:Tg 1
    case rel=>exact ⟨3,by go_num,by omega,HE,HB⟩
   |case rel=>exact ⟨1,by go_num,by omega,HE,HB⟩
  case measure=>simp [intOf]
 have hme:=em_ne hem
 first
  |guard_hyp zT16:Tg 2;have K:=word_any x3 wi
   obtain ⟨v,hv⟩:=eN0 (nmB x3)
  |guard_hyp zT16:Tg 1;have K:=word_any x4 wi
   obtain ⟨v,hv⟩:=eN0 (nmB x4)
  |have K:=word_any x2 wi
   obtain ⟨v,hv⟩:=eN0 (nmB x2)
 rw [←hv] at hme K
 have HME:=hI0 hme
 clear hme hv
 go_wp2_with fail
 (with_reducible refine K.mono ?_)
 rintro _ z1 ⟨rfl,hz⟩
 have HB1:=bT0 HB hz
 clear hz K g
 cases v
 case false=>
  have HF:Hid (rs=false):=hI0 (by rw [HR.out,HME.out];simp)
  go_wp2_with fail
  go_ret
  exact ⟨by rw [HF.out];rfl,HBW.out.trans (HB1.out.mono HBW.out.size)⟩
 first
  |guard_hyp zT16:Tg 2;have HE:Hid ((1≤2→emW x2=true)∧(2≤2→emW x3=true)∧(3≤2→emW x4=true)):=hI0 ⟨fun _=>HG.out.1 (by omega),fun _=>HME.out,fun h=>absurd h (by decide)⟩
  |guard_hyp zT16:Tg 1;have HE:Hid ((1≤3→emW x2=true)∧(2≤3→emW x3=true)∧(3≤3→emW x4=true)):=hI0 ⟨fun _=>HG.out.1 (by omega),fun _=>HG.out.2.1 (by omega),fun _=>HME.out⟩
  |have HE:Hid ((1≤1→emW x2=true)∧(2≤1→emW x3=true)∧(3≤1→emW x4=true)):=hI0 ⟨fun _=>HME.out,fun h=>absurd h (by decide),fun h=>absurd h (by decide)⟩
 go_wp2_with fail
 go_roundw
 first
  |guard_hyp zT16:Tg 2
   case rel=>exact ⟨2,by go_num,by omega,HE,HB1⟩
  |guard_hyp zT16:Tg 1
   case rel=>exact ⟨3,by go_num,by omega,HE,HB1⟩
  |case rel=>exact ⟨1,by go_num,by omega,HE,HB1⟩
 case measure=>simp [intOf]) : P := h ⟨⟩
def intE (n:Int):List Value:=[.int .i64 n]
def ix11 (n:Int):Bool:=decide (0≤n∧n≤11)
def ixF (l:List Int):Bool:=l.all ix11&&decide (l.length≤12)
theorem allP_snoc' {α:Type} {p:α→Bool} {xs:List α} {k:Nat} (hk:k<xs.length) (h:(xs.take k).all p=true) (h2:p xs[k]=true):(xs.take (k+1)).all p=true:=by
 rw [List.take_succ_eq_append_getElem hk,List.all_append,h];simp [h2]
theorem allP_no {α:Type} {p:α→Bool} {xs:List α} {k:Nat} (hk:k<xs.length) (h:p xs[k]=false):xs.all p=false:=by
 rw [←Bool.not_eq_true,List.all_eq_true]
 intro hh
 have:=hh xs[k] (List.getElem_mem hk)
 rw [h] at this
 cases this
theorem ix1_any (n:Int) (w:World):Calls prog 227 #[.int .i64 n] w fun e w'=>e=.returned (.bool (!ix11 n))∧w'=w:=by
 have K:=within_any n 0 11 w
 rw [show decide (0≤n∧n≤11)=ix11 n from rfl] at K
 go_in
 go_wp2_with fail
 (with_reducible refine K.mono ?_)
 rintro _ w1 ⟨rfl,hw⟩
 rw [hw]
 clear hw w1 K
 go_wp2_with fail
 go_ret
 exact ⟨rfl,rfl⟩
theorem ixIndex_any (v:Value) (xs:List Int) (w:World) (hv:RdE 1 intE w (ltw w) v xs):
  Calls prog 234 #[v,.func (.func 227) #[] #[]] w fun e w'=>∃m:Int,e=.returned (.int .i64 m)∧(decide (0≤m))=(!xs.all ix11)∧w'=w:=by
 obtain ⟨A,c,rfl,hc1,hc2,hc3⟩:=Rd.open_ (show Rd w _ 1 v xs.length (xs.flatMap intE) from hv)
 unfold maxLen at hc2
 have HV:=hI0 hv
 clear hv hc3
 go_in
 go_wp2_with fail
 go_loopw [8] (fun i wr=>∃k:Nat,i=.int .i64 (k:Int)∧k≤xs.length∧Hid ((xs.take k).all ix11=true)∧wr=w) (fun i _=>xs.length-(intOf i).toNat)
 case atStart=>exact ⟨0,rfl,Nat.zero_le _,hI0 rfl,rfl⟩
 obtain ⟨k,rfl,hk,HA,hw⟩:=hrel
 rw [hw]
 clear hw
 by_cases hlt:k<xs.length
 case neg=>
  have hlt2:¬(k:Int)<(xs.length:Int):=by omega
  have HE:Hid (xs.all ix11=true):=hI0 (by have h:=HA.out;rw [List.take_of_length_le (by omega)] at h;exact h)
  go_wp2_with fail
  go_ret
  exact ⟨-1,rfl,by rw [HE.out];rfl,rfl⟩
 have hlt2:(k:Int)<(xs.length:Int):=by omega
 obtain ⟨b,off,rfl,hF,hcl⟩:=RdE.at_ (K:=1) (enc:=intE) (fun _=>rfl) (by omega) HV.out hlt
 have hcx:=hcl k hlt 0 _ (by decide) rfl
 rw [Nat.mul_one,Nat.add_zero] at hcx
 have hs:=fun h=>allP_snoc' (p:=ix11) hlt h
 have hn:=allP_no (p:=ix11) hlt
 obtain ⟨x,hx⟩:=eN0 (xs[k])
 rw [←hx] at hcx hn
 have hs2:ix11 x=true→(xs.take (k+1)).all ix11=true:=fun h=>hs HA.out (by rw [←hx];exact h)
 have HS:=hI0 hs2
 have HN:=hI0 hn
 have K:=ix1_any x w
 obtain ⟨v,hv⟩:=eN0 (ix11 x)
 rw [←hv] at K HS HN
 clear hcl hF hs hn hs2 hx hv
 go_wp2_with fail
 (with_reducible refine K.mono ?_)
 rintro _ w1 ⟨rfl,hw⟩
 rw [hw]
 clear hw w1 K
 cases v
 case false=>
  go_wp2_with fail
  go_ret
  exact ⟨k,rfl,by rw [HN.out (by first|rfl|trivial)];simp,rfl⟩
 have HA2:Hid ((xs.take (k+1)).all ix11=true):=hI0 (HS.out (by first|rfl|trivial))
 go_wp2_with fail
 go_roundw
 case rel=>exact ⟨k+1,by go_num,hlt,HA2,by first|trivial|rfl⟩
 case measure=>simp [intOf];omega
theorem ixContains_any (v:Value) (xs:List Int) (w:World) (hv:RdE 1 intE w (ltw w) v xs):
  Calls prog 226 #[v,.func (.func 227) #[] #[]] w fun e w'=>e=.returned (.bool (!xs.all ix11))∧w'=w:=by
 have K:=ixIndex_any v xs w hv
 go_in
 go_wp2_with fail
 (with_reducible refine K.mono ?_)
 rintro _ w2 ⟨m,rfl,hm,hw⟩
 rw [hw]
 have HM:=hI0 hm
 clear hm hw w2 K
 go_wp2_with fail
 all_goals
  go_ret
  exact ⟨ret_bool (by rw [←HM.out]),rfl⟩
theorem indexes_any (v:Value) (xs:List Int) (w:World) (hv:RdE 1 intE w (ltw w) v xs):
  Calls prog 205 #[v] w fun e w'=>e=.returned (.bool (ixF xs))∧w'=w:=by
 have K:=ixContains_any v xs w hv
 obtain ⟨A,c,rfl,hc1,hc2,hc3⟩:=Rd.open_ (show Rd w _ 1 v xs.length (xs.flatMap intE) from hv)
 have HE:Hid (ixF xs=(xs.all ix11&&decide (xs.length≤12))):=hI0 rfl
 generalize ixF xs=r at *
 generalize xs.all ix11=b at *
 clear hv hc3 hc2 hc1
 by_cases h:xs.length≤12
 ·have hz:(xs.length:Int)≤12:=by omega
  have HR:Hid (r=b):=hI0 (by rw [HE.out];simp [h])
  clear HE
  go_in
  go_wp2_with fail
  (with_reducible refine K.mono ?_)
  rintro _ w2 ⟨rfl,hw⟩
  rw [hw]
  clear hw w2 K
  cases b
  ·go_wp2_with fail
   go_ret
   exact ⟨ret_bool HR.out.symm,rfl⟩
  ·go_wp2_with fail
   go_ret
   exact ⟨ret_bool HR.out.symm,rfl⟩
 ·have hz:¬(xs.length:Int)≤12:=by omega
  have HR:Hid (r=false):=hI0 (by rw [HE.out];simp [h])
  clear HE K
  go_in
  go_wp2_with fail
  go_ret
  exact ⟨ret_bool HR.out.symm,rfl⟩
structure Chn where
 kind:Int
 name:ByteArray
 to:ByteArray
 cname:ByteArray
 ckind:Int
 cnull:Bool
 def_:Val
def Chn.enc (x:Chn):List Value:=[.int .i64 x.kind,.string x.name,.string x.to,.string x.cname,.int .i64 x.ckind,.bool x.cnull,.int .i64 x.def_.kind,.int .i64 x.def_.int,.string x.def_.text]
def emW (s:ByteArray):Bool:=s.toList.isEmpty||nmB s
def Chn.ok (x:Chn):Bool:=emW x.name&&(emW x.to&&(emW x.cname&&(decide (1≤x.kind∧x.kind≤4)&&(decide (0≤x.ckind∧x.ckind≤3)&&validV x.def_))))
theorem em_eq {S:ByteArray} (h:S.toList.isEmpty=true):emW S=true:=by unfold emW;rw [h];rfl
theorem em_ne {S:ByteArray} (h:S.toList.isEmpty=false):emW S=nmB S:=by unfold emW;rw [h];rfl
theorem storedChange_any (x1:Int) (x2 x3 x4:ByteArray) (x5:Int) (x6:Bool) (x7 x8:Int) (x9:ByteArray) (w:World) (hs:x9.size≤maxLen):
  Calls prog 156 #[.agg #[.int .i64 x1,.string x2,.string x3,.string x4,.int .i64 x5,.bool x6,.int .i64 x7,.int .i64 x8,.string x9]] w fun e w'=>e=.returned (.bool (Chn.ok ⟨x1,x2,x3,x4,x5,x6,⟨x7,x8,x9⟩⟩))∧Bl w w':=by
 obtain ⟨W0,hW0⟩:=eN0 (w.alloc (.cells #[.int .i64 x1,.string x2,.string x3,.string x4,.int .i64 x5,.bool x6,.int .i64 x7,.int .i64 x8,.string x9] 77))
 obtain ⟨W,hW⟩:=eN0 (W0.alloc (.cells #[.string x2,.string x3,.string x4] 9))
 have hb0:=bN0 hW0
 have hb1:=bN0 hW
 have hT0:=hN0 hW0
 have hz0:=sN0 hW0
 have hN:W.heap[w.heap.size+1]? =some (.cells #[.string x2,.string x3,.string x4] 9 (0,0)):=by rw [hW,←hz0];exact heap_alloc_new _ _
 have hz1:W.heap.size=w.heap.size+2:=by rw [hW];simp [hz0]
 have HT:=hI0 ((hb1.block w.heap.size (by omega)).trans hT0)
 have HN:=hI0 hN
 have HZ:=hI0 hz1
 have HBW:Hid (Bl w W):=hI0 (hb0.trans (hb1.mono hb0.size))
 obtain ⟨rs,hrs⟩:=eN0 (Chn.ok ⟨x1,x2,x3,x4,x5,x6,⟨x7,x8,x9⟩⟩)
 rw [←hrs]
 have HR:Hid (rs=(emW x2&&(emW x3&&(emW x4&&(decide (1≤x1∧x1≤4)&&(decide (0≤x5∧x5≤3)&&validV ⟨x7,x8,x9⟩)))))):=hI0 hrs
 clear hrs hb0 hb1 hT0 hN
 go_in
 go_wp2_with fail
 rw [←hW0,←hW]
 clear hW0 hW hz0 hz1
 go_loopw [14] (fun i wr=>∃k:Nat,i=.int .i64 (k:Int)∧k≤3∧Hid ((1≤k→emW x2=true)∧(2≤k→emW x3=true)∧(3≤k→emW x4=true))∧Hid (Bl W wr)) (fun i _=>3-(intOf i).toNat)
 case atStart=>exact ⟨0,rfl,by omega,hI0 ⟨fun h=>absurd h (by decide),fun h=>absurd h (by decide),fun h=>absurd h (by decide)⟩,hI0 (Below.refl _ _)⟩
 obtain ⟨k,rfl,hk,HG,HB⟩:=hrel
 obtain ⟨wi,rfl⟩:=eN0 wr
 have hNi:=(HB.out.block (w.heap.size+1) (by have:=HZ.out;omega)).trans HN.out
 obtain rfl|rfl|rfl|rfl:k=0∨k=1∨k=2∨k=3:=by omega
 ·exact zq16 0
 ·exact zq16 2
 ·exact zq16 1
 ·have hTi:=(HB.out.block w.heap.size (by have:=HZ.out;omega)).trans HT.out
  obtain ⟨c0,c1,c2,c3,c4,c5,c6,c7,c8⟩:=cX9 hTi
  have HR2:Hid (rs=(decide (1≤x1∧x1≤4)&&(decide (0≤x5∧x5≤3)&&validV ⟨x7,x8,x9⟩))):=hI0 (by rw [HR.out,HG.out.1 (by omega),HG.out.2.1 (by omega),HG.out.2.2 (by omega)];rfl)
  have K1:=within_any x1 1 4 wi
  have K2:=within_any x5 0 3 wi
  have K3:=validValue_any x7 x8 x9 wi hs
  obtain ⟨v1,hv1⟩:=eN0 (decide (1≤x1∧x1≤4))
  obtain ⟨v2,hv2⟩:=eN0 (decide (0≤x5∧x5≤3))
  obtain ⟨v3,hv3⟩:=eN0 (validV ⟨x7,x8,x9⟩)
  rw [←hv1] at K1 HR2
  rw [←hv2] at K2 HR2
  rw [←hv3] at K3 HR2
  have HBF:Hid (Bl w wi):=hI0 (HBW.out.trans (HB.out.mono HBW.out.size))
  clear hTi hNi hv1 hv2 hv3
  go_wp2_with fail
  (with_reducible refine K1.mono ?_)
  rintro _ z1 ⟨rfl,hz⟩
  rw [hz]
  clear hz z1 K1
  cases v1
  case false=>
   go_wp2_with fail
   go_ret
   exact ⟨by rw [HR2.out];rfl,HBF.out⟩
  go_wp2_with fail
  (with_reducible refine K2.mono ?_)
  rintro _ z1 ⟨rfl,hz⟩
  rw [hz]
  clear hz z1 K2
  cases v2
  case false=>
   go_wp2_with fail
   go_ret
   exact ⟨by rw [HR2.out];rfl,HBF.out⟩
  go_wp2_with fail
  (with_reducible refine K3.mono ?_)
  rintro _ z1 ⟨rfl,hz⟩
  have HBG:Hid (Bl w z1):=hI0 (by rw [←hz];exact HBF.out.alloc HBF.out.size _)
  clear hz K3
  go_wp2_with fail
  go_ret
  exact ⟨by rw [HR2.out];rfl,HBG.out⟩
inductive RE where
 |mk (op int:Int) (val:Val) (name:ByteArray) (A:Option Addr) (c:Nat) (args:List RE)
def RE.enc:RE→List Value
 | .mk op int val name A c args=>[.int .i64 op,.int .i64 int,.int .i64 val.kind,.int .i64 val.int,.string val.text,.string name,.slice A args.length c]
theorem RE.enc_length (e:RE):e.enc.length=7:=by cases e;rfl
def exIs:Nat→World→(Nat→Prop)→RE→Prop
 |0,_,_,_=>True
 |d+1,w,F,.mk _ _ val name A c args=>RdE 7 RE.enc w F (.slice A args.length c) args∧goV val∧name.size≤maxLen∧∀a∈args,exIs d w F a
theorem exIs_below {w w':World} (hb:Bl w w'):∀(d:Nat) (e:RE),exIs d w (ltw w) e→exIs d w' (ltw w') e:=by
 intro d
 induction d with
 |zero=>intro e _;trivial
 |succ d ih=>
  intro e h
  obtain ⟨op,it,val,nm,A,c,args⟩:=e
  obtain ⟨h1,h2,h3,h4⟩:=h
  exact ⟨h1.below hb,h2,h3,fun a ha=>ih a (h4 a ha)⟩
def chP (c:UInt8):Bool:=decide (32≤(c.toNat:Int)∧(c.toNat:Int)≤126)
def okX:Nat→RE→Bool
 |0,_=>false
 |d+1,.mk op int val name _ _ args=>decide (1≤op∧op≤26)&&(decide (-1125899906842624≤int∧int≤1125899906842624)&&(validV val&&(decide (name.size≤49)&&(name.data.toList.all chP&&args.all (okX d)))))
theorem storedExpr_any:∀(d:Nat) (e:RE) (lv:Int) (w:World),lv+d=25→1≤lv→exIs d w (ltw w) e→
  Calls prog 206 #[.agg e.enc.toArray,.int .i64 lv] w fun x w'=>x=.returned (.bool (okX d e))∧Bl w w':=by
 intro d
 induction d with
 |zero=>
  intro e lv w hlv _ _
  obtain ⟨op,it,⟨vk,vi,vs⟩,nm,A,c,args⟩:=e
  show Calls prog 206 #[.agg #[.int .i64 op,.int .i64 it,.int .i64 vk,.int .i64 vi,.string vs,.string nm,.slice A args.length c],.int .i64 lv] w _
  have hl:(24:Int)<lv:=by omega
  clear hlv
  go_in
  go_wp2_with fail
  go_ret
  exact ⟨rfl,Below.of_alloc _⟩
 |succ d ih=>
  intro e lv w hlv hl1 he
  obtain ⟨op,it,⟨vk,vi,vs⟩,nm,A,c,args⟩:=e
  obtain ⟨h1,h2,h3,h4⟩:=he
  have IH:=hI0 ih
  obtain ⟨rs,hrs⟩:=eN0 (okX (d+1) (.mk op it ⟨vk,vi,vs⟩ nm A c args))
  rw [←hrs]
  have HR:Hid (rs=(decide (1≤op∧op≤26)&&(decide (-1125899906842624≤it∧it≤1125899906842624)&&(validV ⟨vk,vi,vs⟩&&(decide (nm.size≤49)&&(nm.data.toList.all chP&&args.all (okX d))))))):=hI0 hrs
  show Calls prog 206 #[.agg #[.int .i64 op,.int .i64 it,.int .i64 vk,.int .i64 vi,.string vs,.string nm,.slice A args.length c],.int .i64 lv] w _
  obtain ⟨W,hW⟩:=eN0 (w.alloc (.cells #[.int .i64 op,.int .i64 it,.int .i64 vk,.int .i64 vi,.string vs,.string nm,.slice A args.length c] 117))
  have hbW:=bN0 hW
  have hT:=hN0 hW
  have hWs:w.heap.size<W.heap.size:=by rw [hW];simp
  have HBW:=hI0 hbW
  have HT:=hI0 hT
  have HWS:=hI0 hWs
  have HA:=hI0 h1
  have HA4:=hI0 h4
  have hl:¬(24:Int)<lv:=by omega
  have HLV:=hI0 (And.intro hlv hl1)
  have K1:=within_any op 1 26 W
  have K2:=within_any it (-1125899906842624) 1125899906842624 W
  have K3:=validValue_any vk vi vs W h2.2.2
  obtain ⟨v1,hv1⟩:=eN0 (decide (1≤op∧op≤26))
  obtain ⟨v2,hv2⟩:=eN0 (decide (-1125899906842624≤it∧it≤1125899906842624))
  obtain ⟨v3,hv3⟩:=eN0 (validV ⟨vk,vi,vs⟩)
  rw [←hv1] at K1 HR
  rw [←hv2] at K2 HR
  rw [←hv3] at K3 HR
  obtain ⟨c0,c1,c2,c3,c4,c5,c6⟩:=cX7 hT
  clear hbW hT hWs hv1 hv2 hv3 h1 h2 h4 hrs hlv hl1 ih
  go_in
  go_wp2_with fail
  rw [←hW]
  clear hW
  (with_reducible refine K1.mono ?_)
  rintro _ z1 ⟨rfl,hz⟩
  rw [hz]
  clear hz z1 K1
  cases v1
  case false=>
   go_wp2_with fail
   go_ret
   exact ⟨by rw [HR.out];rfl,HBW.out⟩
  go_wp2_with fail
  (with_reducible refine K2.mono ?_)
  rintro _ z1 ⟨rfl,hz⟩
  rw [hz]
  clear hz z1 K2
  cases v2
  case false=>
   go_wp2_with fail
   go_ret
   exact ⟨by rw [HR.out];rfl,HBW.out⟩
  go_wp2_with fail
  (with_reducible refine K3.mono ?_)
  rintro _ W3 ⟨rfl,hz⟩
  have hb3:Bl W W3:=by rw [←hz];exact Below.of_alloc _
  have HB3:=bT0 HBW hb3
  have HT3:=hI0 ((hb3.block _ HWS.out).trans HT.out)
  have HL3:Hid (w.heap.size<W3.heap.size):=hI0 (by have:=HWS.out;have:=hb3.size;omega)
  clear hz hb3 K3 c0 c1 c2 c3 c4 c5 c6
  cases v3
  case false=>
   go_wp2_with fail
   go_ret
   exact ⟨by rw [HR.out];rfl,HB3.out⟩
  obtain ⟨c0,c1,c2,c3,c4,c5,c6⟩:=cX7 HT3.out
  by_cases hn:nm.size≤49
  case neg=>
   have hni:(49:Int)<(nm.size:Int):=by omega
   have HF:Hid (rs=false):=hI0 (by rw [HR.out];simp [hn])
   go_wp2_with fail
   go_ret
   exact ⟨by rw [HF.out];rfl,HB3.out⟩
  have hni:¬(49:Int)<(nm.size:Int):=by omega
  have HR2:Hid (rs=(nm.data.toList.all chP&&args.all (okX d))):=hI0 (by rw [HR.out];simp [hn])
  obtain ⟨xb,Wc,hcv,hrd,hbc⟩:=conv_sb W3 nm (by omega)
  obtain ⟨nl,hnl⟩:=eN0 nm.data.toList
  rw [←hnl] at hrd HR2
  obtain ⟨Ab,cb,rfl,m1,m2,m3⟩:=Rd.open_ hrd
  unfold maxLen at m2
  have HRD:=hI0 hrd
  have HBC:=bT0 HB3 hbc
  have HTC:=hI0 ((hbc.block _ HL3.out).trans HT3.out)
  clear hrd hbc m3 hnl hn
  go_wp2_with fail
  clear hcv c0 c1 c2 c3 c4 c5 c6
  go_loopw [39] (fun i wr=>∃k:Nat,i=.int .i64 (k:Int)∧k≤nl.length∧Hid ((nl.take k).all chP=true)∧wr=Wc) (fun i _=>nl.length-(intOf i).toNat)
  case atStart=>exact ⟨0,rfl,Nat.zero_le _,hI0 rfl,rfl⟩
  obtain ⟨k,rfl,hk,HG,hw⟩:=hrel
  rw [hw]
  clear hw
  by_cases hlt:k<nl.length
  case pos=>
   have hlt2:(k:Int)<(nl.length:Int):=by omega
   obtain ⟨b,off,rfl,hF,g0⟩:=RdB.byte HRD.out hlt
   have hs:=fun h=>allP_snoc' (p:=chP) hlt HG.out h
   have hno:=allP_no (p:=chP) hlt
   obtain ⟨ch,hch⟩:=eN0 (nl[k])
   rw [←hch] at g0 hno
   have hs2:chP ch=true→(nl.take (k+1)).all chP=true:=fun h=>hs (by rw [←hch];exact h)
   have KW:=within_any (ch.toNat:Int) 32 126 Wc
   rw [show decide (32≤(ch.toNat:Int)∧(ch.toNat:Int)≤126)=chP ch from rfl] at KW
   obtain ⟨v,hv⟩:=eN0 (chP ch)
   rw [←hv] at KW hno hs2
   have HS:=hI0 hs2
   have HNO:=hI0 hno
   have hc256:=ch.toNat_lt
   clear hs hs2 hno hch hv hF
   go_wp2_with fail
   (with_reducible refine KW.mono ?_)
   rintro _ z1 ⟨rfl,hz⟩
   rw [hz]
   clear hz z1 KW
   cases v
   case false=>
    have HF:Hid (rs=false):=hI0 (by rw [HR2.out,HNO.out (by first|rfl|trivial)];rfl)
    go_wp2_with fail
    go_ret
    exact ⟨by rw [HF.out];rfl,HBC.out⟩
   have HN:Hid ((nl.take (k+1)).all chP=true):=hI0 (HS.out (by first|rfl|trivial))
   go_wp2_with fail
   go_roundw
   case rel=>exact ⟨k+1,by go_num,hlt,HN,by first|trivial|rfl⟩
   case measure=>simp [intOf];omega
  have hlt2:¬(k:Int)<(nl.length:Int):=by omega
  have HR3:Hid (rs=args.all (okX d)):=hI0 (by
   have h:=HG.out
   rw [List.take_of_length_le (by omega)] at h
   rw [HR2.out,h];rfl)
  have c6:=cW1 6 HTC.out rfl
  obtain ⟨A0,c0,hAc,n1,n2,n3⟩:=Rd.open_ (show Rd w _ 7 (.slice A args.length c) args.length (args.flatMap RE.enc) from HA.out)
  simp only [Value.slice.injEq] at hAc
  obtain ⟨rfl,-,rfl⟩:=hAc
  unfold maxLen at n2
  clear HG n3 hlt
  go_wp2_with fail
  clear c6 hlt2
  go_loopw [51] (fun i wr=>∃j:Nat,i=.int .i64 (j:Int)∧j≤args.length∧Hid ((args.take j).all (okX d)=true)∧Hid (Bl w wr)) (fun i _=>args.length-(intOf i).toNat)
  case atStart=>exact ⟨0,rfl,Nat.zero_le _,hI0 rfl,HBC⟩
  obtain ⟨j,rfl,hj,HG,HB⟩:=hrel
  obtain ⟨wi,rfl⟩:=eN0 wr
  by_cases hltj:j<args.length
  case neg=>
   have hlt3:¬(j:Int)<(args.length:Int):=by omega
   have HE:Hid (rs=true):=hI0 (by
    have h:=HG.out
    rw [List.take_of_length_le (by omega)] at h
    rw [HR3.out,h])
   go_wp2_with fail
   go_ret
   exact ⟨by rw [HE.out];rfl,HB.out⟩
  have hlt3:(j:Int)<(args.length:Int):=by omega
  obtain ⟨b,off,rfl,hF,hcl⟩:=RdE.at_ (K:=7) (enc:=RE.enc) RE.enc_length (by omega) (HA.out.below HB.out) hltj
  have hcx:=hcl j hltj
  have hxi:=HA4.out _ (List.getElem_mem hltj)
  have hs:=fun h=>allP_snoc' (p:=okX d) hltj HG.out h
  have hno:=allP_no (p:=okX d) hltj
  obtain ⟨x,hx⟩:=eN0 (args[j])
  rw [←hx] at hcx hxi hno
  have hs2:okX d x=true→(args.take (j+1)).all (okX d)=true:=fun h=>hs (by rw [←hx];exact h)
  have KX:∀V,Bl w V→_:=fun V hV=>IH.out x (lv+1) V (by have:=HLV.out;omega) (by have:=HLV.out;omega) (exIs_below hV d x hxi)
  obtain ⟨v,hv⟩:=eN0 (okX d x)
  rw [←hv] at KX hno hs2
  have HS:=hI0 hs2
  have HNO:=hI0 hno
  clear hs hs2 hno hx hv hF hcl
  obtain ⟨op2,it2,⟨vk2,vi2,vs2⟩,nm2,A2,c2,args2⟩:=x
  have KX2:∀V,Bl w V→Calls prog 206 #[.agg #[.int .i64 op2,.int .i64 it2,.int .i64 vk2,.int .i64 vi2,.string vs2,.string nm2,.slice A2 args2.length c2],.int .i64 (lv+1)] V fun x w'=>x=.returned (.bool v)∧Bl V w':=KX
  obtain ⟨g0,g1,g2,g3,g4,g5,g6⟩:=cK7 hcx (show _=[.int .i64 op2,.int .i64 it2,.int .i64 vk2,.int .i64 vi2,.string vs2,.string nm2,.slice A2 args2.length c2] from rfl)
  obtain ⟨W1,hW1⟩:=eN0 (wi.alloc (.cells #[.int .i64 op2,.int .i64 it2,.int .i64 vk2,.int .i64 vi2,.string vs2,.string nm2,.slice A2 args2.length c2] 117))
  have hb1:=bN0 hW1
  have HB1:=bT0 HB hb1
  have KV:=KX2 W1 HB1.out
  have hlv1:lv+1≤9223372036854775807:=by have:=HLV.out;omega
  have hlv2: -9223372036854775808≤lv+1:=by have:=HLV.out;omega
  clear hcx hxi KX KX2 hb1
  go_wp2_with fail
  rw [←hW1]
  clear hW1 g0 g1 g2 g3 g4 g5 g6
  (with_reducible refine KV.mono ?_)
  rintro _ w2 ⟨rfl,hb2⟩
  have HB2:=bT0 HB1 hb2
  clear hb2 KV
  cases v
  case false=>
   have HF:Hid (rs=false):=hI0 (by rw [HR3.out,HNO.out (by first|rfl|trivial)])
   go_wp2_with fail
   go_ret
   exact ⟨by rw [HF.out];rfl,HB2.out⟩
  have HN:Hid ((args.take (j+1)).all (okX d)=true):=hI0 (HS.out (by first|rfl|trivial))
  go_wp2_with fail
  go_roundw
  case rel=>exact ⟨j+1,by go_num,hltj,HN,HB2⟩
  case measure=>simp [intOf];omega
end Go.Proofs.YtgfhknnklapldaaGreatDoor
