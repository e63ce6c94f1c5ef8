/-
 Codec
-/
import Derived.Test.YtgfhknnklapldaaGreatDoorBBase
import Derived.BigQuiet
import Derived.Deep.RegionHeld3
namespace Go.Proofs.YtgfhknnklapldaaGreatDoor
open Go.Proofs.Tryz
set_option maxRecDepth 99999
set_option maxHeartbeats 0
theorem zq8 {P:Prop} (i:Nat) (h:Tg i→P:=by
 intro zT8
 obtain ⟨i0,hi,hz0,hz1,hz2⟩:=info_parts infoB
 obtain ⟨A,c,rfl,hc1,hc2,hA⟩:=hv.view
 first
  |guard_hyp zT8:Tg 1;have hA':=hA.box (.cells #[.int .i64 3,.int .i64 i,.string s] 51)
  |have hA':=hA.box (.cells #[.int .i64 k,.int .i64 i,.string s] 51)
 have HA:=hI0 hA'
 clear hA' hA
 first
  |done
  |guard_hyp zT8:Tg 1
  |have b1:(k==1)=false:=by simpa using k1
   have b2:(k==2)=false:=by simpa using k2
   have b3:(k==3)=false:=by simpa using k3
   clear k1 k2 k3
 go_in
 go_wp2_with (first
  |(go_at_call 169;((with_reducible refine (grow_any A _ c _ hc1).mono ?_));rintro e w' ⟨rfl,rfl⟩)
  |(at_builtin;refine wpList_append_app _ rfl _ _ 57 rfl (w.heap.size+1) 5 i0 _ 1 1 underlying57 hi hz0 hz1 hz2 rfl (by omega) (.slice A l.length l.length) l.length (bv l) rfl (by exact (App.alloc HA.out (by simp) _)) (·=w.heap.size+1) _ 1 _ rfl zi11 (one_one rfl) zi9 (by omega) (by simp) ?_;intro v1 w1 hA1 hO1 hg1 hb1 ha1))
 go_ret
 first
  |guard_hyp zT8:Tg 1;exact newB_one (and_byte i) hO1 hb1
  |exact newB_one (x:=0) rfl hO1 hb1) : P := h ⟨⟩
theorem zq21 {P:Prop} (i:Nat) (h:Tg i→P:=by
 intro zT21
 go_wp2_with (at_builtin;refine wpList_append_app _ rfl _ _ 57 rfl base 5 i0 _ 1 1 underlying57 hi hz0 hz1 hz2 rfl (by omega) u0 _ _ rfl (App.alloc hA q3 _) _ _ 1 _ rfl (Rd.new wr _ 5 1 1 rfl (by decide)) (one_one rfl) q1 q2 (by simp;omega) ?_;intro v1 w1 hA1 hO1 hg1 hb1 ha1)
 first
  |guard_hyp zT21:Tg 1;go_ret
   exact PutRelC.last hG HP.out (by omega) (byte_of (by omega)) hb hO1 hg1 hb1 ha1
  |go_roundw
   case rel=>exact PutRelC.more hG HP.out HU.out hf hpl hc (or128 u') hb hA1 hg1 hb1 ha1
   case measure=>simp [intOf];omega) : P := h ⟨⟩
theorem zi11 {P:Prop} (h:P:=by exact (Rd.new' _ (w.heap.size+1) (by simp) _ 5 1 1 rfl (by decide))):P:=h
section
open Go.RowKit
def PutRelC (base:Nat) (v0:Value) (w0:World) (l all:List UInt8) (b u:Value) (w:World):Prop:=
 ∃(f:Nat) (pre:List UInt8) (u':Nat),AppB w base b (l++pre)∧pre++vl f u'=all∧u'<2*128 ^ f∧f≤9∧pre.length+f≤9∧u=.int .u64 u'∧Grew base v0 w0 b w
theorem PutRelC.more {base:Nat} {v0 v v1:Value} {w0 w w1:World} {l all pre:List UInt8} {f u':Nat} {x:Int} {o:Obj} (hG:Grew base v0 w0 v w) (HP:pre++vl f u'=all) (HU:u'<2*128 ^ f) (hf:f≤9) (hpl:pre.length+f≤9) (hc:128≤u')
  (hx:x=((UInt8.ofNat (u' % 128+128)).toNat:Int)) (hb:base≤w0.heap.size)
  (hA1:App w1 base 5 1 v1 ((l++pre).length+1) (bv (l++pre)++[.int .u8 x]))
  (hg1:(w.alloc o).grownBy w1 v.ownBlock) (hb1:Below base (w.alloc o) w1) (ha1:v1.ownBlock=v.ownBlock∨v1.ownBlock=some (w.alloc o).heap.size):
  PutRelC base v0 w0 l all v1 (.int .u64 ((u':Int) / 128)) w1:=by
 subst hx
 obtain ⟨g,rfl⟩:∃g,f=g+1:=⟨f-1,by
  rcases Nat.eq_zero_or_pos f with h|h
  ·subst h;simp at HU;omega
  ·omega⟩
 rw [vl_big _ hc] at HP
 refine ⟨g,pre++[UInt8.ofNat (u' % 128+128)],u' / 128,?_,by simpa using HP,?_,by omega,by simp;omega,by simp,?_⟩
 ·have e:bv (l++(pre++[UInt8.ofNat (u' % 128+128)]))=bv (l++pre)++[.int .u8 ((UInt8.ofNat (u' % 128+128)).toNat:Int)]:=by
   rw [←List.append_assoc,bv_append];rfl
  have e2:(l++(pre++[UInt8.ofNat (u' % 128+128)])).length=(l++pre).length+1:=by simp;omega
  unfold AppB
  rw [e,e2]
  exact hA1
 ·rw [Nat.pow_succ] at HU
  omega
 ·exact (hG.alloc hb o).trans (Grew.step hg1 hb1 ha1)
theorem PutRelC.last {base:Nat} {v0 v v1:Value} {w0 w w1:World} {l all pre:List UInt8} {f u':Nat} {x:Int} {o:Obj} (hG:Grew base v0 w0 v w) (HP:pre++vl f u'=all) (hc:u'<128)
  (hx:x=((UInt8.ofNat u').toNat:Int)) (hb:base≤w0.heap.size)
  {p:Prop} (hO1:0<1∨p→w1.ownsRow base 5 1 v1 ((l++pre).length+1) (bv (l++pre)++[.int .u8 x]))
  (hg1:(w.alloc o).grownBy w1 v.ownBlock) (hb1:Below base (w.alloc o) w1) (ha1:v1.ownBlock=v.ownBlock∨v1.ownBlock=some (w.alloc o).heap.size):
  MadeB base v0 w0 (l++all) (.returned v1) w1:=by
 subst hx
 rw [vl_small _ hc] at HP
 subst HP
 refine ⟨v1,rfl,?_,(hG.alloc hb o).trans (Grew.step hg1 hb1 ha1)⟩
 have e:bv (l++(pre++[UInt8.ofNat u']))=bv (l++pre)++[.int .u8 ((UInt8.ofNat u').toNat:Int)]:=by
  rw [←List.append_assoc,bv_append];rfl
 have e2:(l++(pre++[UInt8.ofNat u'])).length=(l++pre).length+1:=by simp;omega
 unfold OwnB
 rw [e,e2]
 exact hO1 (.inl (by omega))
theorem put_any (base:Nat) (v:Value) (l:List UInt8) (n:Int) (w:World) (h1: -9223372036854775808≤n) (h2:n≤9223372036854775807)
  (hv:AppB w base v l) (hb:base≤w.heap.size) (hl:l.length≤140737488355000):
  Calls prog 168 #[v,.int .i64 n] w (MadeB base v w (l++encI n)):=by
 obtain ⟨i0,hi,hz0,hz1,hz2⟩:=info_parts infoB
 have HV:=hI0 hv
 clear hv
 go_in
 go_wp2
 rw [put_word h1 h2]
 go_loopw [0,5] (fun b u wr=>PutRelC base v w l (encI n) b u wr) (fun _ u _=>(intOf u).toNat)
 case atStart=>
  exact ⟨9,[],zz n,by simpa using HV.out,rfl,by have:=zz_lt h1 h2;omega,by omega,by simp,rfl,Grew.refl _ _ _⟩
 obtain ⟨f,pre,u',hA,hpre,hu,hf,hpl,rfl,hG⟩:=hrel
 have HP:=hI0 hpre
 have HU:=hI0 hu
 clear hpre hu
 have q1:(l++pre).length+1≤maxLen:=by simp only [maxLen,List.length_append];omega
 have q2:((l++pre).length+1)*1≤140737488355328:=by simp only [List.length_append];omega
 have q3:=Nat.le_trans hb hG.size
 by_cases hc:128≤u'
 ·exact zq21 0
 ·exact zq21 1
theorem grow_any (A:Option Addr) (n c:Nat) (w:World) (h1:n≤c):
  Calls prog 169 #[.slice A n c] w fun e w'=>e=.returned (.slice A n n)∧w=w':=by
 go_in
 go_wp2
 go_ret
 exact ⟨rfl,rfl⟩
theorem putInt_any (v:Value) (l:List UInt8) (n:Int) (w:World) (h1: -9223372036854775808≤n) (h2:n≤9223372036854775807)
  (hv:RdB w (ltw w) v l) (hl:l.length≤140737488355000):
  Calls prog 111 #[v,.int .i64 n] w (NewB w (l++encI n)):=by
 obtain ⟨A,c,rfl,hc1,hc2,hA⟩:=hv.view
 go_in
 go_wp2_with fail
 refine (grow_any A _ c _ hc1).mono ?_
 rintro e w' ⟨rfl,rfl⟩
 go_wp2_with fail
 refine (put_any w.heap.size _ l n _ h1 h2 hA (Nat.le_refl _) hl).mono ?_
 rintro e w' ⟨v1,rfl,ho,hg⟩
 go_wp2_with fail
 go_ret
 exact ⟨v1,rfl,ho,hg.below⟩
end
section
open Go.RowKit Go.Lib
theorem own_baseC {w:World} {b b':Nat} {e:TypeId} {size n:Nat} {v:Value} {cs:List Value} (h:w.ownsRow b e size v n cs) (hb:b'≤b):w.ownsRow b' e size v n cs:=by
 refine ⟨h.1,?_⟩
 rcases h.2 with h|⟨g,cap,cur,a1,a2,a3⟩
 ·exact .inl h
 ·exact .inr ⟨g,cap,cur,a1,by omega,a3⟩
theorem RdB.below' {w w':World} {v:Value} {l:List UInt8} (h:RdB w (ltw w) v l) (hb:Bl w w'):RdB w' (ltw w') v l:=Rd.below' h hb
end
section
open Go.RowKit Go.Lib
theorem str_len (s:ByteArray):s.data.toList.length=s.size:=by rw [Array.length_toList];rfl
theorem putText_any (v:Value) (l:List UInt8) (s:ByteArray) (w:World) (hv:RdB w (ltw w) v l) (hl:l.length+s.size≤140737488355000):
  Calls prog 115 #[v,.string s] w (NewB w (l++(encI s.size++s.data.toList))):=by
 obtain ⟨i0,hi,hz0,hz1,hz2⟩:=info_parts infoB
 obtain ⟨A,c,rfl,hc1,hc2,hA⟩:=hv.view
 go_in
 go_wp2_with fail
 refine (grow_any A _ c _ hc1).mono ?_
 rintro e w' ⟨rfl,rfl⟩
 go_wp2_with fail
 refine (put_any w.heap.size _ l s.size _ (by omega) (by omega) hA (Nat.le_refl _) (by omega)).mono ?_
 rintro e w' ⟨v1,rfl,ho,hg⟩
 have hlen:=encI_length s.size
 go_wp2_with (at_builtin;refine wpList_append_own_string _ rfl _ _ 57 9 rfl w.heap.size 5 i0 underlying57 underlying9 hi hz0 hz1 hz2 v1 _ _ rfl ho s rfl (by simp only [maxLen,List.length_append];omega) (by simp only [List.length_append];omega) hg.size ?_;intro v2 w2 ho2 hg2 _)
 go_ret
 refine ⟨v2,rfl,?_,hg.below.grown hg2 hg.size fun k hk=>(ho.lt k hk).1⟩
 unfold OwnB
 rw [←List.append_assoc,bv_append,List.length_append,str_len]
 exact ho2
end
section
open Go.RowKit Go.Lib
def printB (l:List UInt8):Bool:=l.all fun c=>32≤c&&c≤126
theorem take_snoc (s:ByteArray) (k:Nat) (h:k<s.size):s.data.toList.take (k+1)=s.data.toList.take k++[s[k]]:=by
 rw [List.take_succ_eq_append_getElem (by simpa using h)];rfl
theorem printB_snoc (l:List UInt8) (c:UInt8):printB (l++[c])=(printB l&&decide (32≤(c.toNat:Int)∧(c.toNat:Int)≤126)):=by
 unfold printB
 rw [List.all_append]
 congr 1
 simp [UInt8.le_iff_toNat_le]
 rw [Bool.eq_iff_iff];simp;omega
theorem printB_no {l:List UInt8} {k:Nat} (h:printB (l.take k)=false):printB l=false:=by
 rw [←Bool.not_eq_true] at h ⊢
 intro hl
 apply h
 unfold printB at *
 rw [List.all_eq_true] at *
 exact fun x hx=>hl x (List.mem_of_mem_take hx)
theorem printable_any (s:ByteArray) (w:World) (hs:s.size≤maxLen):
  Calls prog 183 #[.string s] w fun e w'=>e=.returned (.bool (printB s.data.toList))∧w=w':=by
 unfold maxLen at hs
 go_in
 go_wp2
 go_loop [6] (fun i=>∃k:Nat,k≤s.size∧i=.int .i64 k∧printB (s.data.toList.take k)=true) (fun i=>s.size-(intOf i).toNat)
 case atStart=>exact ⟨0,Nat.zero_le _,rfl,rfl⟩
 obtain ⟨k,hk,rfl,hp⟩:=hrel
 have HP:=hI0 hp
 clear hp
 by_cases hlt:k<s.size
 ·by_cases h1:(s[k].toNat:Int)<32
  ·go_wp2
   go_ret
   exact ⟨by rw [printB_no (k:=k+1) (by rw [take_snoc s k hlt,printB_snoc];simp;omega)];rfl,rfl⟩
  ·by_cases h2:126<(s[k].toNat:Int)
   ·go_wp2
    go_ret
    exact ⟨by rw [printB_no (k:=k+1) (by rw [take_snoc s k hlt,printB_snoc];simp;omega)];rfl,rfl⟩
   ·go_wp2
    go_round
    case rel=>exact ⟨k+1,by omega,by go_num,by rw [take_snoc s k hlt,printB_snoc,HP.out];simp;omega⟩
    case measure=>simp [intOf];omega
 ·go_wp2
  go_ret
  have:k=s.size:=by omega
  subst this
  have e:List.take s.size s.data.toList=s.data.toList:=List.take_of_length_le (by simp)
  rw [←e,HP.out]
  exact ⟨rfl,rfl⟩
structure Val where
 kind:Int
 int:Int
 text:ByteArray
def Val.cells (x:Val):List Value:=[.int .i64 x.kind,.int .i64 x.int,.string x.text]
def validV (x:Val):Bool:=
 if x.kind=0 then x.int==0&&x.text.data.toList==[]
 else if x.kind=1 then decide (-1125899906842624≤x.int)&&decide (x.int≤1125899906842624)&&x.text.data.toList==[]
 else if x.kind=2 then x.int==0&&decide (x.text.size≤200)&&printB x.text.data.toList
 else if x.kind=3 then (x.int==0||x.int==1)&&x.text.data.toList==[]
 else false
theorem ret_bool {a b:Bool} (h:a=b):Ending.returned (.bool a)=.returned (.bool b):=by rw [h]
theorem isEmpty_beq (s:ByteArray):s.toList.isEmpty=(s.data.toList==[]):=by
 rw [ByteArray.toList_eq];cases s.data.toList<;>rfl
theorem validValue_any (k i:Int) (s:ByteArray) (w:World) (hs:s.size≤maxLen):
  Calls prog 121 #[.agg #[.int .i64 k,.int .i64 i,.string s]] w fun e w'=>e=.returned (.bool (validV ⟨k,i,s⟩))∧w.alloc (.cells #[.int .i64 k,.int .i64 i,.string s] 51)=w':=by
 have HS:=hI0 hs
 clear hs
 go_in
 go_wp2_with (go_at_call 183;refine (printable_any _ _ HS.out).mono ?_;rintro e w' ⟨rfl,rfl⟩)
 all_goals go_ret
 all_goals refine ⟨ret_bool ?_,by first|rfl|(simp_all;done)⟩
 all_goals clear HS
 all_goals simp only [beq_iff_eq,beq_eq_false_iff_ne] at *
 all_goals simp_all [validV,isEmpty_beq]
 all_goals first|omega|(simp_all [ByteArray.toList_eq];done)
end
section
open Go.RowKit Go.Lib
def validP (f t:Int):Bool:=decide (0≤f)&&decide (f<t)&&decide (t≤1099511627776)
theorem periodValid_any (f t:Int) (w:World):
  Calls prog 161 #[.agg #[.int .i64 f,.int .i64 t]] w fun e w'=>e=.returned (.bool (validP f t))∧w.alloc (.cells #[.int .i64 f,.int .i64 t] 54)=w':=by
 go_in
 go_wp2
 all_goals go_ret
 all_goals refine ⟨ret_bool ?_,by first|rfl|(simp_all;done)⟩
 all_goals simp_all [validP]
 all_goals omega
theorem putPeriod_any (v:Value) (l:List UInt8) (f t:Int) (w:World) (f1: -9223372036854775808≤f) (f2:f≤9223372036854775807) (t1: -9223372036854775808≤t) (t2:t≤9223372036854775807)
  (hv:RdB w (ltw w) v l) (hl:l.length≤140737488354000):
  Calls prog 180 #[v,.agg #[.int .i64 f,.int .i64 t]] w (NewB w (l++(encI f++encI t))):=by
 obtain ⟨A,c,rfl,hc1,hc2,hA⟩:=hv.view
 have e1:=encI_length f
 go_in
 go_wp2_with fail
 have hA':=hA.box (.cells #[.int .i64 f,.int .i64 t] 54)
 have HA:=hI0 hA'
 clear hA' hA
 go_region_held3 (fun w'=>w'.cell? ⟨w.heap.size,0,none⟩=some (.int .i64 f)∧w'.cell? ⟨w.heap.size,1,none⟩=some (.int .i64 t))
  (first|go_keep|(go_split_ands;constructor<;>(refine (hg2.below.cell ?_).trans ?_<;>first|assumption|(simp;done)))|(go_split_ands;constructor<;>(refine (hg1.below.cell ?_).trans ?_<;>first|assumption|(simp;done))))
  (first
   |(go_at_call 169;((with_reducible refine (grow_any A _ c _ hc1).mono ?_));rintro e w' ⟨rfl,rfl⟩)
   |(go_at_call 168;((with_reducible refine (put_any (w.heap.size+1) (.slice A l.length l.length) l f _ f1 f2 ?_ ?_ ?_).mono ?_));exact HA.out;simp;omega;rintro e w1 ⟨v1,rfl,ho1,hg1⟩)
   |(go_at_call 168;((with_reducible refine (put_any (w.heap.size+1) v1 (l++encI f) t _ t1 t2 ?_ ?_ ?_).mono ?_));exact ho1.app;(have:=hg1.size;simp at this;omega);(simp;omega);rintro e w2 ⟨v2,rfl,ho2,hg2⟩))
 go_wp2
 go_ret
 exact ⟨v2,rfl,by rw [←List.append_assoc];exact own_baseC ho2 (Nat.le_succ _),(Below.of_alloc (w:=w) (.cells #[.int .i64 f,.int .i64 t] 54)).drew.trans ((hg1.below.trans hg2.below).mono (Nat.le_succ _))⟩
end
section
open Go.RowKit Go.Lib
theorem and1_i64 (i:Int):bits .and .i64 i 1=i % 2:=by
 show IntKind.i64.wrap ((BitVec.ofInt 64 i &&& BitVec.ofInt 64 1).toNat:Int)=_
 rw [BitVec.toNat_and,BitVec.toNat_ofInt]
 have e:(BitVec.ofInt 64 1).toNat=1:=by decide
 rw [e,Nat.and_one_is_mod,wrap_i64]
 omega
theorem and_byte (i:Int):wrap64 (3+bits .and .i64 i 1) % 256=((UInt8.ofNat (3+i % 2).toNat).toNat:Int):=by
 rw [and1_i64,wrap64_id (by omega) (by omega),←byte_of (by omega)]
 omega
theorem newB_one {w w1:World} {v1:Value} {l:List UInt8} {x:UInt8} {y:Int} {o o':Obj} {p:Prop} (hy:y=(x.toNat:Int)) (hO:0<1∨p→w1.ownsRow (w.heap.size+1) 5 1 v1 (l.length+1) (bv l++[.int .u8 y]))
  (hb:Below (w.heap.size+1) ((w.alloc o).alloc o') w1):NewB w (l++[x]) (.returned v1) w1:=by
 subst hy
 refine ⟨v1,rfl,?_,(Below.of_alloc o).trans ((((Below.refl _ _).alloc (by simp) _).trans hb).mono (Nat.le_succ _))⟩
 exact ownB_of (l:=l) (m:=[x]) (own_baseC (hO (.inl (by omega))) (Nat.le_succ _))
def encV (x:Val):List UInt8:=
 if x.kind=1 then 1::encI x.int
 else if x.kind=2 then 2::(encI x.text.size++x.text.data.toList)
 else if x.kind=3 then [UInt8.ofNat (3+x.int % 2).toNat]
 else [0]
theorem putValue_int (v:Value) (l:List UInt8) (i:Int) (s:ByteArray) (w:World) (i1: -9223372036854775808≤i) (i2:i≤9223372036854775807)
  (hv:RdB w (ltw w) v l) (hl:l.length≤140737488354000):
  Calls prog 178 #[v,.agg #[.int .i64 1,.int .i64 i,.string s]] w (NewB w (l++1::encI i)):=by
 obtain ⟨i0,hi,hz0,hz1,hz2⟩:=info_parts infoB
 obtain ⟨A,c,rfl,hc1,hc2,hA⟩:=hv.view
 have hA':=hA.box (.cells #[.int .i64 1,.int .i64 i,.string s] 51)
 have HA:=hI0 hA'
 clear hA' hA
 go_in
 go_wp2_with (go_at_call 169;((with_reducible refine (grow_any A _ c _ hc1).mono ?_));rintro e w' ⟨rfl,rfl⟩)
 go_region_held3 (fun w'=>w'.cell? ⟨w.heap.size,1,none⟩=some (.int .i64 i))
  (first|go_keep|(refine (hg2.below.cell ?_).trans ?_<;>first|assumption|(simp;done))|(refine (hb1.cell ?_).trans ?_<;>first|(simp;done)|(go_keep;done)|assumption))
  (first
   |(refine step_append_app _ (by rfl) (.tmp 11) (.tmp 12) 57 (by rfl) (w.heap.size+1) 5 i0 _ 1 1 underlying57 hi hz0 hz1 hz2 rfl (by omega) (.slice A l.length l.length) l.length (bv l) (by rfl) (by exact (App.alloc HA.out (by simp) _).drew) (·=w.heap.size+1) _ 1 [.int .u8 1] (by rfl) (by exact (Rd.new' _ (w.heap.size+1) (by simp) [.int .u8 1] 5 1 1 rfl (by decide)).drew) (one_one rfl) zi9 (by omega) (by simp) ?_;intro v1 w1 hA1 hO1 hg1 hb1 ha1)
   |(go_at_call 168;((with_reducible refine (put_any (w.heap.size+1) v1 (l++[1]) i _ i1 i2 ?_ ?_ ?_).mono ?_));(exact appB_of (m:=[1]) hA1);(have:=hb1.size;simp at this;omega);(simp;omega);rintro e w2 ⟨v2,rfl,ho2,hg2⟩))
 go_wp2
 go_ret
 refine ⟨v2,rfl,?_,(Below.of_alloc (w:=w) (.cells #[.int .i64 1,.int .i64 i,.string s] 51)).trans (((((Below.refl _ _).alloc (by simp) _).drew.trans hb1).trans hg2.below).mono (Nat.le_succ _))⟩
 have:=own_baseC ho2 (Nat.le_succ _)
 simpa [OwnB] using this
theorem putValue_text (v:Value) (l:List UInt8) (i:Int) (s:ByteArray) (w:World)
  (hv:RdB w (ltw w) v l) (hl:l.length+s.size≤140737488354000):
  Calls prog 178 #[v,.agg #[.int .i64 2,.int .i64 i,.string s]] w (NewB w (l++2::(encI s.size++s.data.toList))):=by
 obtain ⟨i0,hi,hz0,hz1,hz2⟩:=info_parts infoB
 obtain ⟨A,c,rfl,hc1,hc2,hA⟩:=hv.view
 have hA':=hA.box (.cells #[.int .i64 2,.int .i64 i,.string s] 51)
 have HA:=hI0 hA'
 clear hA' hA
 have hlen:=encI_length s.size
 go_in
 go_wp2_with (go_at_call 169;((with_reducible refine (grow_any A _ c _ hc1).mono ?_));rintro e w' ⟨rfl,rfl⟩)
 go_region_held3 (fun w'=>w'.cell? ⟨w.heap.size,2,none⟩=some (.string s))
  (first|go_keep|(refine (grown_cell hg3 ?_ ?_).trans ?_<;>first|assumption|(have:=hg2.size;have:=hb1.size;simp at *;omega)|(exact own_ne ho2 (by simp)))|(refine (hg2.below.cell ?_).trans ?_<;>first|assumption|(simp;done))|(refine (hb1.cell ?_).trans ?_<;>first|(simp;done)|(go_keep;done)|assumption))
  (first
   |(refine step_append_app _ (by rfl) (.tmp 19) (.tmp 20) 57 (by rfl) (w.heap.size+1) 5 i0 _ 1 1 underlying57 hi hz0 hz1 hz2 rfl (by omega) (.slice A l.length l.length) l.length (bv l) (by rfl) (by exact (App.alloc HA.out (by simp) _).drew) (·=w.heap.size+1) _ 1 [.int .u8 2] (by rfl) (by exact (Rd.new' _ (w.heap.size+1) (by simp) [.int .u8 2] 5 1 1 rfl (by decide)).drew) (one_one rfl) zi9 (by omega) (by simp) ?_;intro v1 w1 hA1 hO1 hg1 hb1 ha1)
   |(go_at_call 168;((with_reducible refine (put_any (w.heap.size+1) v1 (l++[2]) s.size _ ?_ ?_ ?_ ?_ ?_).mono ?_));omega;omega;(exact appB_of (m:=[2]) hA1);(have:=hb1.size;simp at this;omega);(simp;omega);rintro e w2 ⟨v2,rfl,ho2,hg2⟩)
   |(refine step_append_str _ (by rfl) (.tmp 25) (.tmp 27) 57 9 (by rfl) (w.heap.size+1) 5 i0 underlying57 underlying9 hi hz0 hz1 hz2 v2 _ _ (by rfl) ho2 s (by rfl) (by simp only [maxLen,List.length_append,List.length_cons,List.length_nil];omega) (by simp only [List.length_append,List.length_cons,List.length_nil];omega) (by have:=hg2.size;have:=hb1.size;simp at *;omega) ?_;intro v3 w3 ho3 hg3))
 go_wp2
 go_ret
 have hs1:w.heap.size+1≤w2.heap.size:=by have:=hg2.size;have:=hb1.size;simp at *;omega
 refine ⟨v3,rfl,?_,(Below.of_alloc (w:=w) (.cells #[.int .i64 2,.int .i64 i,.string s] 51)).trans ((((((Below.refl _ _).alloc (by simp) _).drew.trans hb1).trans hg2.below).grown hg3 hs1 fun k hk=>(ho2.lt k hk).1).mono (Nat.le_succ _))⟩
 have h4:=ownB_of (l:=(l++[2])++encI s.size) (m:=s.data.toList) (by rw [str_len];exact own_baseC ho3 (Nat.le_succ w.heap.size))
 simpa [OwnB] using h4
theorem putValue_bool (v:Value) (l:List UInt8) (i:Int) (s:ByteArray) (w:World)
  (hv:RdB w (ltw w) v l) (hl:l.length≤140737488354000):
  Calls prog 178 #[v,.agg #[.int .i64 3,.int .i64 i,.string s]] w (NewB w (l++[UInt8.ofNat (3+i % 2).toNat])):=by
 exact zq8 1
theorem putValue_else (v:Value) (l:List UInt8) (k i:Int) (s:ByteArray) (w:World) (k1:k≠1) (k2:k≠2) (k3:k≠3)
  (hv:RdB w (ltw w) v l) (hl:l.length≤140737488354000):
  Calls prog 178 #[v,.agg #[.int .i64 k,.int .i64 i,.string s]] w (NewB w (l++[0])):=by
 exact zq8 0
theorem putValue_any (v:Value) (l:List UInt8) (x:Val) (w:World) (i1: -9223372036854775808≤x.int) (i2:x.int≤9223372036854775807)
  (hv:RdB w (ltw w) v l) (hl:l.length+x.text.size≤140737488354000):
  Calls prog 178 #[v,.agg #[.int .i64 x.kind,.int .i64 x.int,.string x.text]] w (NewB w (l++encV x)):=by
 obtain ⟨k,i,s⟩:=x
 simp only at i1 i2 hl
 unfold encV
 by_cases k1:k=1
 ·subst k1;simp only [if_true];exact putValue_int v l i s w i1 i2 hv (by omega)
 ·by_cases k2:k=2
  ·subst k2;simp only [if_neg k1,if_true];exact putValue_text v l i s w hv (by omega)
  ·by_cases k3:k=3
   ·subst k3;simp only [if_neg k1,if_neg k2,if_true];exact putValue_bool v l i s w hv (by omega)
   ·simp only [if_neg k1,if_neg k2,if_neg k3];exact putValue_else v l k i s w k1 k2 k3 hv (by omega)
end
section
open Go.RowKit Go.Lib
def cv (xs:List Val):List Value:=xs.flatMap Val.cells
theorem cv_get {xs:List Val} {k j:Nat} (hk:k<xs.length) (hj:j<3):(cv xs)[k*3+j]? =(xs[k].cells)[j]? :=by
 induction xs generalizing k with
 |nil=>simp at hk
 |cons x xs ih=>
  rw [cv,List.flatMap_cons]
  have hl:x.cells.length=3:=rfl
  cases k with
  |zero=>rw [List.getElem?_append_left (by omega)];simp
  |succ k=>
   rw [List.getElem?_append_right (by omega),hl,show (k+1)*3+j-3=k*3+j by omega]
   exact ih (by simpa using hk)
def RdV (w:World) (F:Nat→Prop) (v:Value) (xs:List Val):Prop:=Rd w F 3 v xs.length (cv xs)
theorem RdV.at_ {w:World} {F:Nat→Prop} {A:Option Addr} {c:Nat} {xs:List Val} (h:RdV w F (.slice A xs.length c) xs) {k:Nat} (hk:k<xs.length):
  ∃b off,A=some ⟨b,off,none⟩∧F b∧w.cell? ⟨b,off+k*3,none⟩=some (.int .i64 xs[k].kind)∧w.cell? ⟨b,off+k*3+1,none⟩=some (.int .i64 xs[k].int)∧w.cell? ⟨b,off+k*3+2,none⟩=some (.string xs[k].text):=by
 obtain ⟨b,off,rfl,hF,hc⟩:=Rd.plain h (by omega) (by omega)
 exact ⟨b,off,rfl,hF,hc (k*3) _ (by have:=cv_get hk (j:=0) (by omega);simpa [Val.cells] using this),hc (k*3+1) _ (by rw [cv_get hk (by omega)];rfl),hc (k*3+2) _ (by rw [cv_get hk (by omega)];rfl)⟩
end
section
open Go.RowKit Go.Lib
theorem below1 {w:World} (a:Obj):Bl w (w.alloc a):=Below.of_alloc a
end
section
open Go.RowKit Go.Lib
def zeroV:Val:=⟨0,0,⟨#[]⟩⟩
end
section
open Go.RowKit Go.Lib
def encVs (xs:List Val):List UInt8:=xs.flatMap encV
def encR (xs:List Val):List UInt8:=encI xs.length++encVs xs
theorem encVs_snoc {xs:List Val} {k:Nat} (hk:k<xs.length):encVs (xs.take (k+1))=encVs (xs.take k)++encV xs[k]:=by
 unfold encVs
 rw [List.take_succ_eq_append_getElem hk,List.flatMap_append,List.flatMap_singleton]
theorem encVs_le (xs:List Val) (k:Nat):(encVs (xs.take k)).length≤(encVs xs).length:=by
 have h:encVs xs=encVs (xs.take k)++encVs (xs.drop k):=by unfold encVs;rw [←List.flatMap_append,List.take_append_drop]
 rw [h,List.length_append]
 omega
def putV (x:Val):Prop:= -9223372036854775808≤x.int∧x.int≤9223372036854775807∧x.text.size≤200∧(x.kind=3→x.int=0∨x.int=1)
def RowRel (w0:World) (l:List UInt8) (xs:List Val) (b i:Value) (w:World):Prop:=
 ∃k:Nat,k≤xs.length∧i=.int .i64 k∧OwnB w w0.heap.size b (l++encI xs.length++encVs (xs.take k))∧Bl w0 w
theorem putRow_any (v u:Value) (l:List UInt8) (xs:List Val) (w:World) (hv:RdB w (ltw w) v l) (hu:RdV w (ltw w) u xs) (hok:∀x∈xs,putV x)
  (hl:l.length+(encR xs).length+200≤140737488354000):
  Calls prog 179 #[v,u] w (NewB w (l++encR xs)):=by
 obtain ⟨A,c,rfl,hc1,hc2,hc3⟩:=hu.open_
 unfold maxLen at hc2
 have HO:=hI0 hok
 clear hok
 have hen:=encI_length xs.length
 have hl2:l.length+(encI xs.length).length+(encVs xs).length+200≤140737488354000:=by unfold encR at hl;rw [List.length_append] at hl;omega
 clear hl
 obtain ⟨A',c',rfl,hc1',hc2',hA⟩:=hv.view
 go_in
 go_wp2_with fail
 (with_reducible refine (grow_any A' _ c' _ hc1').mono ?_)
 rintro e w' ⟨rfl,rfl⟩
 go_wp2_with fail
 (with_reducible refine (put_any w.heap.size _ l xs.length _ ?_ ?_ hA (Nat.le_refl _) ?_).mono ?_)
 ·omega
 ·omega
 ·omega
 rintro e w1 ⟨v1,rfl,ho1,hg1⟩
 have hb1:=hg1.below
 clear hg1
 go_wp2_with fail
 go_loopw [0,14] (fun b i wr=>RowRel w l xs b i wr) (fun _ i _=>xs.length-(intOf i).toNat)
 case atStart=>exact ⟨0,Nat.zero_le _,rfl,by simpa [encVs] using ho1,hb1⟩
 obtain ⟨k,hk,rfl,hO,hB⟩:=hrel
 obtain ⟨wo,rfl⟩:=eN0 wr
 by_cases hlt:k<xs.length
 ·obtain ⟨bb,off,rfl,hF,g0,g1,g2⟩:=RdV.at_ (Rd.below hu hB) hlt
  have hx:=HO.out xs[k] (List.getElem_mem hlt)
  have hle:=encVs_le xs k
  have hend:∀v' w',OwnB w' w.heap.size v' (l++encI xs.length++encVs (xs.take k)++encV xs[k])→Bl w w'→RowRel w l xs v' (.int .i64 ((k:Int)+1)) w':=fun v' w' h1 h2=>⟨k+1,by omega,by go_num,by rw [encVs_snoc hlt,←List.append_assoc];exact h1,h2⟩
  have HE:=hI0 hend
  clear hend
  generalize xs[k]=x at *
  obtain ⟨kd,n,s⟩:=x
  obtain ⟨x1,x2,x3,x4⟩:=hx
  simp only at g0 g1 g2 x1 x2 x3 x4
  have hll:(l++encI xs.length++encVs (xs.take k)).length+s.size≤140737488354000:=by simp only [List.length_append];omega
  generalize l++encI xs.length++encVs (xs.take k)=m at *
  have hsz:=hB.size
  go_wp2_with fail
  (with_reducible refine (putValue_any u0 m ⟨kd,n,s⟩ _ x1 x2 ?_ ?_).mono ?_)
  ·exact (hO.rd).below (below1 _)
  ·exact hll
  rintro e w2 ⟨v2,rfl,ho2,hb2⟩
  have hB2:Bl w w2:=(hB.alloc hsz _).trans (hb2.mono (by simp;omega))
  go_wp2_with fail
  go_roundw
  case rel=>exact HE.out v2 w2 (own_baseC ho2 (by simp;omega)) hB2
  case measure=>simp [intOf];omega
 ·go_wp2
  go_ret
  have hke:k=xs.length:=by omega
  subst hke
  rw [List.take_length,List.append_assoc] at hO
  exact ⟨_,rfl,hO,hB⟩
end
section
open Go.RowKit Go.Lib
theorem RdV.below {w w':World} {v:Value} {xs:List Val} (h:RdV w (ltw w) v xs) (hb:Bl w w'):RdV w' (ltw w') v xs:=Rd.below' h hb
end
section
open Go.RowKit Go.Lib
def goV (x:Val):Prop:= -9223372036854775808≤x.int∧x.int≤9223372036854775807∧x.text.size≤maxLen
def AllRel (w0:World) (xs:List Val) (i:Value) (w:World):Prop:=
 ∃k:Nat,k≤xs.length∧i=.int .i64 k∧(xs.take k).all validV=true∧Bl w0 w
theorem all_snoc {xs:List Val} {k:Nat} (hk:k<xs.length):(xs.take (k+1)).all validV=((xs.take k).all validV&&validV xs[k]):=by
 rw [List.take_succ_eq_append_getElem hk,List.all_append];simp
theorem all_no {xs:List Val} {k:Nat} (hk:k<xs.length) (h:validV xs[k]=false):xs.all validV=false:=by
 rw [←Bool.not_eq_true,List.all_eq_true]
 intro hh
 have:=hh xs[k] (List.getElem_mem hk)
 rw [h] at this
 cases this
def SameRel (w0:World) (n:Nat) (i:Value) (w:World):Prop:=∃k:Nat,k≤n∧i=.int .i64 k∧Bl w0 w
end
end Go.Proofs.YtgfhknnklapldaaGreatDoor
