/-
 DuK
-/
import Derived.Test.YtgfhknnklapldaaGreatDoorPDuE
import Derived.Test.YtgfhknnklapldaaGreatDoorPCodec
import Derived.Test.YtgfhknnklapldaaGreatDoorPSeg1
namespace Go.Proofs.YtgfhknnklapldaaGreatDoor
open Go.Proofs.Tryz
set_option maxRecDepth 99999
set_option maxHeartbeats 0
open Go.RowKit Go.Lib Go.IntWalk Go.Sort Go.Shelf
theorem strB_appD (a b:List UInt8):strB a++strB b=strB (a++b):=by
 apply ByteArray.ext
 rw [ByteArray.data_append]
 simp [strB]
theorem bas_app (a b:ByteArray):(a++b).size=a.size+b.size:=by
 show (a++b).data.size=_
 rw [ByteArray.data_append,Array.size_append];rfl
theorem bas_mk (a:Array UInt8):(⟨a⟩:ByteArray).size=a.size:=rfl
theorem bas_eq {a b:ByteArray} (h:a.data.toList=b.data.toList):a=b:=by
 apply ByteArray.ext
 exact Array.toList_inj.1 h
theorem bas_l (a b:ByteArray):(a++b).data.toList=a.data.toList++b.data.toList:=by
 rw [ByteArray.data_append,Array.toList_append]
theorem bas_s (l:List UInt8):(strB l).data.toList=l:=by simp [strB]
theorem bas_m (a:Array UInt8):(⟨a⟩:ByteArray).data.toList=a.toList:=rfl
theorem exec_cat {ρ:Operand→Value} {o:Oper} {x y:Operand} {a b:ByteArray} {w:World} (ho:o.op=.binOp .add 9 x y 9) (hx:ρ x=.string a) (hy:ρ y=.string b) (h:a.size+b.size≤9223372036854775807):(execOp ρ o).run prog w=.ok (.value (.string (a++b))) w:=by
 unfold execOp
 have hn:¬ 9223372036854775807<a.size+b.size:=by omega
 simp only [ho,hx,hy]
 go_simp
theorem rdB_byteD (w:World) (H:Nat) (hH:w.heap.size=H) (x:UInt8) (y:Int) (hy:y=(x.toNat:Int)):RdB (w.alloc (.cells #[.int .u8 y] 5)) (·=H) (.slice (some ⟨H,0,none⟩) 1 1) [x]:=by
 subst hy
 exact rdB_new w H hH [x] 1 rfl (by omega)
theorem valid_size {x:Val} (hv:validV x=true):x.text.size≤1000:=by
 unfold validV at hv
 have e:=str_len x.text
 split at hv
 ·simp at hv;rw [hv.2] at e;simp at e;omega
 ·split at hv
  ·simp at hv;rw [hv.2] at e;simp at e;omega
  ·split at hv
   ·simp at hv;omega
   ·split at hv
    ·simp at hv;rw [hv.2] at e;simp at e;omega
    ·cases hv
theorem valid_kind {x:Val} (hv:validV x=true):x.kind=0∨x.kind=1∨x.kind=2∨x.kind=3:=by
 unfold validV at hv
 split at hv
 ·rename_i h;exact .inl h
 ·split at hv
  ·rename_i h;exact .inr (.inl h)
  ·split at hv
   ·rename_i h;exact .inr (.inr (.inl h))
   ·split at hv
    ·rename_i h;exact .inr (.inr (.inr h))
    ·cases hv
theorem rdigits_any:∀(n:Nat) (w:World),n<18446744073709551616→Calls prog 127 #[.int .u64 (n:Int)] w fun e w'=>e=.returned (.string (strB (decDigits n)))∧Bl w w':=by
 intro n
 induction n using Nat.strongRecOn with
 |_ n ih=>
 intro w hn
 have hm1:((n:Int).tmod 10)=(n:Int) % 10:=by rw [Int.tmod_eq_emod_of_nonneg (by omega)]
 have hm2:((n:Int).tdiv 10)=(n:Int) / 10:=by rw [Int.tdiv_eq_ediv_of_nonneg (by omega)]
 obtain ⟨ch,hch⟩:=eN0 (UInt8.ofNat (48+n % 10):UInt8)
 have hdg:(ch.toNat:Int)=48+(n:Int) % 10:=by rw [hch,UInt8.toNat_ofNat'];omega
 have hcv:=run_bytes_str (w:=w.alloc (.cells #[.int .u8 (48+(n:Int) % 10)] 5)) (rdB_byteD w w.heap.size rfl ch _ hdg.symm)
 have hs1:(strB [ch]).size=1:=strB_size _
 have hb:Bl w (w.alloc (.cells #[.int .u8 (48+(n:Int) % 10)] 5)):=Below.of_alloc _
 by_cases h:n<10
 ·have HD:Hid (decDigits n=[ch]):=hI0 (by rw [decDigits_one h,hch,Nat.mod_eq_of_lt h])
  have hlt:(n:Int)<10:=by omega
  have HB:=hI0 hb
  clear ih hdg h hb hch
  go_in
  go_wp2_with fail
  go_ret
  exact ⟨by rw [HD.out];rfl,HB.out⟩
 ·have HD:Hid (decDigits n=decDigits (n / 10)++[ch]):=hI0 (by rw [decDigits,dif_neg h,hch])
  have hlt:¬(n:Int)<10:=by omega
  have hdv:(n:Int) / 10=((n / 10:Nat):Int):=by omega
  have KR:=hI0 (ih (n / 10) (by omega) (w.alloc (.cells #[.int .u8 (48+(n:Int) % 10)] 5)) (by omega))
  have hl2:=decDigits_length (n / 10)
  have hl3:=nDigits_le20 (n / 10) (by omega)
  have hs2:(strB (decDigits (n / 10))).size≤20:=by rw [strB_size];omega
  have HB:=hI0 hb
  have HDV:=hI0 hdv
  clear ih hdg h hb hl2 hl3 hdv hch
  go_in
  go_wp2_with fail
  rw [HDV.out]
  (with_reducible refine KR.out.mono ?_)
  rintro _ w1 ⟨rfl,hb1⟩
  go_wp2_with fail
  go_ret
  exact ⟨by rw [HD.out,←strB_appD];rfl,bU0 HB hb1⟩
theorem rnum_any (n:Int) (w:World) (h1: -9223372036854775808≤n) (h2:n≤9223372036854775807):Calls prog 84 #[.int .i64 n] w fun e w'=>e=.returned (.string (strB (itoa n)))∧Bl w w':=by
 by_cases h:n<0
 ·obtain ⟨q,rfl⟩:∃q:Nat,n= -((q:Int)+1):=⟨(-n-1).toNat,by omega⟩
  have KR:=hI0 (rdigits_any (q+1) w (by omega))
  rw [Int.natCast_add,show ((1:Nat):Int)=1 from rfl] at KR
  have HI:Hid (itoa (-((q:Int)+1))=[45]++decDigits (q+1)):=hI0 (by
   have:=itoa_neg (q+1) (by omega)
   rw [Int.natCast_add] at this
   exact this)
  have hl2:=decDigits_length (q+1)
  have hl3:=nDigits_le20 (q+1) (by omega)
  have hs2:(strB (decDigits (q+1))).size≤20:=by rw [strB_size];omega
  have k1: -((q:Int)+1)+1= -(q:Int):=by omega
  clear hl2 hl3
  go_in
  go_wp2_with fail
  (with_reducible refine KR.out.mono ?_)
  rintro _ w1 ⟨rfl,hb1⟩
  go_wp2_with fail
  go_ret
  exact ⟨by rw [HI.out,←strB_appD];rfl,hb1⟩
 ·obtain ⟨q,rfl⟩:=Int.eq_ofNat_of_zero_le (show 0≤n by omega)
  have KR:=hI0 (rdigits_any q w (by omega))
  have HI:Hid (itoa (q:Int)=decDigits q):=hI0 (itoa_nonneg q)
  go_in
  go_wp2_with fail
  (with_reducible refine KR.out.mono ?_)
  rintro _ w1 ⟨rfl,hb1⟩
  go_wp2_with fail
  go_ret
  exact ⟨by rw [HI.out];rfl,hb1⟩
theorem qB_step (c:UInt8) (l:List UInt8):qB (l++[c])=qB l++(if c=39 then [39,39] else [c]):=by
 unfold qB
 rw [List.flatMap_append,List.flatMap_singleton]
theorem rquote_any (S:ByteArray) (w:World) (hS:S.size≤1000):Calls prog 86 #[.string S] w fun e w'=>e=.returned (.string (strB (qS S)))∧Bl w w':=by
 obtain ⟨s,rfl⟩:∃s,S=strB s:=⟨S.data.toList,(strB_list S).symm⟩
 have hsz:=strB_size s
 have HIX:=hI0 (run_index_str (strB s) s rfl)
 have HQ:Hid (qS (strB s)=[39]++qB s++[39]):=hI0 (by unfold qS quoteB;rw [bas_s];rfl)
 generalize strB s=S at *
 go_in
 go_wp2_with fail
 go_loopw [3,4] (fun o i wr=>∃k:Nat,o=.string (strB ([39]++qB (s.take k)))∧i=.int .i64 (k:Int)∧k≤s.length∧Hid (Bl w wr)) (fun _ i _=>s.length-(intOf i).toNat)
 case atStart=>exact ⟨0,rfl,rfl,Nat.zero_le _,hI0 (Below.refl _ _)⟩
 obtain ⟨k,rfl,rfl,hk,HBr⟩:=hrel
 obtain ⟨wi,rfl⟩:=eN0 wr
 have ho:(strB ([39]++qB (s.take k))).size≤3000:=by
  rw [strB_size,List.length_append,qB_len]
  have h1:(s.take k).count 39≤(s.take k).length:=List.count_le_length
  rw [List.length_take] at h1 ⊢
  simp only [List.length_cons,List.length_nil]
  omega
 by_cases hlt:k<s.length
 case neg=>
  have hke:k=s.length:=by omega
  have q0:¬(k:Int)<(S.size:Int):=by omega
  have HF:Hid (strB ([39]++qB (s.take k))++⟨#[39]⟩=strB (qS S)):=hI0 (by rw [hke,List.take_length,HQ.out,←strB_appD];rfl)
  generalize strB ([39]++qB (s.take k))=o at *
  go_wp2_with fail
  go_ret
  exact ⟨by rw [←HF.out];rfl,HBr.out⟩
 have hix:=HIX.out k hlt
 have q0:(k:Int)<(S.size:Int):=by omega
 have HT:Hid (qB (s.take (k+1))=qB (s.take k)++(if s[k]=39 then [39,39] else [s[k]])):=hI0 (by rw [List.take_succ_eq_append_getElem hlt];exact qB_step _ _)
 generalize s[k]=ch at *
 have hc256:=ch.toNat_lt
 have hcv:=run_bytes_str (w:=wi.alloc (.cells #[.int .u8 (ch.toNat:Int)] 5)) (rdB_byteD wi wi.heap.size rfl ch _ rfl)
 have hs1:(strB [ch]).size=1:=strB_size _
 by_cases hc:ch=39
 case pos=>
  have e1:((ch.toNat:Int)==(39:Int))=true:=by rw [hc];rfl
  have hcv:=run_bytes_str (w:=wi.alloc (.cells #[.int .u8 39] 5)) (rdB_byteD wi wi.heap.size rfl ch 39 (by rw [hc];rfl))
  have e2:(ch.toNat:Int)=39:=by rw [hc];rfl
  have HR:Hid (strB ([39]++qB (s.take (k+1)))=strB ([39]++qB (s.take k))++⟨#[39]⟩++strB [ch]):=hI0 (by
   apply bas_eq
   simp only [bas_l,bas_s,HT.out]
   rw [if_pos hc,hc]
   simp)
  generalize strB ([39]++qB (s.take k))=o at *
  generalize strB [ch]=c1 at *
  clear hc
  go_wp2_with fail
  go_roundw
  case rel=>exact ⟨k+1,by rw [HR.out],by go_num,by omega,hI0 (HBr.out.trans ((Below.of_alloc _).mono HBr.out.size))⟩
  case measure=>simp [intOf];omega
 have e0:¬(ch.toNat:Int)=39:=fun h=>hc (by apply UInt8.toNat_inj.1;show ch.toNat=39;omega)
 have e1:((ch.toNat:Int)==(39:Int))=false:=by simp;omega
 have HR:Hid (strB ([39]++qB (s.take (k+1)))=strB ([39]++qB (s.take k))++strB [ch]):=hI0 (by
  apply bas_eq
  simp only [bas_l,bas_s,HT.out]
  rw [if_neg hc]
  simp)
 generalize strB ([39]++qB (s.take k))=o at *
 generalize strB [ch]=c1 at *
 clear hc
 go_wp2_with fail
 go_roundw
 case rel=>exact ⟨k+1,by rw [HR.out],by go_num,by omega,hI0 (HBr.out.trans ((Below.of_alloc _).mono HBr.out.size))⟩
 case measure=>simp [intOf];omega
theorem rflag_any (b:Bool) (w:World):Calls prog 193 #[.bool b] w fun e w'=>e=.returned (.string (strB (flagB b)))∧Bl w w':=by
 cases b
 ·go_in
  go_wp2_with fail
  go_ret
  exact ⟨rfl,Below.refl _ _⟩
 ·go_in
  go_wp2_with fail
  go_ret
  exact ⟨rfl,Below.refl _ _⟩
theorem rvalue_any (x:Val) (w:World) (hv:validV x=true):Calls prog 129 #[.agg x.cells.toArray] w fun e w'=>e=.returned (.string (strB (valB x)))∧Bl w w':=by
 have hi:=valid_int hv
 have hs:=valid_size hv
 have hk:=valid_kind hv
 obtain ⟨k,i,s⟩:=x
 simp only at hi hs hk
 show Calls prog 129 #[.agg #[.int .i64 k,.int .i64 i,.string s]] w _
 have HB:Hid (Bl w (w.alloc (.cells #[.int .i64 k,.int .i64 i,.string s] 51))):=hI0 (Below.of_alloc _)
 clear hv
 rcases hk with rfl|rfl|rfl|rfl
 ·go_in
  go_wp2_with fail
  go_ret
  exact ⟨rfl,HB.out⟩
 ·go_in
  go_wp2_with fail
  (with_reducible refine (rnum_any i _ (by omega) (by omega)).mono ?_)
  rintro _ w1 ⟨rfl,hb1⟩
  go_wp2_with fail
  go_ret
  exact ⟨rfl,bU0 HB hb1⟩
 ·go_in
  go_wp2_with fail
  (with_reducible refine (rquote_any s _ (by omega)).mono ?_)
  rintro _ w1 ⟨rfl,hb1⟩
  go_wp2_with fail
  go_ret
  exact ⟨rfl,bU0 HB hb1⟩
 ·by_cases h1:i=1
  ·subst h1
   go_in
   go_wp2_with fail
   go_ret
   exact ⟨rfl,HB.out⟩
  ·have HN:Hid (valB ⟨3,i,s⟩=[70,65,76,83,69]):=hI0 (by unfold valB litB;simp [h1])
   go_in
   go_wp2_with fail
   go_ret
   exact ⟨by rw [HN.out];rfl,HB.out⟩
end Go.Proofs.YtgfhknnklapldaaGreatDoor
