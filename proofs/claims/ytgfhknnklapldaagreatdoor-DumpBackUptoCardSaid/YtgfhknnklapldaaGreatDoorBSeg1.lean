/-
 Seg1
-/
import Derived.Test.YtgfhknnklapldaaGreatDoorBVer
import Derived.Test.YtgfhknnklapldaaGreatDoorBFrame
import Derived.Deep.Cut
namespace Go.Proofs.YtgfhknnklapldaaGreatDoor
open Go.Proofs.Tryz
set_option maxRecDepth 99999
set_option maxHeartbeats 0
theorem zq18 {P:Prop} (i:Nat) (h:Tg i→P:=by
 intro zT18
 first
  |guard_hyp zT18:Tg 2;have f95:((ch.toNat:Int)=95):=by omega
   have e95:((ch.toNat:Int)==(95:Int))=true:=by simp;omega
   have a97:¬((97:Int)≤(ch.toNat:Int)):=by omega
   have b97:((ch.toNat:Int)<97):=by omega
  |have f95:¬((ch.toNat:Int)=95):=by omega
   have e95:((ch.toNat:Int)==(95:Int))=false:=by simp;omega
   first
    |guard_hyp zT18:Tg 1;have a97:((97:Int)≤(ch.toNat:Int)):=by omega
     have b97:¬((ch.toNat:Int)<97):=by omega
    |have a97:¬((97:Int)≤(ch.toNat:Int)):=by omega
     have b97:((ch.toNat:Int)<97):=by omega
 have a48:((48:Int)≤(ch.toNat:Int)):=by omega
 have b48:¬((ch.toNat:Int)<48):=by omega
 have a122:((ch.toNat:Int)≤122):=by omega
 have b122:¬((122:Int)<(ch.toNat:Int)):=by omega
 first
  |guard_hyp zT18:Tg 0;have a57:((ch.toNat:Int)≤57):=by omega
   have b57:¬((57:Int)<(ch.toNat:Int)):=by omega
  |have a57:¬((ch.toNat:Int)≤57):=by omega
   have b57:((57:Int)<(ch.toNat:Int)):=by omega
 have hch:chW ch=true:=by unfold chW;simp;omega
 have HS2:=hI0 (HS.out hch)
 clear HS HB hch hq
 go_wp2_with fail
 go_round
 case rel=>exact ⟨k+1,by omega,by go_num,HS2.out⟩
 case measure=>simp [intOf];omega) : P := h ⟨⟩
theorem zq19 {P:Prop} (i:Nat) (h:Tg i→P:=by
 intro zT19
 have f95:¬((ch.toNat:Int)=95):=by omega
 have e95:((ch.toNat:Int)==(95:Int))=false:=by simp;omega
 first
  |guard_hyp zT19:Tg 2;have a97:((97:Int)≤(ch.toNat:Int)):=by omega
   have b97:¬((ch.toNat:Int)<97):=by omega
   have a48:((48:Int)≤(ch.toNat:Int)):=by omega
   have b48:¬((ch.toNat:Int)<48):=by omega
   have a122:¬((ch.toNat:Int)≤122):=by omega
   have b122:((122:Int)<(ch.toNat:Int)):=by omega
   have a57:¬((ch.toNat:Int)≤57):=by omega
   have b57:((57:Int)<(ch.toNat:Int)):=by omega
  |have a97:¬((97:Int)≤(ch.toNat:Int)):=by omega
   have b97:((ch.toNat:Int)<97):=by omega
   first
    |guard_hyp zT19:Tg 1;have a48:((48:Int)≤(ch.toNat:Int)):=by omega
     have b48:¬((ch.toNat:Int)<48):=by omega
    |have a48:¬((48:Int)≤(ch.toNat:Int)):=by omega
     have b48:((ch.toNat:Int)<48):=by omega
   have a122:((ch.toNat:Int)≤122):=by omega
   have b122:¬((122:Int)<(ch.toNat:Int)):=by omega
   first
    |guard_hyp zT19:Tg 1;have a57:¬((ch.toNat:Int)≤57):=by omega
     have b57:((57:Int)<(ch.toNat:Int)):=by omega
    |have a57:((ch.toNat:Int)≤57):=by omega
     have b57:¬((57:Int)<(ch.toNat:Int)):=by omega
 have hw:nmW s=false:=HB.out (by unfold chW;simp;omega)
 have HW:=hI0 hw
 clear hw HS HB hq
 go_wp2_with fail
 go_ret
 exact ⟨by rw [HW.out];rfl,hbW⟩) : P := h ⟨⟩
section
open Go.RowKit Go.Lib Go.IntWalk Go.Sort Go.Shelf
def chW (c:UInt8):Bool:=decide ((97≤c.toNat∧c.toNat≤122)∨c.toNat=95∨(48≤c.toNat∧c.toNat≤57))
def digW (s:List UInt8):Bool:=match s with|c::_=>decide (48≤c.toNat∧c.toNat≤57)|[]=>false
def nmW (s:List UInt8):Bool:= !decide (s.length=0)&&decide (s.length≤24)&& !digW s&&s.all chW
theorem nmW_nil:nmW []=false:=rfl
theorem nmW_long {s:List UInt8} (h:24<s.length):nmW s=false:=by
 unfold nmW;rw [show decide (s.length≤24)=false from by simp;omega];simp
theorem nmW_dig {s:List UInt8} (h:digW s=true):nmW s=false:=by unfold nmW;rw [h];simp
theorem nmW_bad {s:List UInt8} {k:Nat} (hk:k<s.length) (h:chW s[k]=false):nmW s=false:=by
 have:s.all chW=false:=by
  rw [List.all_eq_false]
  exact ⟨s[k],List.getElem_mem hk,by rw [h];simp⟩
 unfold nmW;rw [this];simp
theorem nmW_good {s:List UInt8} (h0:¬s.length=0) (h1:s.length≤24) (hd:digW s=false) (h:s.all chW=true):nmW s=true:=by
 unfold nmW;rw [h,hd];simp;exact ⟨by intro e;subst e;simp at h0,h1⟩
theorem allW_snoc {s:List UInt8} {k:Nat} (hk:k<s.length) (h:(s.take k).all chW=true) (hc:chW s[k]=true):(s.take (k+1)).all chW=true:=by
 rw [List.take_succ_eq_append_getElem hk,List.all_append,h]
 simp [hc]
theorem digW_of {s:List UInt8} (h:0<s.length):digW s=decide (48≤(s[0]).toNat∧(s[0]).toNat≤57):=by
 cases s with
 |nil=>simp at h
 |cons c r=>rfl
theorem run_index_str (S:ByteArray) (s:List UInt8) (hS:S=strB s) (k:Nat) (hk:k<s.length) (w:World):(Instr.index 9 (.string S) (.int .i64 (k:Int))).run prog w=.ok (.int .u8 ((s[k]'hk).toNat:Int)) w:=by
 subst hS
 have h:(strB s)[k]? =some s[k]:=by
  have h1:k<(strB s).size:=by rw [strB_size];exact hk
  rw [getElem?_pos (strB s) k h1]
  rfl
 simp [Instr.index,asIntOf,run_underlying underlying9,h]
end
section
open Go.RowKit Go.Lib Go.IntWalk Go.Sort Go.Shelf
theorem slice_vers {A:Option Addr} {n c:Nat} (i j:Nat) (hij:i≤j) (hj:j≤c) (w:World):
  (Instr.slice 35 (.slice A n c) (some (.int .i64 (i:Int))) (some (.int .i64 (j:Int))) none).run prog w=.ok (.slice (cutA A c i 9) (j-i) (c-i)) w:=by
 obtain ⟨i0,hi,hz0,hz1,hz2⟩:=info_parts infoVer
 exact run_slice_lohi (P:=prog) underlying35 hi hz1 A n c i j hij hj w
theorem flat_drop {α:Type} (n:Nat) (f:α→List Value) (hf:∀x,(f x).length=n):∀(i:Nat) (l:List α),(l.flatMap f).drop (i*n)=(l.drop i).flatMap f:=by
 intro i
 induction i with
 |zero=>intro l;simp
 |succ i ih=>
  intro l
  cases l with
  |nil=>simp
  |cons a r=>
   rw [List.flatMap_cons,List.drop_succ_cons,←ih r,Nat.succ_mul,Nat.add_comm,←List.drop_drop]
   congr 1
   rw [←hf a,List.drop_left]
theorem flat_take {α:Type} (n:Nat) (f:α→List Value) (hf:∀x,(f x).length=n):∀(i:Nat) (l:List α),(l.flatMap f).take (i*n)=(l.take i).flatMap f:=by
 intro i
 induction i with
 |zero=>intro l;simp
 |succ i ih=>
  intro l
  cases l with
  |nil=>simp
  |cons a r=>
   rw [List.flatMap_cons,List.take_succ_cons,List.flatMap_cons,←ih r,Nat.succ_mul,Nat.add_comm,List.take_add,←hf a,List.take_left,List.drop_left]
theorem RdVs.cut {w:World} {F:Nat→Prop} {A:Option Addr} {c:Nat} {ps:List VP} (h:RdVs w F (.slice A ps.length c) ps) {i j m:Nat} (hij:i≤j) (hj:j≤ps.length) (hm:j≤m) (hmc:m≤c):
  RdVs w F (.slice (cutA A m i 9) (j-i) (m-i)) ((ps.drop i).take (j-i)):=by
 refine ⟨?_,fun p hp=>h.2 p (List.mem_of_mem_drop (List.mem_of_mem_take hp))⟩
 have h1:=Rd.cut' h.1 (l:=i) (h:=j) (m:=m) hij hj hm hmc
 rw [flat_drop 9 _ (fun p=>p.1.enc_length),flat_take 9 _ (fun p=>p.1.enc_length)] at h1
 have e:((ps.drop i).take (j-i)).length=j-i:=by rw [List.length_take,List.length_drop];omega
 rw [e]
 exact h1
theorem take_one {α:Type} {l:List α} {k:Nat} (hk:k<l.length):(l.drop k).take (k+1-k)=[l[k]]:=by
 rw [Nat.add_sub_cancel_left,List.drop_eq_getElem_cons hk];rfl
theorem take_two {α:Type} {l:List α} {k:Nat} (hk:k+1<l.length):(l.drop k).take (k+2-k)=[l[k],l[k+1]]:=by
 rw [Nat.add_sub_cancel_left,List.drop_eq_getElem_cons (by omega),List.drop_eq_getElem_cons hk];rfl
theorem encVsE_two {p x:Ver} (hp:validVer p=true) (hx:validVer x=true):encVsE [p,x]=9↔ltV p x=false:=by
 have hc:chkFrom none [p,x]=if ltV p x=true then 0 else 9:=by
  rw [chkFrom_cons,if_pos hp,if_pos (show okPrev none p=true from rfl),chkFrom_cons,if_pos hx]
  rfl
 unfold encVsE
 rw [if_neg (by simp),hc]
 by_cases h:ltV p x=true
 ·rw [if_pos h,if_neg (by simp),h]
  split<;>simp
 ·rw [if_neg h,if_pos (by decide)]
  simpa using h
end
section
open Go.RowKit Go.Lib Go.IntWalk Go.Sort Go.Shelf
theorem OwnB.cast {w:World} {base:Nat} {v:Value} {a b:List UInt8} (h:OwnB w base v a) (e:a=b):OwnB w base v b:=e▸h
end
section
open Go.RowKit Go.Lib Go.IntWalk Go.Sort Go.Shelf
theorem sameRow_any (v u:Value) (xs:List Val) (w:World) (hv:RdV w (ltw w) v xs) (hu:RdV w (ltw w) u xs):
  Calls prog 103 #[v,u] w fun e w'=>e=.returned (.bool true)∧Bl w w':=by
 obtain ⟨A,c,rfl,hc1,hc2,hc3⟩:=hv.open_
 obtain ⟨A',c',rfl,hc1',hc2',hc3'⟩:=hu.open_
 unfold maxLen at hc2 hc2'
 go_in
 go_wp2_with fail
 go_loopw [13] (fun i wr=>SameRel w xs.length i wr) (fun i _=>xs.length-(intOf i).toNat)
 case atStart=>exact ⟨0,Nat.zero_le _,rfl,Below.refl _ _⟩
 obtain ⟨k,hk,rfl,hB⟩:=hrel
 obtain ⟨wo,rfl⟩:=eN0 wr
 by_cases hlt:k<xs.length
 ·obtain ⟨b1,o1,rfl,hF1,g0,g1,g2⟩:=RdV.at_ (Rd.below hv hB) hlt
  obtain ⟨b2,o2,rfl,hF2,f0,f1,f2⟩:=RdV.at_ (Rd.below hu hB) hlt
  generalize xs[k]=x at *
  obtain ⟨kd,n,s⟩:=x
  simp only at g0 g1 g2 f0 f1 f2
  have i1:(0:Int)≤(k:Int):=by omega
  have i2:(k:Int)<(xs.length:Int):=by omega
  go_wp2_with fail
  refine wp_region_noPanic ?_
  refine wp_region_held_drew (S:=(fun w'=>w'.cell? ⟨b1,o1+k*3,none⟩=some (.int .i64 kd)∧w'.cell? ⟨b1,o1+k*3+1,none⟩=some (.int .i64 n)∧w'.cell? ⟨b1,o1+k*3+2,none⟩=some (.string s)∧w'.cell? ⟨b2,o2+k*3,none⟩=some (.int .i64 kd)∧w'.cell? ⟨b2,o2+k*3+1,none⟩=some (.int .i64 n)∧w'.cell? ⟨b2,o2+k*3+2,none⟩=some (.string s))) (by kernel_rfl) ?_ (fun zh=>?_)
  ·exact ⟨g0,g1,g2,f0,f1,f2⟩
  refine hT 0 16 ?_
  refine hT 1 17 ?_
  refine hT 2 18 ?_
  refine hT 3 19 ?_
  refine hT 4 20 ?_
  refine hT 5 21 ?_
  refine hT 6 22 ?_
  refine hT 7 23 ?_
  refine hT 8 24 ?_
  refine rD0 ?_
  go_wp2_with fail
  go_roundw
  case rel=>exact ⟨k+1,by omega,by go_num,hB.drew⟩
  case measure=>simp [intOf];omega
 ·go_wp2_with fail
  go_ret
  exact ⟨rfl,hB⟩
theorem sameVersions_any (v u:Value) (ps qs:List VP) (w:World) (hv:RdVs w (ltw w) v ps) (hu:RdVs w (ltw w) u qs) (he:ps.map (·.2)=qs.map (·.2)):
  Calls prog 42 #[v,u] w fun e w'=>e=.returned (.bool true)∧Bl w w':=by
 obtain ⟨A,c,rfl,hc1,hc2,hc3⟩:=hv.1.open_
 obtain ⟨A',c',rfl,hc1',hc2',hc3'⟩:=hu.1.open_
 unfold maxLen at hc2 hc2'
 have hlen:ps.length=qs.length:=by have:=congrArg List.length he;simpa using this
 have HVS:=hI0 hv
 have HUS:=hI0 hu
 have HE:=hI0 he
 clear hv hu he
 have HLEN:=hI0 hlen
 rw [←hlen]
 rw [←hlen] at hc1'
 go_in
 go_wp2_with fail
 go_loopw [15] (fun i wr=>SameRel w ps.length i wr) (fun i _=>ps.length-(intOf i).toNat)
 case atStart=>exact ⟨0,Nat.zero_le _,rfl,Below.refl _ _⟩
 obtain ⟨k,hk,rfl,hB⟩:=hrel
 obtain ⟨wo,rfl⟩:=eN0 wr
 have hsz:=hB.size
 by_cases hlt:k<ps.length
 case neg=>
  go_wp2_with fail
  go_ret
  exact ⟨rfl,hB⟩
 have hlt':k<qs.length:=by have:=HLEN.out;omega
 obtain ⟨b,off,rfl,hF,hcl,hx⟩:=RdVs.at_ (HVS.out.below hB) hlt
 obtain ⟨b2,off2,hA2,hF2,hcl2,hx2⟩:=RdVs.at_ (HUS.out.below hB) hlt'
 have hex:ps[k].2=qs[k].2:=by
  have h1:(ps.map (·.2))[k]? =(qs.map (·.2))[k]? :=by rw [HE.out]
  rw [List.getElem?_map,List.getElem?_map,List.getElem?_eq_getElem hlt,List.getElem?_eq_getElem hlt'] at h1
  simpa using h1
 rw [←hex] at hx2
 subst hA2
 clear hex
 generalize ps[k]=p at *
 generalize qs[k]=q at *
 obtain ⟨⟨x1,x2,xA,xn,xc,x3,x4,x5,x6,x7,x8⟩,x⟩:=p
 obtain ⟨⟨y1,y2,yA,yn,yc,y3,y4,y5,y6,y7,y8⟩,y⟩:=q
 simp only at hcl hx hcl2 hx2
 obtain ⟨g0,g1,g2,g3,g4,g5,g6,g7,g8⟩:=cK9 hcl (show _=[.int .i64 x1,.int .i64 x2,.slice xA xn xc,.int .i64 x3,.int .i64 x4,.int .i64 x5,.int .i64 x6,.int .i64 x7,.int .i64 x8] from rfl)
 obtain ⟨h0,h1,h2,h3,h4,h5,h6,h7,h8⟩:=cK9 hcl2 (show _=[.int .i64 y1,.int .i64 y2,.slice yA yn yc,.int .i64 y3,.int .i64 y4,.int .i64 y5,.int .i64 y6,.int .i64 y7,.int .i64 y8] from rfl)
 clear hcl hcl2
 obtain ⟨p1,p2,p3,p4,p5,p6,p7,p8,pv,po⟩:=hx
 obtain ⟨q1,q2,q3,q4,q5,q6,q7,q8,qv,qo⟩:=hx2
 simp only at p1 p2 p3 p4 p5 p6 p7 p8 pv q1 q2 q3 q4 q5 q6 q7 q8 qv
 rw [←p1] at q1;rw [←p2] at q2;rw [←p3] at q3;rw [←p4] at q4;rw [←p5] at q5;rw [←p6] at q6;rw [←p7] at q7;rw [←p8] at q8
 subst q1;subst q2;subst q3;subst q4;subst q5;subst q6;subst q7;subst q8
 have KS:=fun W (h:Bl wo W)=>sameRow_any _ _ x.row W (RdV.below pv h) (RdV.below qv h)
 clear p1 p2 p3 p4 p5 p6 p7 p8 pv qv po qo
 have hbx:Bl wo ((wo.alloc (.cells #[.int .i64 y1,.int .i64 y2,.slice xA xn xc,.int .i64 y3,.int .i64 y4,.int .i64 y5,.int .i64 y6,.int .i64 y7,.int .i64 y8] 56)).alloc (.cells #[.int .i64 y1,.int .i64 y2,.slice yA yn yc,.int .i64 y3,.int .i64 y4,.int .i64 y5,.int .i64 y6,.int .i64 y7,.int .i64 y8] 56)):=(Below.of_alloc _).alloc (by simp) _
 go_wp2_with fail
 (with_reducible refine (KS _ hbx).mono ?_)
 rintro _ w2 ⟨rfl,hb2⟩
 have hB2:Bl w w2:=hB.trans ((hbx.trans (hb2.mono hbx.size)).mono hsz)
 go_wp2_with fail
 go_roundw
 case rel=>exact ⟨k+1,by omega,by go_num,hB2⟩
 case measure=>simp [intOf];omega
end
section
open Go.RowKit Go.Lib Go.IntWalk Go.Sort Go.Shelf
theorem recWord_any (s:List UInt8) (w:World):Calls prog 108 #[.string (strB s)] w fun e w'=>e=.returned (.bool (nmW s))∧Bl w w':=by
 have hsz:=strB_size s
 by_cases h0:s.length=0
 ·obtain rfl:s=[]:=List.eq_nil_of_length_eq_zero h0
  rw [nmW_nil]
  have b1:(strB []).toList.isEmpty=true:=by rw [ByteArray.toList_eq];rfl
  generalize strB []=S at *
  clear h0 hsz
  go_in
  go_wp2_with fail
  go_ret
  exact ⟨rfl,Below.refl _ _⟩
 have b1:(strB s).toList.isEmpty=false:=by rw [ByteArray.toList_eq];cases s<;>simp_all [strB]
 by_cases h1:24<s.length
 ·rw [nmW_long h1]
  have q1:(24:Int)<((strB s).size:Int):=by omega
  generalize strB s=S at *
  clear hsz h0 h1
  go_in
  go_wp2_with fail
  go_ret
  exact ⟨rfl,Below.refl _ _⟩
 have q1:¬(24:Int)<((strB s).size:Int):=by omega
 have hdg:=digW_of (s:=s) (by omega)
 have hs0:(strB s)[0]'(by rw [strB_size];omega)=s[0]:=rfl
 obtain ⟨x,W,hcv,hrd,hbW⟩:=conv_sb w (strB s) (by omega)
 rw [show (strB s).data.toList=s by simp [strB]] at hrd
 generalize s[0]=c0 at hdg hs0
 have q0:(0:Int)<((strB s).size:Int):=by omega
 have q2:0<(strB s).size:=by omega
 have hc0l:=c0.toNat_lt
 by_cases hd:48≤c0.toNat∧c0.toNat≤57
 ·rw [nmW_dig (by rw [hdg];exact decide_eq_true hd)]
  obtain ⟨S,hS⟩:=eN0 (strB s)
  have q3:0<S.size:=by rw [hS];exact q2
  have q4:(0:Int)<(S.size:Int):=by omega
  have e0:S[0]=c0:=by subst hS;exact hs0
  have d1:(48:Int)≤(S[0].toNat:Int):=by rw [e0];omega
  have d2:(S[0].toNat:Int)≤57:=by rw [e0];omega
  rw [←hS] at b1 q1 ⊢
  clear hsz h0 h1 hdg hrd hcv e0 hs0 hS q0 q2
  go_in
  go_wp2_with fail
  go_ret
  exact ⟨rfl,Below.refl _ _⟩
 have HDG:Hid (digW s=false):=hI0 (by rw [hdg];exact decide_eq_false hd)
 have HD:=hI0 hd
 obtain ⟨S,hS⟩:=eN0 (strB s)
 have q3:0<S.size:=by rw [hS];exact q2
 have q4:(0:Int)<(S.size:Int):=by omega
 have e0:S[0]=c0:=by subst hS;exact hs0
 rw [←hS] at b1 q1 hcv ⊢
 have E0:=hI0 e0
 obtain ⟨A,c,rfl,hc1,hc2,hc3⟩:=hrd.open_
 unfold maxLen at hc2
 have H0:=hI0 h0
 clear hsz h0 hdg hd e0 hs0 hS q0 q2
 by_cases hd1:(48:Int)≤(S[0].toNat:Int)
 case' pos=>
  have hd2:¬(S[0].toNat:Int)≤57:=by rw [E0.out] at hd1 ⊢;have:=HD.out;omega
 all_goals
  go_in
  go_wp2_with fail
  go_loop [25] (fun i=>∃k:Nat,k≤s.length∧i=.int .i64 k∧(s.take k).all chW=true) (fun i=>s.length-(intOf i).toNat)
  case atStart=>exact ⟨0,Nat.zero_le _,rfl,rfl⟩
  obtain ⟨k,hk,rfl,hp⟩:=hrel
  have HP:=hI0 hp
  clear hp
  by_cases hlt:k<s.length
  case pos=>
   obtain ⟨b,off,rfl,hF,g0⟩:=RdB.byte hrd hlt
   have HS:=hI0 (@allW_snoc s k hlt HP.out)
   have HB:=hI0 (@nmW_bad s k hlt)
   generalize s[k]=ch at *
   have hc256:=ch.toNat_lt
   have hcases:(ch.toNat:Int)<48∨(48≤(ch.toNat:Int)∧(ch.toNat:Int)≤57)∨(57<(ch.toNat:Int)∧(ch.toNat:Int)<95)∨(ch.toNat:Int)=95∨(ch.toNat:Int)=96∨(97≤(ch.toNat:Int)∧(ch.toNat:Int)≤122)∨122<(ch.toNat:Int):=by omega
   rcases hcases with hq|hq|hq|hq|hq|hq|hq
   ·exact zq19 0
   ·exact zq18 0
   ·exact zq19 1
   ·exact zq18 2
   ·exact zq19 1
   ·exact zq18 1
   ·exact zq19 2
  have hw:nmW s=true:=nmW_good H0.out (by omega) HDG.out (by have:=HP.out;rwa [List.take_of_length_le (by omega)] at this)
  have HW:=hI0 hw
  clear hw
  go_wp2_with fail
  go_ret
  exact ⟨by rw [HW.out];rfl,hbW⟩
end
end Go.Proofs.YtgfhknnklapldaaGreatDoor
