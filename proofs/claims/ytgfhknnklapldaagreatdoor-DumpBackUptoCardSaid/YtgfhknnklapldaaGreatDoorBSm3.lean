/-
 Sm3
-/
import Derived.Test.YtgfhknnklapldaaGreatDoorBSmA
import Derived.Lib.Bytealg
import Derived.Test.YtgfhknnklapldaaGreatDoorBDc1
import Derived.Test.YtgfhknnklapldaaGreatDoorBRcO
import Derived.Test.YtgfhknnklapldaaGreatDoorBWk1
import Derived.Test.YtgfhknnklapldaaGreatDoorBRc3
import Derived.Test.YtgfhknnklapldaaGreatDoorBSt1
import Derived.Test.YtgfhknnklapldaaGreatDoorBSeg1
import Derived.Test.YtgfhknnklapldaaGreatDoorBSm2
namespace Go.Proofs.YtgfhknnklapldaaGreatDoor
open Go.Proofs.Tryz
set_option maxRecDepth 99999
set_option maxHeartbeats 0
open Go.RowKit Go.Lib Go.IntWalk Go.Sort Go.Shelf
theorem zq14 {P:Prop} (i:Nat) (h:Tg i→P:=by
 intro zT14
 first
  |guard_hyp zT14:Tg 1;have hlt3:¬(k:Int)<(xpol.length:Int):=by omega
  |have hlt3:¬(k:Int)<(xpla.length:Int):=by omega
 clear hlt hk
 go_wp2_with fail
 first
  |guard_hyp zT14:Tg 1;go_loopw [67] (fun i wr=>∃k:Nat,i=.int .i64 (k:Int)∧k≤xhor.length∧Hid (Bl w wr)) (fun i _=>xhor.length-(intOf i).toNat)
   case atStart=>exact ⟨0,rfl,Nat.zero_le _,HB8⟩
   obtain ⟨k,rfl,hk,HB9⟩:=hrel
   obtain ⟨wi9,rfl⟩:=eN0 wr
   by_cases hlt:k<xhor.length
  |go_loopw [52] (fun i wr=>∃k:Nat,i=.int .i64 (k:Int)∧k≤xpol.length∧Hid (Bl w wr)) (fun i _=>xpol.length-(intOf i).toNat)
   case atStart=>exact ⟨0,rfl,Nat.zero_le _,HB7⟩
   obtain ⟨k,rfl,hk,HB8⟩:=hrel
   obtain ⟨wi8,rfl⟩:=eN0 wr
   by_cases hlt:k<xpol.length
 case neg=>
  first
   |guard_hyp zT14:Tg 1;have hlt3:¬(k:Int)<(xhor.length:Int):=by omega
   |have hlt3:¬(k:Int)<(xpol.length:Int):=by omega
  clear hlt hk
  go_wp2_with fail
  first
   |guard_hyp zT14:Tg 1;go_ret
    exact ⟨rfl,HB9.out⟩
   |go_loopw [67] (fun i wr=>∃k:Nat,i=.int .i64 (k:Int)∧k≤xhor.length∧Hid (Bl w wr)) (fun i _=>xhor.length-(intOf i).toNat)
    case atStart=>exact ⟨0,rfl,Nat.zero_le _,HB8⟩
    obtain ⟨k,rfl,hk,HB9⟩:=hrel
    obtain ⟨wi9,rfl⟩:=eN0 wr
    by_cases hlt:k<xhor.length
    case neg=>
     have hlt3:¬(k:Int)<(xhor.length:Int):=by omega
     clear hlt hk
     go_wp2_with fail
     go_ret
     exact ⟨rfl,HB9.out⟩
    have hlt3:(k:Int)<(xhor.length:Int):=by omega
    obtain ⟨b,off,rfl,hF,hcl⟩:=RdE.at_ (K:=2) (enc:=Hor.enc) (fun _=>rfl) (by omega) Hx3.out hlt
    obtain ⟨b',off',rfl,hF',hcl'⟩:=RdE.at_ (K:=2) (enc:=Hor.enc) (fun _=>rfl) (by omega) Hy3.out hlt
    have HBL:=hI0 hF
    have HBM:=hI0 hF'
    have hcx:=hcl k hlt
    have hcy:=hcl' k hlt
    obtain ⟨x,hx⟩:=eN0 (xhor[k])
    rw [←hx] at hcx hcy
    clear hx hcl hcl' hF hF'
    obtain ⟨x1,x2⟩:=x
    have g0:w.cell? ⟨b,off+k*2,none⟩=some (.string x1):=hcx 0 _ (by decide) rfl
    have g1:=hcx 1 _ (by decide) rfl
    have h0:w.cell? ⟨b',off'+k*2,none⟩=some (.string x1):=hcy 0 _ (by decide) rfl
    have h1:=hcy 1 _ (by decide) rfl
    clear hcx hcy
    have ff0:(x1.toList != x1.toList)=false:=by simp
    have ff1:(x2 != x2)=false:=by simp
    have ee1:(x2==x2)=true:=by simp
    go_wp2_with fail
    refine wp_region_noPanic ?_
    refine wp_region_held_drew (S:=(fun w'=>Bl w w')) (by kernel_rfl) ?_ (fun zh=>?_)
    ·exact HB9.out.drew
    refine hT 0 70 ?_
    refine hT 1 71 ?_
    refine hT 2 72 ?_
    refine hU 3 73 (v:=?_) zh ?_ ?_
    rotate_left
    ·intro w' hSw;(try dsimp only at hSw);have Z:=hSw.block _ HBL.out;have q0:=cQ Z g0;have q1:=cQ Z g1;go_simp<;>with_reducible rfl
    refine hT 4 74 ?_
    refine hT 5 75 ?_
    refine hT 6 76 ?_
    refine hU 7 77 (v:=?_) zh ?_ ?_
    rotate_left
    ·intro w' hSw;(try dsimp only at hSw);have Z:=hSw.block _ HBM.out;have q0:=cQ Z h0;have q1:=cQ Z h1;go_simp<;>with_reducible rfl
    refine hT 8 78 ?_
    refine rD0 ?_
    have HZ:Hid (Bl w _):=hI0 zh
    go_wp2_with fail
    go_roundw
    case rel=>exact ⟨k+1,by go_num,hlt,HZ⟩
    case measure=>simp [intOf];omega
 first
  |guard_hyp zT14:Tg 1;have hlt3:(k:Int)<(xhor.length:Int):=by omega
   obtain ⟨b,off,rfl,hF,hcl⟩:=RdE.at_ (K:=2) (enc:=Hor.enc) (fun _=>rfl) (by omega) Hx3.out hlt
   obtain ⟨b',off',rfl,hF',hcl'⟩:=RdE.at_ (K:=2) (enc:=Hor.enc) (fun _=>rfl) (by omega) Hy3.out hlt
  |have hlt3:(k:Int)<(xpol.length:Int):=by omega
   obtain ⟨b,off,rfl,hF,hcl⟩:=RdE.at_ (K:=2) (enc:=Pol.enc) (fun _=>rfl) (by omega) Hx2.out hlt
   obtain ⟨b',off',rfl,hF',hcl'⟩:=RdE.at_ (K:=2) (enc:=Pol.enc) (fun _=>rfl) (by omega) Hy2.out hlt
 have HBL:=hI0 hF
 have HBM:=hI0 hF'
 have hcx:=hcl k hlt
 have hcy:=hcl' k hlt
 first
  |guard_hyp zT14:Tg 1;obtain ⟨x,hx⟩:=eN0 (xhor[k])
  |obtain ⟨x,hx⟩:=eN0 (xpol[k])
 rw [←hx] at hcx hcy
 clear hx hcl hcl' hF hF'
 obtain ⟨x1,x2⟩:=x
 have g0:w.cell? ⟨b,off+k*2,none⟩=some (.string x1):=hcx 0 _ (by decide) rfl
 have g1:=hcx 1 _ (by decide) rfl
 have h0:w.cell? ⟨b',off'+k*2,none⟩=some (.string x1):=hcy 0 _ (by decide) rfl
 have h1:=hcy 1 _ (by decide) rfl
 clear hcx hcy
 have ff0:(x1.toList != x1.toList)=false:=by simp
 have ff1:(x2 != x2)=false:=by simp
 have ee1:(x2==x2)=true:=by simp
 go_wp2_with fail
 refine wp_region_noPanic ?_
 refine wp_region_held_drew (S:=(fun w'=>Bl w w')) (by kernel_rfl) ?_ (fun zh=>?_)
 ·first
   |guard_hyp zT14:Tg 1;exact HB9.out.drew
   |exact HB8.out.drew
 first
  |guard_hyp zT14:Tg 1;refine hT 0 70 ?_
   refine hT 1 71 ?_
   refine hT 2 72 ?_
   refine hU 3 73 (v:=?_) zh ?_ ?_
  |refine hT 0 55 ?_
   refine hT 1 56 ?_
   refine hT 2 57 ?_
   refine hU 3 58 (v:=?_) zh ?_ ?_
 rotate_left
 ·intro w' hSw;(try dsimp only at hSw);have Z:=hSw.block _ HBL.out;have q0:=cQ Z g0;have q1:=cQ Z g1;go_simp<;>with_reducible rfl
 first
  |guard_hyp zT14:Tg 1;refine hT 4 74 ?_
   refine hT 5 75 ?_
   refine hT 6 76 ?_
   refine hU 7 77 (v:=?_) zh ?_ ?_
  |refine hT 4 59 ?_
   refine hT 5 60 ?_
   refine hT 6 61 ?_
   refine hU 7 62 (v:=?_) zh ?_ ?_
 rotate_left
 ·intro w' hSw;(try dsimp only at hSw);have Z:=hSw.block _ HBM.out;have q0:=cQ Z h0;have q1:=cQ Z h1;go_simp<;>with_reducible rfl
 first
  |guard_hyp zT14:Tg 1;refine hT 8 78 ?_
  |refine hT 8 63 ?_
 refine rD0 ?_
 have HZ:Hid (Bl w _):=hI0 zh
 go_wp2_with fail
 go_roundw
 case rel=>exact ⟨k+1,by go_num,hlt,HZ⟩
 case measure=>simp [intOf];omega) : P := h ⟨⟩
theorem zq23 {P:Prop} (h:P:=by
 intro w' hSw;(try dsimp only at hSw);have Z:=(bU0 HBW hSw).block _ HBL.out;have q0:=cQ Z g0;have q1:=cQ Z g1;have q2:=cQ Z g2;have q3:=cQ Z g3;have q4:=cQ Z g4;have q5:=cQ Z g5;have q6:=cQ Z g6;go_simp<;>with_reducible rfl) : P := h
theorem zq24 {P:Prop} (h:P:=by
 intro w' hSw;(try dsimp only at hSw);have Z:=(bU0 HBW hSw).block _ HBM.out;have q0:=cQ Z h0;have q1:=cQ Z h1;have q2:=cQ Z h2;have q3:=cQ Z h3;have q4:=cQ Z h4;have q5:=cQ Z h5;have q6:=cQ Z h6;go_simp<;>with_reducible rfl) : P := h
theorem zq25 {P:Prop} (h:P:=by
 intro w' hSw;(try dsimp only at hSw);have q0:w'.cell? ⟨b',off'+k,none⟩=some (.int .i64 y1):=(World.cell?_of_block (hSw.block _ HBM.out)).trans h0;go_simp<;>with_reducible rfl) : P := h
theorem zq26 {P:Prop} (h:P:=by
 intro w' hSw;(try dsimp only at hSw);have q0:w'.cell? ⟨b,off+k,none⟩=some (.int .i64 x1):=(World.cell?_of_block (hSw.block _ HBL.out)).trans g0;go_simp<;>with_reducible rfl) : P := h
theorem zq30 {P:Prop} (h:P:=by
 intro w' hSw;(try dsimp only at hSw);have q0:=cW0 w' _ 6 _ _ _ (FX.out _ hSw);go_simp<;>with_reducible rfl) : P := h
theorem zq31 {P:Prop} (h:P:=by
 intro w' hSw;(try dsimp only at hSw);have q0:=cW0 w' _ 6 _ _ _ (FY.out _ hSw);go_simp<;>with_reducible rfl) : P := h
theorem likeInts_any (v u:Value) (l m:List Int) (w:World) (hv:RdE 1 intE w (ltw w) v l) (hu:RdE 1 intE w (ltw w) u m):
  Calls prog 153 #[v,u] w fun e w'=>e=.returned (.bool (sameL sInt l m))∧Bl w w':=by
 obtain ⟨A,c,rfl,a1,a2,a3⟩:=Rd.open_ (show Rd w _ 1 v l.length (l.flatMap intE) from hv)
 obtain ⟨A',c',rfl,b1,b2,b3⟩:=Rd.open_ (show Rd w _ 1 u m.length (m.flatMap intE) from hu)
 unfold maxLen at a2 b2
 have HV:=hI0 hv
 have HU:=hI0 hu
 obtain ⟨res,hres⟩:=eN0 (sameL sInt l m)
 rw [←hres]
 have HRES:=hI0 hres
 clear hv hu hres a3 b3
 go_in
 by_cases hlen:l.length=m.length
 case neg=>
  have HE:Hid (res=false):=hI0 (by rw [HRES.out];exact sameL_len hlen)
  have hlen2:¬(l.length:Int)=(m.length:Int):=by omega
  have hlen3:((l.length:Int) != (m.length:Int))=true:=by simpa using hlen2
  go_wp2_with fail
  go_ret
  exact ⟨by rw [HE.out]<;>rfl,Below.refl _ _⟩
 have hlen2:(l.length:Int)=(m.length:Int):=by omega
 have hlen3:((l.length:Int) != (m.length:Int))=false:=by simpa using hlen2
 go_wp2_with fail
 clear hlen3
 go_loopw [13] (fun i wr=>∃k:Nat,i=.int .i64 (k:Int)∧k≤l.length∧Hid (sameL sInt (l.drop k) (m.drop k)=res)∧Hid (Bl w wr)) (fun i _=>l.length-(intOf i).toNat)
 case atStart=>exact ⟨0,rfl,Nat.zero_le _,hI0 HRES.out.symm,hI0 (Below.refl _ _)⟩
 obtain ⟨k,rfl,hk,HG,HB⟩:=hrel
 obtain ⟨wi,rfl⟩:=eN0 wr
 by_cases hlt:k<l.length
 case neg=>
  have hlt3:¬(k:Int)<(l.length:Int):=by omega
  have HE:Hid (res=true):=hI0 (by rw [←HG.out];exact sameL_end (by omega) (by omega))
  go_wp2_with fail
  go_ret
  exact ⟨by rw [HE.out]<;>rfl,HB.out⟩
 have hlt':k<m.length:=by omega
 have hlt3:(k:Int)<(l.length:Int):=by omega
 have hlt4:(k:Int)<(m.length:Int):=by omega
 obtain ⟨b,off,rfl,hF,hcl⟩:=RdE.at_ (K:=1) (enc:=intE) (fun _=>rfl) (by omega) (HV.out.below HB.out) hlt
 obtain ⟨b',off',rfl,hF',hcl'⟩:=RdE.at_ (K:=1) (enc:=intE) (fun _=>rfl) (by omega) (HU.out.below HB.out) hlt'
 have HBL:=hI0 hF
 have HBM:=hI0 hF'
 have hcx:=hcl k hlt
 have hcy:=hcl' k hlt'
 have hg:=HG.out
 rw [sameL_at hlt hlt'] at hg
 obtain ⟨x,hx⟩:=eN0 (l[k])
 obtain ⟨y,hy⟩:=eN0 (m[k])
 rw [←hx] at hcx hg
 rw [←hy] at hcy hg
 obtain ⟨bo,hbo⟩:=eN0 (sInt x y)
 rw [←hbo] at hg
 have HG2:=hI0 hg
 clear hx hy hcl hcl' hF hF' hg HG
 obtain ⟨x1,hx1⟩:=eN0 x
 obtain ⟨y1,hy1⟩:=eN0 y
 subst hx1;subst hy1
 have g0:wi.cell? ⟨b,off+k,none⟩=some (.int .i64 x1):=by have h:=hcx 0 (.int .i64 x1) (by decide) rfl;rw [Nat.mul_one,Nat.add_zero] at h;exact h
 have h0:wi.cell? ⟨b',off'+k,none⟩=some (.int .i64 y1):=by have h:=hcy 0 (.int .i64 y1) (by decide) rfl;rw [Nat.mul_one,Nat.add_zero] at h;exact h
 have HRX:Hid (bo=(decide (x1=y1))):=hI0 hbo
 clear hcx hcy hbo
 go_wp2_with fail
 by_cases tt18:x1=y1
 case neg=>
  have gg18:Hid (decide (x1=y1)=false):=hI0 (decide_eq_false tt18)
  have ee18:(x1==y1)=false:=by simpa using tt18
  have ff18:(x1 != y1)=true:=by simpa using tt18
  have HF:Hid (bo=false):=hI0 (by rw [HRX.out,gg18.out]<;>simp)
  have HE:Hid (res=false):=hI0 (by rw [←HG2.out,HF.out];rfl)
  refine rB0 wi (fun zh=>?_)
  refine hT 0 16 ?_
  refine hT 1 17 ?_
  refine hT 2 18 ?_
  refine hU 3 19 (v:=?_) zh ?_ ?_
  rotate_left
  ·exact zq26
  refine hT 4 20 ?_
  refine hT 5 21 ?_
  refine hT 6 22 ?_
  refine hU 7 23 (v:=?_) zh ?_ ?_
  rotate_left
  ·exact zq25
  refine hT 8 24 ?_
  refine rD0 ?_
  go_wp2_with fail
  go_ret
  exact ⟨by rw [HE.out]<;>rfl,HB.out.drew⟩
 have GG18:Hid (decide (x1=y1)=true):=hI0 (decide_eq_true tt18)
 have ee18:(x1==y1)=true:=by simpa using tt18
 have ff18:(x1 != y1)=false:=by simpa using tt18
 clear tt18
 have HF:Hid (bo=true):=hI0 (by rw [HRX.out,GG18.out]<;>first|rfl|(simp;done))
 have HN:Hid (sameL sInt (l.drop (k+1)) (m.drop (k+1))=res):=hI0 (by rw [←HG2.out,HF.out];simp)
 refine rB0 wi (fun zh=>?_)
 refine hT 0 16 ?_
 refine hT 1 17 ?_
 refine hT 2 18 ?_
 refine hU 3 19 (v:=?_) zh ?_ ?_
 rotate_left
 ·exact zq26
 refine hT 4 20 ?_
 refine hT 5 21 ?_
 refine hT 6 22 ?_
 refine hU 7 23 (v:=?_) zh ?_ ?_
 rotate_left
 ·exact zq25
 refine hT 8 24 ?_
 refine rD0 ?_
 go_wp2_with fail
 go_roundw
 case rel=>exact ⟨k+1,by go_num,hlt,HN,hI0 HB.out.drew⟩
 case measure=>simp [intOf];omega
def RE.sl:RE→Value
 | .mk _ _ _ _ A c args=>.slice A args.length c
def RE.as:RE→List RE
 | .mk _ _ _ _ _ _ args=>args
theorem exAll.blw {w w':World} {e:RE} (h:exAll w (ltw w) e) (hb:Bl w w'):exAll w' (ltw w') e:=fun d=>exIs_below hb d e (h d)
theorem exAll.parts {w:World} {F:Nat→Prop} {e:RE} (h:exAll w F e):RdE 7 RE.enc w F e.sl e.as∧∀a∈e.as,exAll w F a:=by
 obtain ⟨op,it,v,nm,A,c,args⟩:=e
 exact ⟨(h 1).1,fun a ha d=>(h (d+1)).2.2.2 a ha⟩
theorem nodesL_mem {a:RE} {l:List RE} (h:a∈l):a.nodes≤nodesL l:=by
 induction l with
 |nil=>cases h
 |cons x r ih=>
  simp only [nodesL]
  rcases List.mem_cons.1 h with rfl|h
  ·omega
  ·have:=ih h;omega
theorem RE.nodes_arg {e a:RE} (h:a∈e.as):a.nodes<e.nodes:=by
 obtain ⟨op,it,v,nm,A,c,args⟩:=e
 show a.nodes<nodesL args+1
 have h1:=nodesL_mem (show a∈args from h)
 omega
theorem cQ {w w':World} {b j:Nat} {v:Value} (h:w'.heap[b]? =w.heap[b]?) (g:w.cell? ⟨b,j,none⟩=some v):w'.cell? ⟨b,j,none⟩=some v:=(World.cell?_of_block h).trans g
theorem cB {w:World} {b:Nat} {cs:Array Value} {t:TypeId} {f:Nat×Nat} {v:Value} (j:Nat) (h:w.heap[b]? =some (.cells cs t f)) (hv:cs[j]? =some v:=by rfl):w.cell? ⟨b,j,none⟩=some v:=(cW0 w b j cs t f h).trans hv
def TrB (w0:World) (e:Ending) (w:World):Prop:=e=.returned (.bool true)∧Bl w0 w
theorem er_at {α β:Type} {f:α→β} {l m:List α} {k:Nat} (h:l.map f=m.map f) (h1:k<l.length) (h2:k<m.length):f l[k]=f m[k]:=by
 have a:(l.map f)[k]? =(m.map f)[k]? :=by rw [h]
 rw [List.getElem?_map,List.getElem?_map,List.getElem?_eq_getElem h1,List.getElem?_eq_getElem h2] at a
 exact Option.some.inj a
theorem er_len {α β:Type} {f:α→β} {l m:List α} (h:l.map f=m.map f):l.length=m.length:=by have:=congrArg List.length h;simpa using this
theorem trB {F:FuncId} {aa:Array Value} {V:World} {b:Bool} (h:Calls prog F aa V fun e w'=>e=.returned (.bool b)∧Bl V w') (hb:b=true):Calls prog F aa V (TrB V):=by subst hb;exact h
theorem sameL_self {α:Type} {f:α→α→Bool} (h:∀x,f x x=true):∀l:List α,sameL f l l=true
 |[]=>rfl
 |x::r=>by simp only [sameL,h x,sameL_self h r];rfl
theorem sInts_self (l:List Int):sameL sInt l l=true:=sameL_self (fun x=>by simp [sInt]) l
theorem likeExpr0 (x y:RE) (hxy:x.er=y.er) (w:World) (hx:RdE 7 RE.enc w (ltw w) x.sl x.as) (hy:RdE 7 RE.enc w (ltw w) y.sl y.as)
  (KA:∀a∈x.as,∀b∈y.as,a.er=b.er→∀V,Bl w V→Calls prog 154 #[.agg a.enc.toArray,.agg b.enc.toArray] V (TrB V)):
  Calls prog 154 #[.agg (RE.enc x).toArray,.agg (RE.enc y).toArray] w (TrB w):=by
 obtain ⟨xo,xi,⟨x1,x2,x3⟩,xn,xA,xc,xas⟩:=x
 obtain ⟨yo,yi,⟨y1,y2,y3⟩,yn,yA,yc,yas⟩:=y
 rw [RE.er_mk,RE.er_mk] at hxy
 simp only [RE.mk.injEq,Val.mk.injEq,true_and] at hxy
 obtain ⟨rfl,rfl,⟨rfl,rfl,rfl⟩,rfl,hL1⟩:=hxy
 simp only [RE.sl,RE.as] at hx hy KA
 show Calls prog 154 #[.agg #[.int .i64 xo,.int .i64 xi,.int .i64 x1,.int .i64 x2,.string x3,.string xn,.slice xA xas.length xc],.agg #[.int .i64 xo,.int .i64 xi,.int .i64 x1,.int .i64 x2,.string x3,.string xn,.slice yA yas.length yc]] w (TrB w)
 have q1:=RdE.bd hx
 have r1:=RdE.bd hy
 have Hx1:=hI0 hx
 have Hy1:=hI0 hy
 have HL1:=hI0 hL1
 have ss1:((xas.length:Int) != (yas.length:Int))=false:=by have:=er_len HL1.out;simp [this]
 have HKA:=hI0 KA
 clear hx hy KA hL1
 obtain ⟨W,hW⟩:=eN0 ((w.alloc (.cells #[.int .i64 xo,.int .i64 xi,.int .i64 x1,.int .i64 x2,.string x3,.string xn,.slice xA xas.length xc] 117)).alloc (.cells #[.int .i64 xo,.int .i64 xi,.int .i64 x1,.int .i64 x2,.string x3,.string xn,.slice yA yas.length yc] 117))
 have hbW:Bl w W:=by rw [hW];exact (Below.of_alloc _).alloc (by simp) _
 have hWs:w.heap.size+1<W.heap.size:=by rw [hW];simp
 have hT:W.heap[w.heap.size]? =some (.cells #[.int .i64 xo,.int .i64 xi,.int .i64 x1,.int .i64 x2,.string x3,.string xn,.slice xA xas.length xc] 117 (0,0)):=by
  rw [hW]
  exact ((Below.of_alloc (w:=w.alloc (.cells #[.int .i64 xo,.int .i64 xi,.int .i64 x1,.int .i64 x2,.string x3,.string xn,.slice xA xas.length xc] 117)) (.cells #[.int .i64 xo,.int .i64 xi,.int .i64 x1,.int .i64 x2,.string x3,.string xn,.slice yA yas.length yc] 117)).block _ (by simp)).trans (heap_alloc_new _ _)
 have hU:W.heap[w.heap.size+1]? =some (.cells #[.int .i64 xo,.int .i64 xi,.int .i64 x1,.int .i64 x2,.string x3,.string xn,.slice yA yas.length yc] 117 (0,0)):=by
  rw [hW]
  have h:=heap_alloc_new (w.alloc (.cells #[.int .i64 xo,.int .i64 xi,.int .i64 x1,.int .i64 x2,.string x3,.string xn,.slice xA xas.length xc] 117)) (.cells #[.int .i64 xo,.int .i64 xi,.int .i64 x1,.int .i64 x2,.string x3,.string xn,.slice yA yas.length yc] 117)
  simpa using h
 have FX:Hid (∀V,Bl W V→V.heap[w.heap.size]? =some (.cells #[.int .i64 xo,.int .i64 xi,.int .i64 x1,.int .i64 x2,.string x3,.string xn,.slice xA xas.length xc] 117 (0,0))):=hI0 (fun V hV=>(hV.block _ (by omega)).trans hT)
 have FY:Hid (∀V,Bl W V→V.heap[w.heap.size+1]? =some (.cells #[.int .i64 xo,.int .i64 xi,.int .i64 x1,.int .i64 x2,.string x3,.string xn,.slice yA yas.length yc] 117 (0,0))):=hI0 (fun V hV=>(hV.block _ hWs).trans hU)
 have HBW:=hI0 hbW
 have HC0:Hid (Bl W W):=hI0 (Below.refl _ _)
 have HW:=hI0 hW
 clear hT hU hbW hWs hW
 have c0:=cB 0 (FX.out _ HC0.out)
 have c1:=cB 1 (FX.out _ HC0.out)
 have c2:=cB 2 (FX.out _ HC0.out)
 have c3:=cB 3 (FX.out _ HC0.out)
 have c4:=cB 4 (FX.out _ HC0.out)
 have c5:=cB 5 (FX.out _ HC0.out)
 have c6:=cB 6 (FX.out _ HC0.out)
 have d0:=cB 0 (FY.out _ HC0.out)
 have d1:=cB 1 (FY.out _ HC0.out)
 have d2:=cB 2 (FY.out _ HC0.out)
 have d3:=cB 3 (FY.out _ HC0.out)
 have d4:=cB 4 (FY.out _ HC0.out)
 have d5:=cB 5 (FY.out _ HC0.out)
 have d6:=cB 6 (FY.out _ HC0.out)
 have ff0:(xo != xo)=false:=by simp
 have ee0:(xo==xo)=true:=by simp
 have ff1:(xi != xi)=false:=by simp
 have ee1:(xi==xi)=true:=by simp
 have ff2:(x1 != x1)=false:=by simp
 have ee2:(x1==x1)=true:=by simp
 have ff3:(x2 != x2)=false:=by simp
 have ee3:(x2==x2)=true:=by simp
 have ff4:(x3.toList != x3.toList)=false:=by simp
 have ff5:(xn.toList != xn.toList)=false:=by simp
 go_in
 go_wp2_with fail
 try rw [←HW.out]
 clear c0 d0 c1 d1 c2 d2 c3 d3 c4 d4 c5 d5 c6 d6
 go_loopw [44] (fun i wr=>∃k:Nat,i=.int .i64 (k:Int)∧k≤xas.length∧Hid (Bl W wr)) (fun i _=>xas.length-(intOf i).toNat)
 case atStart=>exact ⟨0,rfl,Nat.zero_le _,HC0⟩
 obtain ⟨k,rfl,hk,HB1⟩:=hrel
 obtain ⟨wi1,rfl⟩:=eN0 wr
 by_cases hlt:k<xas.length
 case neg=>
  have hlt3:¬(k:Int)<(xas.length:Int):=by omega
  clear hlt hk
  have c0:=cB 0 (FX.out _ HB1.out)
  have c1:=cB 1 (FX.out _ HB1.out)
  have c2:=cB 2 (FX.out _ HB1.out)
  have c3:=cB 3 (FX.out _ HB1.out)
  have c4:=cB 4 (FX.out _ HB1.out)
  have c5:=cB 5 (FX.out _ HB1.out)
  have c6:=cB 6 (FX.out _ HB1.out)
  have d0:=cB 0 (FY.out _ HB1.out)
  have d1:=cB 1 (FY.out _ HB1.out)
  have d2:=cB 2 (FY.out _ HB1.out)
  have d3:=cB 3 (FY.out _ HB1.out)
  have d4:=cB 4 (FY.out _ HB1.out)
  have d5:=cB 5 (FY.out _ HB1.out)
  have d6:=cB 6 (FY.out _ HB1.out)
  go_wp2_with fail
  go_ret
  exact ⟨rfl,(HBW.out.trans (HB1.out.mono HBW.out.size))⟩
 have hlt':k<yas.length:=by have:=er_len HL1.out;omega
 have hlt4:(k:Int)<(yas.length:Int):=by omega
 have hlt3:(k:Int)<(xas.length:Int):=by omega
 obtain ⟨b,off,rfl,hF,hcl⟩:=RdE.at_ (K:=7) (enc:=RE.enc) (fun e=>by cases e;rfl) (by omega) Hx1.out hlt
 obtain ⟨b',off',rfl,hF',hcl'⟩:=RdE.at_ (K:=7) (enc:=RE.enc) (fun e=>by cases e;rfl) (by omega) Hy1.out hlt'
 have HBL:=hI0 hF
 have HBM:=hI0 hF'
 have hcx:=hcl k hlt
 have hcy:=hcl' k hlt'
 have hxy:=er_at HL1.out hlt hlt'
 have ha:=List.getElem_mem hlt
 have hb:=List.getElem_mem hlt'
 obtain ⟨x,hx⟩:=eN0 (xas[k])
 obtain ⟨y,hy⟩:=eN0 (yas[k])
 rw [←hx] at hcx hxy ha
 rw [←hy] at hcy hxy hb
 clear hx hy hcl hcl' hF hF'
 have K0:=fun (V:World) (hV:Bl w V)=>HKA.out _ ha _ hb hxy V hV
 obtain ⟨xxo,xxi,⟨xx1,xx2,xx3⟩,xxn,xxA,xxc,xxas⟩:=x
 obtain ⟨yyo,yyi,⟨yy1,yy2,yy3⟩,yyn,yyA,yyc,yyas⟩:=y
 rw [RE.er_mk,RE.er_mk] at hxy
 simp only [RE.mk.injEq,Val.mk.injEq,true_and] at hxy
 obtain ⟨rfl,rfl,⟨rfl,rfl,rfl⟩,rfl,hL1⟩:=hxy
 have KC:∀(V:World),Bl w V→Calls prog 154 #[.agg #[.int .i64 xxo,.int .i64 xxi,.int .i64 xx1,.int .i64 xx2,.string xx3,.string xxn,.slice xxA xxas.length xxc],.agg #[.int .i64 xxo,.int .i64 xxi,.int .i64 xx1,.int .i64 xx2,.string xx3,.string xxn,.slice yyA yyas.length yyc]] V (TrB V):=K0
 clear K0
 have g0:w.cell? ⟨b,off+k*7,none⟩=some (.int .i64 xxo):=hcx 0 _ (by decide) rfl
 have g1:=hcx 1 _ (by decide) rfl
 have g2:=hcx 2 _ (by decide) rfl
 have g3:=hcx 3 _ (by decide) rfl
 have g4:=hcx 4 _ (by decide) rfl
 have g5:=hcx 5 _ (by decide) rfl
 have g6:=hcx 6 _ (by decide) rfl
 have h0:w.cell? ⟨b',off'+k*7,none⟩=some (.int .i64 xxo):=hcy 0 _ (by decide) rfl
 have h1:=hcy 1 _ (by decide) rfl
 have h2:=hcy 2 _ (by decide) rfl
 have h3:=hcy 3 _ (by decide) rfl
 have h4:=hcy 4 _ (by decide) rfl
 have h5:=hcy 5 _ (by decide) rfl
 have h6:=hcy 6 _ (by decide) rfl
 clear hcx hcy ha hb hL1
 have ff0:(xxo != xxo)=false:=by simp
 have ee0:(xxo==xxo)=true:=by simp
 have ff1:(xxi != xxi)=false:=by simp
 have ee1:(xxi==xxi)=true:=by simp
 have ff2:(xx1 != xx1)=false:=by simp
 have ee2:(xx1==xx1)=true:=by simp
 have ff3:(xx2 != xx2)=false:=by simp
 have ee3:(xx2==xx2)=true:=by simp
 have ff4:(xx3.toList != xx3.toList)=false:=by simp
 have ff5:(xxn.toList != xxn.toList)=false:=by simp
 go_wp2_with fail
 refine wp_region_noPanic ?_
 refine wp_region_held_drew (S:=(fun w'=>Bl W w')) (by kernel_rfl) ?_ (fun zh=>?_)
 ·exact HB1.out.drew
 refine hT 0 47 ?_
 refine hU 1 48 (v:=?_) zh ?_ ?_
 rotate_left
 ·exact zq30
 refine hT 2 49 ?_
 refine hT 3 50 ?_
 refine hU 4 51 (v:=?_) zh ?_ ?_
 rotate_left
 ·exact zq23
 refine hT 5 52 ?_
 refine hU 6 53 (v:=?_) zh ?_ ?_
 rotate_left
 ·exact zq31
 refine hT 7 54 ?_
 refine hT 8 55 ?_
 refine hU 9 56 (v:=?_) zh ?_ ?_
 rotate_left
 ·exact zq24
 refine hC 10 57 ?_
 (with_reducible refine (KC _ (bU0 HBW zh)).mono ?_)
 rintro _ z ⟨rfl,hz⟩
 refine ⟨_,rfl,keepAnd (Below.trans zh (hz.mono zh.size)) ?_⟩
 clear zh
 intro zh
 simp only [aP]
 refine hT 11 58 ?_
 refine rD0 ?_
 have HZ:Hid (Bl W _):=hI0 zh
 go_wp2_with fail
 go_roundw
 case rel=>exact ⟨k+1,by go_num,hlt,HZ⟩
 case measure=>simp [intOf];omega
theorem likeExpr_any:∀(n:Nat) (x y:RE) (w:World),x.nodes≤n→x.er=y.er→exAll w (ltw w) x→exAll w (ltw w) y→
  Calls prog 154 #[.agg x.enc.toArray,.agg y.enc.toArray] w (TrB w):=by
 intro n
 induction n with
 |zero=>
  intro x y w h
  have:=x.nodes_pos
  omega
 |succ n ih=>
  intro x y w h he hx hy
  exact likeExpr0 x y he w hx.parts.1 hy.parts.1 (fun a ha b hb hab V hV=>ih a b V (by have:=RE.nodes_arg ha;omega) hab ((hx.parts.2 a ha).blw hV) ((hy.parts.2 b hb).blw hV))
theorem likeTable_any (x y:RTab) (hxy:x.er=y.er) (w:World) (hx:x.is w (ltw w)) (hy:y.is w (ltw w)) (kx:∀e∈x.chks,exAll w (ltw w) e) (ky:∀e∈y.chks,exAll w (ltw w) e):
  Calls prog 104 #[.agg (RTab.enc x).toArray,.agg (RTab.enc y).toArray] w (TrB w):=by
 obtain ⟨xnm,xcolA,xcolC,xcols,xkeyA,xkeyC,xkey,xforA,xforC,xfors,xchkA,xchkC,xchks⟩:=x
 obtain ⟨ynm,ycolA,ycolC,ycols,ykeyA,ykeyC,ykey,yforA,yforC,yfors,ychkA,ychkC,ychks⟩:=y
 simp only [RTab.er,RTab.mk.injEq,true_and] at hxy
 obtain ⟨rfl,rfl,rfl,hL3,hL4⟩:=hxy
 show Calls prog 104 #[.agg #[.string xnm,.slice xcolA xcols.length xcolC,.slice xkeyA xkey.length xkeyC,.slice xforA xfors.length xforC,.slice xchkA xchks.length xchkC],.agg #[.string xnm,.slice ycolA xcols.length ycolC,.slice ykeyA xkey.length ykeyC,.slice yforA yfors.length yforC,.slice ychkA ychks.length ychkC]] w (TrB w)
 have f1:RdE 3 RCol.enc w (ltw w) (.slice xcolA xcols.length xcolC) xcols:=hx.cols
 have g1:RdE 3 RCol.enc w (ltw w) (.slice ycolA xcols.length ycolC) xcols:=hy.cols
 have q1:=RdE.bd f1
 have r1:=RdE.bd g1
 have Hx1:=hI0 f1
 have Hy1:=hI0 g1
 have f3:RdE 2 RFor.enc w (ltw w) (.slice xforA xfors.length xforC) xfors:=hx.fors
 have g3:RdE 2 RFor.enc w (ltw w) (.slice yforA yfors.length yforC) yfors:=hy.fors
 have q3:=RdE.bd f3
 have r3:=RdE.bd g3
 have Hx3:=hI0 f3
 have Hy3:=hI0 g3
 have f4:RdE 7 RE.enc w (ltw w) (.slice xchkA xchks.length xchkC) xchks:=hx.chks
 have g4:RdE 7 RE.enc w (ltw w) (.slice ychkA ychks.length ychkC) ychks:=hy.chks
 have q4:=RdE.bd f4
 have r4:=RdE.bd g4
 have Hx4:=hI0 f4
 have Hy4:=hI0 g4
 have HL3:=hI0 hL3
 have HL4:=hI0 hL4
 have ss1:((xcols.length:Int) != (xcols.length:Int))=false:=by simp
 have ss3:((xfors.length:Int) != (yfors.length:Int))=false:=by have:=er_len HL3.out;simp [this]
 have ss4:((xchks.length:Int) != (ychks.length:Int))=false:=by have:=er_len HL4.out;simp [this]
 have HXI:=hI0 hx
 have HYI:=hI0 hy
 have HKX:=hI0 kx
 have HKY:=hI0 ky
 clear hx hy kx ky f1 f3 f4 g1 g3 g4 hL3 hL4
 obtain ⟨W,hW⟩:=eN0 ((w.alloc (.cells #[.string xnm,.slice xcolA xcols.length xcolC,.slice xkeyA xkey.length xkeyC,.slice xforA xfors.length xforC,.slice xchkA xchks.length xchkC] 73)).alloc (.cells #[.string xnm,.slice ycolA xcols.length ycolC,.slice ykeyA xkey.length ykeyC,.slice yforA yfors.length yforC,.slice ychkA ychks.length ychkC] 73))
 have hbW:Bl w W:=by rw [hW];exact (Below.of_alloc _).alloc (by simp) _
 have hWs:w.heap.size+1<W.heap.size:=by rw [hW];simp
 have hT:W.heap[w.heap.size]? =some (.cells #[.string xnm,.slice xcolA xcols.length xcolC,.slice xkeyA xkey.length xkeyC,.slice xforA xfors.length xforC,.slice xchkA xchks.length xchkC] 73 (0,0)):=by
  rw [hW]
  exact ((Below.of_alloc (w:=w.alloc (.cells #[.string xnm,.slice xcolA xcols.length xcolC,.slice xkeyA xkey.length xkeyC,.slice xforA xfors.length xforC,.slice xchkA xchks.length xchkC] 73)) (.cells #[.string xnm,.slice ycolA xcols.length ycolC,.slice ykeyA xkey.length ykeyC,.slice yforA yfors.length yforC,.slice ychkA ychks.length ychkC] 73)).block _ (by simp)).trans (heap_alloc_new _ _)
 have hU:W.heap[w.heap.size+1]? =some (.cells #[.string xnm,.slice ycolA xcols.length ycolC,.slice ykeyA xkey.length ykeyC,.slice yforA yfors.length yforC,.slice ychkA ychks.length ychkC] 73 (0,0)):=by
  rw [hW]
  have h:=heap_alloc_new (w.alloc (.cells #[.string xnm,.slice xcolA xcols.length xcolC,.slice xkeyA xkey.length xkeyC,.slice xforA xfors.length xforC,.slice xchkA xchks.length xchkC] 73)) (.cells #[.string xnm,.slice ycolA xcols.length ycolC,.slice ykeyA xkey.length ykeyC,.slice yforA yfors.length yforC,.slice ychkA ychks.length ychkC] 73)
  simpa using h
 have FX:Hid (∀V,Bl W V→V.heap[w.heap.size]? =some (.cells #[.string xnm,.slice xcolA xcols.length xcolC,.slice xkeyA xkey.length xkeyC,.slice xforA xfors.length xforC,.slice xchkA xchks.length xchkC] 73 (0,0))):=hI0 (fun V hV=>(hV.block _ (by omega)).trans hT)
 have FY:Hid (∀V,Bl W V→V.heap[w.heap.size+1]? =some (.cells #[.string xnm,.slice ycolA xcols.length ycolC,.slice ykeyA xkey.length ykeyC,.slice yforA yfors.length yforC,.slice ychkA ychks.length ychkC] 73 (0,0))):=hI0 (fun V hV=>(hV.block _ hWs).trans hU)
 have HBW:=hI0 hbW
 have HC0:Hid (Bl W W):=hI0 (Below.refl _ _)
 have HW:=hI0 hW
 clear hT hU hbW hWs hW
 have c0:=cB 0 (FX.out _ HC0.out)
 have c1:=cB 1 (FX.out _ HC0.out)
 have c2:=cB 2 (FX.out _ HC0.out)
 have c3:=cB 3 (FX.out _ HC0.out)
 have c4:=cB 4 (FX.out _ HC0.out)
 have d0:=cB 0 (FY.out _ HC0.out)
 have d1:=cB 1 (FY.out _ HC0.out)
 have d2:=cB 2 (FY.out _ HC0.out)
 have d3:=cB 3 (FY.out _ HC0.out)
 have d4:=cB 4 (FY.out _ HC0.out)
 have ff0:(xnm.toList != xnm.toList)=false:=by simp
 go_in
 go_wp2_with fail
 try rw [←HW.out]
 have KK2:=(fun (V:World) (hV:Bl w V)=>trB (likeInts_any _ _ xkey xkey V (HXI.out.below hV).key (HYI.out.below hV).key) (sInts_self _)) W (HBW.out.trans (HC0.out.mono HBW.out.size))
 (with_reducible refine KK2.mono ?_)
 rintro _ z2 ⟨rfl,hz2⟩
 clear KK2
 have HC2:=bT0 HC0 hz2
 clear hz2
 clear c0 d0 c1 d1 c2 d2 c3 d3 c4 d4
 have c0:=cB 0 (FX.out _ HC2.out)
 have c1:=cB 1 (FX.out _ HC2.out)
 have c2:=cB 2 (FX.out _ HC2.out)
 have c3:=cB 3 (FX.out _ HC2.out)
 have c4:=cB 4 (FX.out _ HC2.out)
 have d0:=cB 0 (FY.out _ HC2.out)
 have d1:=cB 1 (FY.out _ HC2.out)
 have d2:=cB 2 (FY.out _ HC2.out)
 have d3:=cB 3 (FY.out _ HC2.out)
 have d4:=cB 4 (FY.out _ HC2.out)
 go_wp2_with fail
 clear c0 d0 c1 d1 c2 d2 c3 d3 c4 d4
 go_loopw [51] (fun i wr=>∃k:Nat,i=.int .i64 (k:Int)∧k≤xcols.length∧Hid (Bl W wr)) (fun i _=>xcols.length-(intOf i).toNat)
 case atStart=>exact ⟨0,rfl,Nat.zero_le _,HC2⟩
 obtain ⟨k,rfl,hk,HB3⟩:=hrel
 obtain ⟨wi3,rfl⟩:=eN0 wr
 by_cases hlt:k<xcols.length
 case neg=>
  have hlt3:¬(k:Int)<(xcols.length:Int):=by omega
  clear hlt hk
  have c0:=cB 0 (FX.out _ HB3.out)
  have c1:=cB 1 (FX.out _ HB3.out)
  have c2:=cB 2 (FX.out _ HB3.out)
  have c3:=cB 3 (FX.out _ HB3.out)
  have c4:=cB 4 (FX.out _ HB3.out)
  have d0:=cB 0 (FY.out _ HB3.out)
  have d1:=cB 1 (FY.out _ HB3.out)
  have d2:=cB 2 (FY.out _ HB3.out)
  have d3:=cB 3 (FY.out _ HB3.out)
  have d4:=cB 4 (FY.out _ HB3.out)
  go_wp2_with fail
  clear c0 d0 c1 d1 c2 d2 c3 d3 c4 d4
  go_loopw [69] (fun i wr=>∃k:Nat,i=.int .i64 (k:Int)∧k≤xfors.length∧Hid (Bl W wr)) (fun i _=>xfors.length-(intOf i).toNat)
  case atStart=>exact ⟨0,rfl,Nat.zero_le _,HB3⟩
  obtain ⟨k,rfl,hk,HB4⟩:=hrel
  obtain ⟨wi4,rfl⟩:=eN0 wr
  by_cases hlt:k<xfors.length
  case neg=>
   have hlt3:¬(k:Int)<(xfors.length:Int):=by omega
   clear hlt hk
   have c0:=cB 0 (FX.out _ HB4.out)
   have c1:=cB 1 (FX.out _ HB4.out)
   have c2:=cB 2 (FX.out _ HB4.out)
   have c3:=cB 3 (FX.out _ HB4.out)
   have c4:=cB 4 (FX.out _ HB4.out)
   have d0:=cB 0 (FY.out _ HB4.out)
   have d1:=cB 1 (FY.out _ HB4.out)
   have d2:=cB 2 (FY.out _ HB4.out)
   have d3:=cB 3 (FY.out _ HB4.out)
   have d4:=cB 4 (FY.out _ HB4.out)
   go_wp2_with fail
   clear c0 d0 c1 d1 c2 d2 c3 d3 c4 d4
   go_loopw [105] (fun i wr=>∃k:Nat,i=.int .i64 (k:Int)∧k≤xchks.length∧Hid (Bl W wr)) (fun i _=>xchks.length-(intOf i).toNat)
   case atStart=>exact ⟨0,rfl,Nat.zero_le _,HB4⟩
   obtain ⟨k,rfl,hk,HB5⟩:=hrel
   obtain ⟨wi5,rfl⟩:=eN0 wr
   by_cases hlt:k<xchks.length
   case neg=>
    have hlt3:¬(k:Int)<(xchks.length:Int):=by omega
    clear hlt hk
    have c0:=cB 0 (FX.out _ HB5.out)
    have c1:=cB 1 (FX.out _ HB5.out)
    have c2:=cB 2 (FX.out _ HB5.out)
    have c3:=cB 3 (FX.out _ HB5.out)
    have c4:=cB 4 (FX.out _ HB5.out)
    have d0:=cB 0 (FY.out _ HB5.out)
    have d1:=cB 1 (FY.out _ HB5.out)
    have d2:=cB 2 (FY.out _ HB5.out)
    have d3:=cB 3 (FY.out _ HB5.out)
    have d4:=cB 4 (FY.out _ HB5.out)
    go_wp2_with fail
    go_ret
    exact ⟨rfl,(HBW.out.trans (HB5.out.mono HBW.out.size))⟩
   have hlt':k<ychks.length:=by have:=er_len HL4.out;omega
   have hlt4:(k:Int)<(ychks.length:Int):=by omega
   have hlt3:(k:Int)<(xchks.length:Int):=by omega
   obtain ⟨b,off,rfl,hF,hcl⟩:=RdE.at_ (K:=7) (enc:=RE.enc) (fun e=>by cases e;rfl) (by omega) Hx4.out hlt
   obtain ⟨b',off',rfl,hF',hcl'⟩:=RdE.at_ (K:=7) (enc:=RE.enc) (fun e=>by cases e;rfl) (by omega) Hy4.out hlt'
   have HBL:=hI0 hF
   have HBM:=hI0 hF'
   have hcx:=hcl k hlt
   have hcy:=hcl' k hlt'
   have hxy:=er_at HL4.out hlt hlt'
   have ha:=List.getElem_mem hlt
   have hb:=List.getElem_mem hlt'
   obtain ⟨x,hx⟩:=eN0 (xchks[k])
   obtain ⟨y,hy⟩:=eN0 (ychks[k])
   rw [←hx] at hcx hxy ha
   rw [←hy] at hcy hxy hb
   clear hx hy hcl hcl' hF hF'
   have K0:=fun (V:World) (hV:Bl w V)=>likeExpr_any _ x y V (Nat.le_refl _) hxy ((HKX.out _ ha).blw hV) ((HKY.out _ hb).blw hV)
   obtain ⟨xo,xi,⟨x1,x2,x3⟩,xn,xA,xc,xas⟩:=x
   obtain ⟨yo,yi,⟨y1,y2,y3⟩,yn,yA,yc,yas⟩:=y
   rw [RE.er_mk,RE.er_mk] at hxy
   simp only [RE.mk.injEq,Val.mk.injEq,true_and] at hxy
   obtain ⟨rfl,rfl,⟨rfl,rfl,rfl⟩,rfl,hL1⟩:=hxy
   have KC:∀(V:World),Bl w V→Calls prog 154 #[.agg #[.int .i64 xo,.int .i64 xi,.int .i64 x1,.int .i64 x2,.string x3,.string xn,.slice xA xas.length xc],.agg #[.int .i64 xo,.int .i64 xi,.int .i64 x1,.int .i64 x2,.string x3,.string xn,.slice yA yas.length yc]] V (TrB V):=K0
   clear K0
   have g0:w.cell? ⟨b,off+k*7,none⟩=some (.int .i64 xo):=hcx 0 _ (by decide) rfl
   have g1:=hcx 1 _ (by decide) rfl
   have g2:=hcx 2 _ (by decide) rfl
   have g3:=hcx 3 _ (by decide) rfl
   have g4:=hcx 4 _ (by decide) rfl
   have g5:=hcx 5 _ (by decide) rfl
   have g6:=hcx 6 _ (by decide) rfl
   have h0:w.cell? ⟨b',off'+k*7,none⟩=some (.int .i64 xo):=hcy 0 _ (by decide) rfl
   have h1:=hcy 1 _ (by decide) rfl
   have h2:=hcy 2 _ (by decide) rfl
   have h3:=hcy 3 _ (by decide) rfl
   have h4:=hcy 4 _ (by decide) rfl
   have h5:=hcy 5 _ (by decide) rfl
   have h6:=hcy 6 _ (by decide) rfl
   clear hcx hcy ha hb hL1
   have ff0:(xo != xo)=false:=by simp
   have ee0:(xo==xo)=true:=by simp
   have ff1:(xi != xi)=false:=by simp
   have ee1:(xi==xi)=true:=by simp
   have ff2:(x1 != x1)=false:=by simp
   have ee2:(x1==x1)=true:=by simp
   have ff3:(x2 != x2)=false:=by simp
   have ee3:(x2==x2)=true:=by simp
   have ff4:(x3.toList != x3.toList)=false:=by simp
   have ff5:(xn.toList != xn.toList)=false:=by simp
   go_wp2_with fail
   refine wp_region_noPanic ?_
   refine wp_region_held_drew (S:=(fun w'=>Bl W w')) (by kernel_rfl) ?_ (fun zh=>?_)
   ·exact HB5.out.drew
   refine hT 0 108 ?_
   refine hU 1 109 (v:=?_) zh ?_ ?_
   rotate_left
   ·intro w' hSw;(try dsimp only at hSw);have q0:=cW0 w' _ 4 _ _ _ (FX.out _ hSw);go_simp<;>with_reducible rfl
   refine hT 2 110 ?_
   refine hT 3 111 ?_
   refine hU 4 112 (v:=?_) zh ?_ ?_
   rotate_left
   ·exact zq23
   refine hT 5 113 ?_
   refine hU 6 114 (v:=?_) zh ?_ ?_
   rotate_left
   ·intro w' hSw;(try dsimp only at hSw);have q0:=cW0 w' _ 4 _ _ _ (FY.out _ hSw);go_simp<;>with_reducible rfl
   refine hT 7 115 ?_
   refine hT 8 116 ?_
   refine hU 9 117 (v:=?_) zh ?_ ?_
   rotate_left
   ·exact zq24
   refine hC 10 118 ?_
   (with_reducible refine (KC _ (bU0 HBW zh)).mono ?_)
   rintro _ z ⟨rfl,hz⟩
   refine ⟨_,rfl,keepAnd (Below.trans zh (hz.mono zh.size)) ?_⟩
   clear zh
   intro zh
   simp only [aP]
   refine hT 11 119 ?_
   refine rD0 ?_
   have HZ:Hid (Bl W _):=hI0 zh
   go_wp2_with fail
   go_roundw
   case rel=>exact ⟨k+1,by go_num,hlt,HZ⟩
   case measure=>simp [intOf];omega
  have hlt':k<yfors.length:=by have:=er_len HL3.out;omega
  have hlt4:(k:Int)<(yfors.length:Int):=by omega
  have hlt3:(k:Int)<(xfors.length:Int):=by omega
  obtain ⟨b,off,rfl,hF,hcl⟩:=RdE.at_ (K:=2) (enc:=RFor.enc) (fun _=>rfl) (by omega) Hx3.out hlt
  obtain ⟨b',off',rfl,hF',hcl'⟩:=RdE.at_ (K:=2) (enc:=RFor.enc) (fun _=>rfl) (by omega) Hy3.out hlt'
  have HBL:=hI0 hF
  have HBM:=hI0 hF'
  have hcx:=hcl k hlt
  have hcy:=hcl' k hlt'
  have hxy:=er_at HL3.out hlt hlt'
  have ha:=List.getElem_mem hlt
  have hb:=List.getElem_mem hlt'
  obtain ⟨x,hx⟩:=eN0 (xfors[k])
  obtain ⟨y,hy⟩:=eN0 (yfors[k])
  rw [←hx] at hcx hxy ha
  rw [←hy] at hcy hxy hb
  clear hx hy hcl hcl' hF hF'
  have K0:=fun (V:World) (hV:Bl w V)=>trB (likeInts_any _ _ x.cols y.cols V (RdE.below (HXI.out.forI _ ha) hV) (RdE.below (HYI.out.forI _ hb) hV)) (by rw [show x.cols=y.cols from (congrArg RFor.cols hxy:x.er.cols=y.er.cols)];exact sInts_self _)
  obtain ⟨xA,xc,xl,xt⟩:=x
  obtain ⟨yA,yc,yl,yt⟩:=y
  simp only [RFor.er,RFor.mk.injEq,true_and] at hxy
  obtain ⟨rfl,rfl⟩:=hxy
  have KC:∀(V:World),Bl w V→Calls prog 153 #[.slice xA xl.length xc,.slice yA xl.length yc] V (TrB V):=K0
  clear K0
  have g0:w.cell? ⟨b,off+k*2,none⟩=some (.slice xA xl.length xc):=hcx 0 _ (by decide) rfl
  have g1:=hcx 1 _ (by decide) rfl
  have h0:w.cell? ⟨b',off'+k*2,none⟩=some (.slice yA xl.length yc):=hcy 0 _ (by decide) rfl
  have h1:=hcy 1 _ (by decide) rfl
  clear hcx hcy ha hb
  have ff1:(xt.toList != xt.toList)=false:=by simp
  go_wp2_with fail
  refine wp_region_noPanic ?_
  refine wp_region_held_drew (S:=(fun w'=>Bl W w')) (by kernel_rfl) ?_ (fun zh=>?_)
  ·exact HB4.out.drew
  refine hT 0 72 ?_
  refine hU 1 73 (v:=?_) zh ?_ ?_
  rotate_left
  ·intro w' hSw;(try dsimp only at hSw);have q0:=cW0 w' _ 3 _ _ _ (FX.out _ hSw);go_simp<;>with_reducible rfl
  refine hT 2 74 ?_
  refine hT 3 75 ?_
  refine hT 4 76 ?_
  refine hU 5 77 (v:=?_) zh ?_ ?_
  rotate_left
  ·intro w' hSw;(try dsimp only at hSw);have Z:=(bU0 HBW hSw).block _ HBL.out;have q1:=cQ Z g1;go_simp<;>with_reducible rfl
  refine hT 6 78 ?_
  refine hU 7 79 (v:=?_) zh ?_ ?_
  rotate_left
  ·intro w' hSw;(try dsimp only at hSw);have q0:=cW0 w' _ 3 _ _ _ (FY.out _ hSw);go_simp<;>with_reducible rfl
  refine hT 8 80 ?_
  refine hT 9 81 ?_
  refine hT 10 82 ?_
  refine hU 11 83 (v:=?_) zh ?_ ?_
  rotate_left
  ·intro w' hSw;(try dsimp only at hSw);have Z:=(bU0 HBW hSw).block _ HBM.out;have q1:=cQ Z h1;go_simp<;>with_reducible rfl
  refine hT 12 84 ?_
  refine hT 13 85 ?_
  refine hT 14 86 ?_
  refine hU 15 87 (v:=?_) zh ?_ ?_
  rotate_left
  ·intro w' hSw;(try dsimp only at hSw);have q0:=cW0 w' _ 3 _ _ _ (FX.out _ hSw);go_simp<;>with_reducible rfl
  refine hT 16 88 ?_
  refine hT 17 89 ?_
  refine hT 18 90 ?_
  refine hU 19 91 (v:=?_) zh ?_ ?_
  rotate_left
  ·intro w' hSw;(try dsimp only at hSw);have Z:=(bU0 HBW hSw).block _ HBL.out;have q0:=cQ Z g0;go_simp<;>with_reducible rfl
  refine hT 20 92 ?_
  refine hU 21 93 (v:=?_) zh ?_ ?_
  rotate_left
  ·intro w' hSw;(try dsimp only at hSw);have q0:=cW0 w' _ 3 _ _ _ (FY.out _ hSw);go_simp<;>with_reducible rfl
  refine hT 22 94 ?_
  refine hT 23 95 ?_
  refine hT 24 96 ?_
  refine hU 25 97 (v:=?_) zh ?_ ?_
  rotate_left
  ·intro w' hSw;(try dsimp only at hSw);have Z:=(bU0 HBW hSw).block _ HBM.out;have q0:=cQ Z h0;go_simp<;>with_reducible rfl
  refine hC 26 98 ?_
  (with_reducible refine (KC _ (bU0 HBW zh)).mono ?_)
  rintro _ z ⟨rfl,hz⟩
  refine ⟨_,rfl,keepAnd (Below.trans zh (hz.mono zh.size)) ?_⟩
  clear zh
  intro zh
  simp only [aP]
  refine hT 27 99 ?_
  refine hT 28 100 ?_
  refine rD0 ?_
  have HZ:Hid (Bl W _):=hI0 zh
  go_wp2_with fail
  go_roundw
  case rel=>exact ⟨k+1,by go_num,hlt,HZ⟩
  case measure=>simp [intOf];omega
 have hlt3:(k:Int)<(xcols.length:Int):=by omega
 obtain ⟨b,off,rfl,hF,hcl⟩:=RdE.at_ (K:=3) (enc:=RCol.enc) (fun _=>rfl) (by omega) Hx1.out hlt
 obtain ⟨b',off',rfl,hF',hcl'⟩:=RdE.at_ (K:=3) (enc:=RCol.enc) (fun _=>rfl) (by omega) Hy1.out hlt
 have HBL:=hI0 hF
 have HBM:=hI0 hF'
 have hcx:=hcl k hlt
 have hcy:=hcl' k hlt
 obtain ⟨x,hx⟩:=eN0 (xcols[k])
 rw [←hx] at hcx hcy
 clear hx hcl hcl' hF hF'
 obtain ⟨x1,x2,x3⟩:=x
 have g0:w.cell? ⟨b,off+k*3,none⟩=some (.string x1):=hcx 0 _ (by decide) rfl
 have g1:=hcx 1 _ (by decide) rfl
 have g2:=hcx 2 _ (by decide) rfl
 have h0:w.cell? ⟨b',off'+k*3,none⟩=some (.string x1):=hcy 0 _ (by decide) rfl
 have h1:=hcy 1 _ (by decide) rfl
 have h2:=hcy 2 _ (by decide) rfl
 clear hcx hcy
 have ff0:(x1.toList != x1.toList)=false:=by simp
 have ff1:(x2 != x2)=false:=by simp
 have ee1:(x2==x2)=true:=by simp
 have ff2:(x3 != x3)=false:=by simp
 have ee2:(x3==x3)=true:=by simp
 go_wp2_with fail
 refine wp_region_noPanic ?_
 refine wp_region_held_drew (S:=(fun w'=>Bl W w')) (by kernel_rfl) ?_ (fun zh=>?_)
 ·exact HB3.out.drew
 refine hT 0 54 ?_
 refine hU 1 55 (v:=?_) zh ?_ ?_
 rotate_left
 ·intro w' hSw;(try dsimp only at hSw);have q0:=cW0 w' _ 1 _ _ _ (FX.out _ hSw);go_simp<;>with_reducible rfl
 refine hT 2 56 ?_
 refine hT 3 57 ?_
 refine hU 4 58 (v:=?_) zh ?_ ?_
 rotate_left
 ·intro w' hSw;(try dsimp only at hSw);have Z:=(bU0 HBW hSw).block _ HBL.out;have q0:=cQ Z g0;have q1:=cQ Z g1;have q2:=cQ Z g2;go_simp<;>with_reducible rfl
 refine hT 5 59 ?_
 refine hU 6 60 (v:=?_) zh ?_ ?_
 rotate_left
 ·intro w' hSw;(try dsimp only at hSw);have q0:=cW0 w' _ 1 _ _ _ (FY.out _ hSw);go_simp<;>with_reducible rfl
 refine hT 7 61 ?_
 refine hT 8 62 ?_
 refine hU 9 63 (v:=?_) zh ?_ ?_
 rotate_left
 ·intro w' hSw;(try dsimp only at hSw);have Z:=(bU0 HBW hSw).block _ HBM.out;have q0:=cQ Z h0;have q1:=cQ Z h1;have q2:=cQ Z h2;go_simp<;>with_reducible rfl
 refine hT 10 64 ?_
 refine rD0 ?_
 have HZ:Hid (Bl W _):=hI0 zh
 go_wp2_with fail
 go_roundw
 case rel=>exact ⟨k+1,by go_num,hlt,HZ⟩
 case measure=>simp [intOf];omega
theorem likeEntries_any (pents qents:Value) (xents:List REn) (yents:List REn) (hLents:xents.map REn.er=yents.map REn.er) (w:World) (hxents:RdE 16 REn.enc w (ltw w) pents xents) (hyents:RdE 16 REn.enc w (ltw w) qents yents) (hxi:∀n∈xents,n.is w (ltw w)) (hyi:∀n∈yents,n.is w (ltw w)) (kx:∀n∈xents,∀e∈n.create.chks,exAll w (ltw w) e) (ky:∀n∈yents,∀e∈n.create.chks,exAll w (ltw w) e):
  Calls prog 43 #[pents,qents] w (TrB w):=by
 obtain ⟨Aents,cents,rfl,aents,nents,zents⟩:=Rd.open_ (show Rd w _ 16 pents xents.length (xents.flatMap REn.enc) from hxents)
 obtain ⟨Bents,dents,rfl,bents,ments,y'ents⟩:=Rd.open_ (show Rd w _ 16 qents yents.length (yents.flatMap REn.enc) from hyents)
 unfold maxLen at nents ments
 have Hx1:=hI0 hxents
 have Hy1:=hI0 hyents
 clear zents y'ents hxents hyents
 have HL1:=hI0 hLents
 have ss1:((xents.length:Int) != (yents.length:Int))=false:=by have:=er_len HL1.out;simp [this]
 clear hLents
 have HC0:Hid (Bl w w):=hI0 (Below.refl _ _)
 have HXI:=hI0 hxi
 have HYI:=hI0 hyi
 have HKX:=hI0 kx
 have HKY:=hI0 ky
 clear hxi hyi kx ky
 go_in
 go_wp2_with fail
 go_loopw [13] (fun i wr=>∃k:Nat,i=.int .i64 (k:Int)∧k≤xents.length∧Hid (Bl w wr)) (fun i _=>xents.length-(intOf i).toNat)
 case atStart=>exact ⟨0,rfl,Nat.zero_le _,HC0⟩
 obtain ⟨k,rfl,hk,HB6⟩:=hrel
 obtain ⟨wi6,rfl⟩:=eN0 wr
 by_cases hlt:k<xents.length
 case neg=>
  have hlt3:¬(k:Int)<(xents.length:Int):=by omega
  clear hlt hk
  go_wp2_with fail
  go_ret
  exact ⟨rfl,HB6.out⟩
 have hlt':k<yents.length:=by have:=er_len HL1.out;omega
 have hlt4:(k:Int)<(yents.length:Int):=by omega
 have hlt3:(k:Int)<(xents.length:Int):=by omega
 obtain ⟨b,off,rfl,hF,hcl⟩:=RdE.at_ (K:=16) (enc:=REn.enc) (fun _=>rfl) (by omega) Hx1.out hlt
 obtain ⟨b',off',rfl,hF',hcl'⟩:=RdE.at_ (K:=16) (enc:=REn.enc) (fun _=>rfl) (by omega) Hy1.out hlt'
 have HBL:=hI0 hF
 have HBM:=hI0 hF'
 have hcx:=hcl k hlt
 have hcy:=hcl' k hlt'
 have hxy:=er_at HL1.out hlt hlt'
 have ha:=List.getElem_mem hlt
 have hb:=List.getElem_mem hlt'
 obtain ⟨x,hx⟩:=eN0 (xents[k])
 obtain ⟨y,hy⟩:=eN0 (yents[k])
 rw [←hx] at hcx hxy ha
 rw [←hy] at hcy hxy hb
 clear hx hy hcl hcl' hF hF'
 have K0:=fun (V:World) (hV:Bl w V)=>likeTable_any x.create y.create (congrArg REn.create hxy) V ((HXI.out _ ha).create.below hV) ((HYI.out _ hb).create.below hV) (fun e he=>(HKX.out _ ha e he).blw hV) (fun e he=>(HKY.out _ hb e he).blw hV)
 obtain ⟨xtm,xtb,⟨xnm,xcolA,xcolC,xcols,xkeyA,xkeyC,xkey,xforA,xforC,xfors,xchkA,xchkC,xchks⟩,⟨x1,x2,x3,x4,x5,x6,⟨x7,x8,x9⟩⟩⟩:=x
 obtain ⟨ytm,ytb,⟨ynm,ycolA,ycolC,ycols,ykeyA,ykeyC,ykey,yforA,yforC,yfors,ychkA,ychkC,ychks⟩,⟨y1,y2,y3,y4,y5,y6,⟨y7,y8,y9⟩⟩⟩:=y
 simp only [REn.er,RTab.er,REn.mk.injEq,RTab.mk.injEq,Chn.mk.injEq,Val.mk.injEq,true_and] at hxy
 obtain ⟨rfl,rfl,⟨rfl,rfl,rfl,hL3,hL4⟩,rfl,rfl,rfl,rfl,rfl,rfl,rfl,rfl,rfl⟩:=hxy
 have KC:∀(V:World),Bl w V→Calls prog 104 #[.agg #[.string xnm,.slice xcolA xcols.length xcolC,.slice xkeyA xkey.length xkeyC,.slice xforA xfors.length xforC,.slice xchkA xchks.length xchkC],.agg #[.string xnm,.slice ycolA xcols.length ycolC,.slice ykeyA xkey.length ykeyC,.slice yforA yfors.length yforC,.slice ychkA ychks.length ychkC]] V (TrB V):=K0
 clear K0
 have g0:w.cell? ⟨b,off+k*16,none⟩=some (.int .i64 xtm):=hcx 0 _ (by decide) rfl
 have g1:=hcx 1 _ (by decide) rfl
 have g2:=hcx 2 _ (by decide) rfl
 have g3:=hcx 3 _ (by decide) rfl
 have g4:=hcx 4 _ (by decide) rfl
 have g5:=hcx 5 _ (by decide) rfl
 have g6:=hcx 6 _ (by decide) rfl
 have g7:=hcx 7 _ (by decide) rfl
 have g8:=hcx 8 _ (by decide) rfl
 have g9:=hcx 9 _ (by decide) rfl
 have g10:=hcx 10 _ (by decide) rfl
 have g11:=hcx 11 _ (by decide) rfl
 have g12:=hcx 12 _ (by decide) rfl
 have g13:=hcx 13 _ (by decide) rfl
 have g14:=hcx 14 _ (by decide) rfl
 have g15:=hcx 15 _ (by decide) rfl
 have h0:w.cell? ⟨b',off'+k*16,none⟩=some (.int .i64 xtm):=hcy 0 _ (by decide) rfl
 have h1:=hcy 1 _ (by decide) rfl
 have h2:=hcy 2 _ (by decide) rfl
 have h3:=hcy 3 _ (by decide) rfl
 have h4:=hcy 4 _ (by decide) rfl
 have h5:=hcy 5 _ (by decide) rfl
 have h6:=hcy 6 _ (by decide) rfl
 have h7:=hcy 7 _ (by decide) rfl
 have h8:=hcy 8 _ (by decide) rfl
 have h9:=hcy 9 _ (by decide) rfl
 have h10:=hcy 10 _ (by decide) rfl
 have h11:=hcy 11 _ (by decide) rfl
 have h12:=hcy 12 _ (by decide) rfl
 have h13:=hcy 13 _ (by decide) rfl
 have h14:=hcy 14 _ (by decide) rfl
 have h15:=hcy 15 _ (by decide) rfl
 clear hcx hcy ha hb hL3 hL4
 have ff0:(xtm != xtm)=false:=by simp
 have ee0:(xtm==xtm)=true:=by simp
 have ff1:(xtb.toList != xtb.toList)=false:=by simp
 have ff2:(xnm.toList != xnm.toList)=false:=by simp
 have ff7:(x1 != x1)=false:=by simp
 have ee7:(x1==x1)=true:=by simp
 have ff8:(x2.toList != x2.toList)=false:=by simp
 have ff9:(x3.toList != x3.toList)=false:=by simp
 have ff10:(x4.toList != x4.toList)=false:=by simp
 have ff11:(x5 != x5)=false:=by simp
 have ee11:(x5==x5)=true:=by simp
 have ff12:(x6 != x6)=false:=by simp
 have ee12:(x6==x6)=true:=by simp
 have ff13:(x7 != x7)=false:=by simp
 have ee13:(x7==x7)=true:=by simp
 have ff14:(x8 != x8)=false:=by simp
 have ee14:(x8==x8)=true:=by simp
 have ff15:(x9.toList != x9.toList)=false:=by simp
 go_wp2_with fail
 refine wp_region_noPanic ?_
 refine wp_region_held_drew (S:=(fun w'=>Bl w w')) (by kernel_rfl) ?_ (fun zh=>?_)
 ·exact HB6.out.drew
 refine hT 0 16 ?_
 refine hT 1 17 ?_
 refine hT 2 18 ?_
 refine hT 3 19 ?_
 refine hU 4 20 (v:=?_) zh ?_ ?_
 rotate_left
 ·intro w' hSw;(try dsimp only at hSw);have Z:=hSw.block _ HBL.out;have q0:=cQ Z g0;go_simp<;>with_reducible rfl
 refine hT 5 21 ?_
 refine hT 6 22 ?_
 refine hT 7 23 ?_
 refine hT 8 24 ?_
 refine hU 9 25 (v:=?_) zh ?_ ?_
 rotate_left
 ·intro w' hSw;(try dsimp only at hSw);have Z:=hSw.block _ HBM.out;have q0:=cQ Z h0;go_simp<;>with_reducible rfl
 refine hT 10 26 ?_
 refine hT 11 27 ?_
 refine hT 12 28 ?_
 refine hT 13 29 ?_
 refine hT 14 30 ?_
 refine hT 15 31 ?_
 refine hU 16 32 (v:=?_) zh ?_ ?_
 rotate_left
 ·intro w' hSw;(try dsimp only at hSw);have Z:=hSw.block _ HBL.out;have q1:=cQ Z g1;go_simp<;>with_reducible rfl
 refine hT 17 33 ?_
 refine hT 18 34 ?_
 refine hT 19 35 ?_
 refine hT 20 36 ?_
 refine hU 21 37 (v:=?_) zh ?_ ?_
 rotate_left
 ·intro w' hSw;(try dsimp only at hSw);have Z:=hSw.block _ HBM.out;have q1:=cQ Z h1;go_simp<;>with_reducible rfl
 refine hT 22 38 ?_
 refine hT 23 39 ?_
 refine hT 24 40 ?_
 refine hT 25 41 ?_
 refine hT 26 42 ?_
 refine hT 27 43 ?_
 refine hT 28 44 ?_
 refine hU 29 45 (v:=?_) zh ?_ ?_
 rotate_left
 ·intro w' hSw;(try dsimp only at hSw);have Z:=hSw.block _ HBL.out;have q7:=cQ Z g7;have q8:=cQ Z g8;have q9:=cQ Z g9;have q10:=cQ Z g10;have q11:=cQ Z g11;have q12:=cQ Z g12;have q13:=cQ Z g13;have q14:=cQ Z g14;have q15:=cQ Z g15;go_simp<;>with_reducible rfl
 refine hT 30 46 ?_
 refine hT 31 47 ?_
 refine hT 32 48 ?_
 refine hT 33 49 ?_
 refine hU 34 50 (v:=?_) zh ?_ ?_
 rotate_left
 ·intro w' hSw;(try dsimp only at hSw);have Z:=hSw.block _ HBM.out;have q7:=cQ Z h7;have q8:=cQ Z h8;have q9:=cQ Z h9;have q10:=cQ Z h10;have q11:=cQ Z h11;have q12:=cQ Z h12;have q13:=cQ Z h13;have q14:=cQ Z h14;have q15:=cQ Z h15;go_simp<;>with_reducible rfl
 refine hT 35 51 ?_
 refine hT 36 52 ?_
 refine hT 37 53 ?_
 refine hT 38 54 ?_
 refine hT 39 55 ?_
 refine hT 40 56 ?_
 refine hT 41 57 ?_
 refine hU 42 58 (v:=?_) zh ?_ ?_
 rotate_left
 ·intro w' hSw;(try dsimp only at hSw);have Z:=hSw.block _ HBL.out;have q2:=cQ Z g2;have q3:=cQ Z g3;have q4:=cQ Z g4;have q5:=cQ Z g5;have q6:=cQ Z g6;go_simp<;>with_reducible rfl
 refine hT 43 59 ?_
 refine hT 44 60 ?_
 refine hT 45 61 ?_
 refine hT 46 62 ?_
 refine hU 47 63 (v:=?_) zh ?_ ?_
 rotate_left
 ·intro w' hSw;(try dsimp only at hSw);have Z:=hSw.block _ HBM.out;have q2:=cQ Z h2;have q3:=cQ Z h3;have q4:=cQ Z h4;have q5:=cQ Z h5;have q6:=cQ Z h6;go_simp<;>with_reducible rfl
 refine hC 48 64 ?_
 (with_reducible refine (KC _ zh).mono ?_)
 rintro _ z ⟨rfl,hz⟩
 refine ⟨_,rfl,keepAnd (Below.trans zh (hz.mono zh.size)) ?_⟩
 clear zh
 intro zh
 simp only [aP]
 refine hT 49 65 ?_
 refine hT 50 66 ?_
 refine rD0 ?_
 have HZ:Hid (Bl w _):=hI0 zh
 go_wp2_with fail
 go_roundw
 case rel=>exact ⟨k+1,by go_num,hlt,HZ⟩
 case measure=>simp [intOf];omega
theorem likeRules_any (ppla qpla:Value) (ppol qpol:Value) (phor qhor:Value) (xpla:List Hld) (xpol:List Pol) (xhor:List Hor) (w:World) (hxpla:RdE 6 Hld.enc w (ltw w) ppla xpla) (hypla:RdE 6 Hld.enc w (ltw w) qpla xpla) (hxpol:RdE 2 Pol.enc w (ltw w) ppol xpol) (hypol:RdE 2 Pol.enc w (ltw w) qpol xpol) (hxhor:RdE 2 Hor.enc w (ltw w) phor xhor) (hyhor:RdE 2 Hor.enc w (ltw w) qhor xhor):
  Calls prog 44 #[ppla,qpla,ppol,qpol,phor,qhor] w (TrB w):=by
 obtain ⟨Apla,cpla,rfl,apla,npla,zpla⟩:=Rd.open_ (show Rd w _ 6 ppla xpla.length (xpla.flatMap Hld.enc) from hxpla)
 obtain ⟨Bpla,dpla,rfl,bpla,mpla,y'pla⟩:=Rd.open_ (show Rd w _ 6 qpla xpla.length (xpla.flatMap Hld.enc) from hypla)
 unfold maxLen at npla mpla
 have Hx1:=hI0 hxpla
 have Hy1:=hI0 hypla
 clear zpla y'pla hxpla hypla
 have ss1:((xpla.length:Int) != (xpla.length:Int))=false:=by simp
 obtain ⟨Apol,cpol,rfl,apol,npol,zpol⟩:=Rd.open_ (show Rd w _ 2 ppol xpol.length (xpol.flatMap Pol.enc) from hxpol)
 obtain ⟨Bpol,dpol,rfl,bpol,mpol,y'pol⟩:=Rd.open_ (show Rd w _ 2 qpol xpol.length (xpol.flatMap Pol.enc) from hypol)
 unfold maxLen at npol mpol
 have Hx2:=hI0 hxpol
 have Hy2:=hI0 hypol
 clear zpol y'pol hxpol hypol
 have ss2:((xpol.length:Int) != (xpol.length:Int))=false:=by simp
 obtain ⟨Ahor,chor,rfl,ahor,nhor,zhor⟩:=Rd.open_ (show Rd w _ 2 phor xhor.length (xhor.flatMap Hor.enc) from hxhor)
 obtain ⟨Bhor,dhor,rfl,bhor,mhor,y'hor⟩:=Rd.open_ (show Rd w _ 2 qhor xhor.length (xhor.flatMap Hor.enc) from hyhor)
 unfold maxLen at nhor mhor
 have Hx3:=hI0 hxhor
 have Hy3:=hI0 hyhor
 clear zhor y'hor hxhor hyhor
 have ss3:((xhor.length:Int) != (xhor.length:Int))=false:=by simp
 have HC0:Hid (Bl w w):=hI0 (Below.refl _ _)
 go_in
 go_wp2_with fail
 go_loopw [37] (fun i wr=>∃k:Nat,i=.int .i64 (k:Int)∧k≤xpla.length∧Hid (Bl w wr)) (fun i _=>xpla.length-(intOf i).toNat)
 case atStart=>exact ⟨0,rfl,Nat.zero_le _,HC0⟩
 obtain ⟨k,rfl,hk,HB7⟩:=hrel
 obtain ⟨wi7,rfl⟩:=eN0 wr
 by_cases hlt:k<xpla.length
 case neg=>
  exact zq14 0
 have hlt3:(k:Int)<(xpla.length:Int):=by omega
 obtain ⟨b,off,rfl,hF,hcl⟩:=RdE.at_ (K:=6) (enc:=Hld.enc) (fun _=>rfl) (by omega) Hx1.out hlt
 obtain ⟨b',off',rfl,hF',hcl'⟩:=RdE.at_ (K:=6) (enc:=Hld.enc) (fun _=>rfl) (by omega) Hy1.out hlt
 have HBL:=hI0 hF
 have HBM:=hI0 hF'
 have hcx:=hcl k hlt
 have hcy:=hcl' k hlt
 obtain ⟨x,hx⟩:=eN0 (xpla[k])
 rw [←hx] at hcx hcy
 clear hx hcl hcl' hF hF'
 obtain ⟨x1,x2,x3,x4,x5,x6⟩:=x
 have g0:w.cell? ⟨b,off+k*6,none⟩=some (.string x1):=hcx 0 _ (by decide) rfl
 have g1:=hcx 1 _ (by decide) rfl
 have g2:=hcx 2 _ (by decide) rfl
 have g3:=hcx 3 _ (by decide) rfl
 have g4:=hcx 4 _ (by decide) rfl
 have g5:=hcx 5 _ (by decide) rfl
 have h0:w.cell? ⟨b',off'+k*6,none⟩=some (.string x1):=hcy 0 _ (by decide) rfl
 have h1:=hcy 1 _ (by decide) rfl
 have h2:=hcy 2 _ (by decide) rfl
 have h3:=hcy 3 _ (by decide) rfl
 have h4:=hcy 4 _ (by decide) rfl
 have h5:=hcy 5 _ (by decide) rfl
 clear hcx hcy
 have ff0:(x1.toList != x1.toList)=false:=by simp
 have ff1:(x2.toList != x2.toList)=false:=by simp
 have ff2:(x3 != x3)=false:=by simp
 have ee2:(x3==x3)=true:=by simp
 have ff3:(x4 != x4)=false:=by simp
 have ee3:(x4==x4)=true:=by simp
 have ff4:(x5 != x5)=false:=by simp
 have ee4:(x5==x5)=true:=by simp
 have ff5:(x6 != x6)=false:=by simp
 have ee5:(x6==x6)=true:=by simp
 go_wp2_with fail
 refine wp_region_noPanic ?_
 refine wp_region_held_drew (S:=(fun w'=>Bl w w')) (by kernel_rfl) ?_ (fun zh=>?_)
 ·exact HB7.out.drew
 refine hT 0 40 ?_
 refine hT 1 41 ?_
 refine hT 2 42 ?_
 refine hU 3 43 (v:=?_) zh ?_ ?_
 rotate_left
 ·intro w' hSw;(try dsimp only at hSw);have Z:=hSw.block _ HBL.out;have q0:=cQ Z g0;have q1:=cQ Z g1;have q2:=cQ Z g2;have q3:=cQ Z g3;have q4:=cQ Z g4;have q5:=cQ Z g5;go_simp<;>with_reducible rfl
 refine hT 4 44 ?_
 refine hT 5 45 ?_
 refine hT 6 46 ?_
 refine hU 7 47 (v:=?_) zh ?_ ?_
 rotate_left
 ·intro w' hSw;(try dsimp only at hSw);have Z:=hSw.block _ HBM.out;have q0:=cQ Z h0;have q1:=cQ Z h1;have q2:=cQ Z h2;have q3:=cQ Z h3;have q4:=cQ Z h4;have q5:=cQ Z h5;go_simp<;>with_reducible rfl
 refine hT 8 48 ?_
 refine rD0 ?_
 have HZ:Hid (Bl w _):=hI0 zh
 go_wp2_with fail
 go_roundw
 case rel=>exact ⟨k+1,by go_num,hlt,HZ⟩
 case measure=>simp [intOf];omega
end Go.Proofs.YtgfhknnklapldaaGreatDoor
namespace Go.Proofs.YtgfhknnklapldaaGreatDoor
set_option maxRecDepth 99999
set_option maxHeartbeats 0
open Go.RowKit Go.Lib Go.IntWalk Go.Sort Go.Shelf
def xs7:List Val:=[⟨1,7,⟨#[]⟩⟩]
theorem exAll.below {w w':World} {e:RE} (h:exAll w (ltw w) e) (hb:Bl w w'):exAll w' (ltw w') e:=fun d=>exIs_below hb d e (h d)
theorem exAll.args {w:World} {F:Nat→Prop} {op it:Int} {v:Val} {nm:ByteArray} {A:Option Addr} {c:Nat} {args:List RE} (h:exAll w F (.mk op it v nm A c args)):RdE 7 RE.enc w F (.slice A args.length c) args∧∀a∈args,exAll w F a:=
 ⟨(h 1).1,fun a ha d=>(h (d+1)).2.2.2 a ha⟩
end Go.Proofs.YtgfhknnklapldaaGreatDoor
namespace Go.Proofs.YtgfhknnklapldaaGreatDoor
open Go.Proofs.Tryz
set_option maxRecDepth 99999
set_option maxHeartbeats 0
open Go.RowKit Go.Lib Go.IntWalk Go.Sort Go.Shelf
theorem vers_er {x y:RTv} (h:x.er=y.er):x.vers.map (·.2)=y.vers.map (·.2):=by
 have a:(x.vers.map verEr).map (·.2)=(y.vers.map verEr).map (·.2):=congrArg (fun z:RTv=>z.vers.map (·.2)) h
 rw [List.map_map,List.map_map] at a
 exact a
theorem likeState_any (x y:RSt) (hxy:x.er=y.er) (w:World) (hx:x.is w (ltw w)) (hy:y.is w (ltw w)) (kx:∀n∈x.ents,∀e∈n.create.chks,exAll w (ltw w) e) (ky:∀n∈y.ents,∀e∈n.create.chks,exAll w (ltw w) e):
  Calls prog 17 #[.agg (RSt.enc x).toArray,.agg (RSt.enc y).toArray] w (TrB w):=by
 obtain ⟨xtx,xtm,xwl,xnx,xeA,xeC,xents,xsA,xsC,xstms,xtA,xtC,xtabs,xpA,xpC,xpla,xqA,xqC,xpol,xhA,xhC,xhor⟩:=x
 obtain ⟨ytx,ytm,ywl,ynx,yeA,yeC,yents,ysA,ysC,ystms,ytA,ytC,ytabs,ypA,ypC,ypla,yqA,yqC,ypol,yhA,yhC,yhor⟩:=y
 simp only [RSt.er,RSt.mk.injEq,true_and] at hxy
 obtain ⟨rfl,rfl,rfl,rfl,hL5,rfl,hL1,rfl,rfl,rfl⟩:=hxy
 show Calls prog 17 #[.agg #[.int .i64 xtx,.int .i64 xtm,.int .i64 xwl,.int .i64 xnx,.slice xeA xents.length xeC,.slice xsA xstms.length xsC,.slice xtA xtabs.length xtC,.slice xpA xpla.length xpC,.slice xqA xpol.length xqC,.slice xhA xhor.length xhC],.agg #[.int .i64 xtx,.int .i64 xtm,.int .i64 xwl,.int .i64 xnx,.slice yeA yents.length yeC,.slice ysA xstms.length ysC,.slice ytA ytabs.length ytC,.slice ypA xpla.length ypC,.slice yqA xpol.length yqC,.slice yhA xhor.length yhC]] w (TrB w)
 have f1:RdE 2 Stm.enc w (ltw w) (.slice xsA xstms.length xsC) xstms:=hx.stms
 have g1:RdE 2 Stm.enc w (ltw w) (.slice ysA xstms.length ysC) xstms:=hy.stms
 have q1:=RdE.bd f1
 have r1:=RdE.bd g1
 have Hx1:=hI0 f1
 have Hy1:=hI0 g1
 have f2:RdE 2 RTv.enc w (ltw w) (.slice xtA xtabs.length xtC) xtabs:=hx.tabs
 have g2:RdE 2 RTv.enc w (ltw w) (.slice ytA ytabs.length ytC) ytabs:=hy.tabs
 have q2:=RdE.bd f2
 have r2:=RdE.bd g2
 have Hx2:=hI0 f2
 have Hy2:=hI0 g2
 have HL1:=hI0 hL1
 have HL5:=hI0 hL5
 have ss1:((xstms.length:Int) != (xstms.length:Int))=false:=by simp
 have ss2:((xtabs.length:Int) != (ytabs.length:Int))=false:=by have:=er_len HL1.out;simp [this]
 have HXI:=hI0 hx
 have HYI:=hI0 hy
 have HKX:=hI0 kx
 have HKY:=hI0 ky
 clear hx hy kx ky f1 f2 g1 g2 hL1 hL5
 obtain ⟨W,hW⟩:=eN0 ((w.alloc (.cells #[.int .i64 xtx,.int .i64 xtm,.int .i64 xwl,.int .i64 xnx,.slice xeA xents.length xeC,.slice xsA xstms.length xsC,.slice xtA xtabs.length xtC,.slice xpA xpla.length xpC,.slice xqA xpol.length xqC,.slice xhA xhor.length xhC] 29)).alloc (.cells #[.int .i64 xtx,.int .i64 xtm,.int .i64 xwl,.int .i64 xnx,.slice yeA yents.length yeC,.slice ysA xstms.length ysC,.slice ytA ytabs.length ytC,.slice ypA xpla.length ypC,.slice yqA xpol.length yqC,.slice yhA xhor.length yhC] 29))
 have hbW:Bl w W:=by rw [hW];exact (Below.of_alloc _).alloc (by simp) _
 have hWs:w.heap.size+1<W.heap.size:=by rw [hW];simp
 have hT:W.heap[w.heap.size]? =some (.cells #[.int .i64 xtx,.int .i64 xtm,.int .i64 xwl,.int .i64 xnx,.slice xeA xents.length xeC,.slice xsA xstms.length xsC,.slice xtA xtabs.length xtC,.slice xpA xpla.length xpC,.slice xqA xpol.length xqC,.slice xhA xhor.length xhC] 29 (0,0)):=by
  rw [hW]
  exact ((Below.of_alloc (w:=w.alloc (.cells #[.int .i64 xtx,.int .i64 xtm,.int .i64 xwl,.int .i64 xnx,.slice xeA xents.length xeC,.slice xsA xstms.length xsC,.slice xtA xtabs.length xtC,.slice xpA xpla.length xpC,.slice xqA xpol.length xqC,.slice xhA xhor.length xhC] 29)) (.cells #[.int .i64 xtx,.int .i64 xtm,.int .i64 xwl,.int .i64 xnx,.slice yeA yents.length yeC,.slice ysA xstms.length ysC,.slice ytA ytabs.length ytC,.slice ypA xpla.length ypC,.slice yqA xpol.length yqC,.slice yhA xhor.length yhC] 29)).block _ (by simp)).trans (heap_alloc_new _ _)
 have hU:W.heap[w.heap.size+1]? =some (.cells #[.int .i64 xtx,.int .i64 xtm,.int .i64 xwl,.int .i64 xnx,.slice yeA yents.length yeC,.slice ysA xstms.length ysC,.slice ytA ytabs.length ytC,.slice ypA xpla.length ypC,.slice yqA xpol.length yqC,.slice yhA xhor.length yhC] 29 (0,0)):=by
  rw [hW]
  have h:=heap_alloc_new (w.alloc (.cells #[.int .i64 xtx,.int .i64 xtm,.int .i64 xwl,.int .i64 xnx,.slice xeA xents.length xeC,.slice xsA xstms.length xsC,.slice xtA xtabs.length xtC,.slice xpA xpla.length xpC,.slice xqA xpol.length xqC,.slice xhA xhor.length xhC] 29)) (.cells #[.int .i64 xtx,.int .i64 xtm,.int .i64 xwl,.int .i64 xnx,.slice yeA yents.length yeC,.slice ysA xstms.length ysC,.slice ytA ytabs.length ytC,.slice ypA xpla.length ypC,.slice yqA xpol.length yqC,.slice yhA xhor.length yhC] 29)
  simpa using h
 have FX:Hid (∀V,Bl W V→V.heap[w.heap.size]? =some (.cells #[.int .i64 xtx,.int .i64 xtm,.int .i64 xwl,.int .i64 xnx,.slice xeA xents.length xeC,.slice xsA xstms.length xsC,.slice xtA xtabs.length xtC,.slice xpA xpla.length xpC,.slice xqA xpol.length xqC,.slice xhA xhor.length xhC] 29 (0,0))):=hI0 (fun V hV=>(hV.block _ (by omega)).trans hT)
 have FY:Hid (∀V,Bl W V→V.heap[w.heap.size+1]? =some (.cells #[.int .i64 xtx,.int .i64 xtm,.int .i64 xwl,.int .i64 xnx,.slice yeA yents.length yeC,.slice ysA xstms.length ysC,.slice ytA ytabs.length ytC,.slice ypA xpla.length ypC,.slice yqA xpol.length yqC,.slice yhA xhor.length yhC] 29 (0,0))):=hI0 (fun V hV=>(hV.block _ hWs).trans hU)
 have HBW:=hI0 hbW
 have HC0:Hid (Bl W W):=hI0 (Below.refl _ _)
 have HW:=hI0 hW
 clear hT hU hbW hWs hW
 have c0:=cB 0 (FX.out _ HC0.out)
 have c1:=cB 1 (FX.out _ HC0.out)
 have c2:=cB 2 (FX.out _ HC0.out)
 have c3:=cB 3 (FX.out _ HC0.out)
 have c4:=cB 4 (FX.out _ HC0.out)
 have c5:=cB 5 (FX.out _ HC0.out)
 have c6:=cB 6 (FX.out _ HC0.out)
 have c7:=cB 7 (FX.out _ HC0.out)
 have c8:=cB 8 (FX.out _ HC0.out)
 have c9:=cB 9 (FX.out _ HC0.out)
 have d0:=cB 0 (FY.out _ HC0.out)
 have d1:=cB 1 (FY.out _ HC0.out)
 have d2:=cB 2 (FY.out _ HC0.out)
 have d3:=cB 3 (FY.out _ HC0.out)
 have d4:=cB 4 (FY.out _ HC0.out)
 have d5:=cB 5 (FY.out _ HC0.out)
 have d6:=cB 6 (FY.out _ HC0.out)
 have d7:=cB 7 (FY.out _ HC0.out)
 have d8:=cB 8 (FY.out _ HC0.out)
 have d9:=cB 9 (FY.out _ HC0.out)
 have ff0:(xtx != xtx)=false:=by simp
 have ee0:(xtx==xtx)=true:=by simp
 have ff1:(xtm != xtm)=false:=by simp
 have ee1:(xtm==xtm)=true:=by simp
 have ff2:(xwl != xwl)=false:=by simp
 have ee2:(xwl==xwl)=true:=by simp
 have ff3:(xnx != xnx)=false:=by simp
 have ee3:(xnx==xnx)=true:=by simp
 go_in
 go_wp2_with fail
 try rw [←HW.out]
 clear c0 d0 c1 d1 c2 d2 c3 d3 c4 d4 c5 d5 c6 d6 c7 d7 c8 d8 c9 d9
 go_loopw [54] (fun i wr=>∃k:Nat,i=.int .i64 (k:Int)∧k≤xstms.length∧Hid (Bl W wr)) (fun i _=>xstms.length-(intOf i).toNat)
 case atStart=>exact ⟨0,rfl,Nat.zero_le _,HC0⟩
 obtain ⟨k,rfl,hk,HB1⟩:=hrel
 obtain ⟨wi1,rfl⟩:=eN0 wr
 by_cases hlt:k<xstms.length
 case neg=>
  have hlt3:¬(k:Int)<(xstms.length:Int):=by omega
  clear hlt hk
  have c0:=cB 0 (FX.out _ HB1.out)
  have c1:=cB 1 (FX.out _ HB1.out)
  have c2:=cB 2 (FX.out _ HB1.out)
  have c3:=cB 3 (FX.out _ HB1.out)
  have c4:=cB 4 (FX.out _ HB1.out)
  have c5:=cB 5 (FX.out _ HB1.out)
  have c6:=cB 6 (FX.out _ HB1.out)
  have c7:=cB 7 (FX.out _ HB1.out)
  have c8:=cB 8 (FX.out _ HB1.out)
  have c9:=cB 9 (FX.out _ HB1.out)
  have d0:=cB 0 (FY.out _ HB1.out)
  have d1:=cB 1 (FY.out _ HB1.out)
  have d2:=cB 2 (FY.out _ HB1.out)
  have d3:=cB 3 (FY.out _ HB1.out)
  have d4:=cB 4 (FY.out _ HB1.out)
  have d5:=cB 5 (FY.out _ HB1.out)
  have d6:=cB 6 (FY.out _ HB1.out)
  have d7:=cB 7 (FY.out _ HB1.out)
  have d8:=cB 8 (FY.out _ HB1.out)
  have d9:=cB 9 (FY.out _ HB1.out)
  go_wp2_with fail
  clear c0 d0 c1 d1 c2 d2 c3 d3 c4 d4 c5 d5 c6 d6 c7 d7 c8 d8 c9 d9
  go_loopw [72] (fun i wr=>∃k:Nat,i=.int .i64 (k:Int)∧k≤xtabs.length∧Hid (Bl W wr)) (fun i _=>xtabs.length-(intOf i).toNat)
  case atStart=>exact ⟨0,rfl,Nat.zero_le _,HB1⟩
  obtain ⟨k,rfl,hk,HB2⟩:=hrel
  obtain ⟨wi2,rfl⟩:=eN0 wr
  by_cases hlt:k<xtabs.length
  case neg=>
   have hlt3:¬(k:Int)<(xtabs.length:Int):=by omega
   clear hlt hk
   have c0:=cB 0 (FX.out _ HB2.out)
   have c1:=cB 1 (FX.out _ HB2.out)
   have c2:=cB 2 (FX.out _ HB2.out)
   have c3:=cB 3 (FX.out _ HB2.out)
   have c4:=cB 4 (FX.out _ HB2.out)
   have c5:=cB 5 (FX.out _ HB2.out)
   have c6:=cB 6 (FX.out _ HB2.out)
   have c7:=cB 7 (FX.out _ HB2.out)
   have c8:=cB 8 (FX.out _ HB2.out)
   have c9:=cB 9 (FX.out _ HB2.out)
   have d0:=cB 0 (FY.out _ HB2.out)
   have d1:=cB 1 (FY.out _ HB2.out)
   have d2:=cB 2 (FY.out _ HB2.out)
   have d3:=cB 3 (FY.out _ HB2.out)
   have d4:=cB 4 (FY.out _ HB2.out)
   have d5:=cB 5 (FY.out _ HB2.out)
   have d6:=cB 6 (FY.out _ HB2.out)
   have d7:=cB 7 (FY.out _ HB2.out)
   have d8:=cB 8 (FY.out _ HB2.out)
   have d9:=cB 9 (FY.out _ HB2.out)
   have KK3:=(fun (V:World) (hV:Bl w V)=>likeEntries_any _ _ xents yents HL5.out V (HXI.out.below hV).ents (HYI.out.below hV).ents (HXI.out.below hV).entI (HYI.out.below hV).entI (fun n hn e he=>(HKX.out n hn e he).blw hV) (fun n hn e he=>(HKY.out n hn e he).blw hV)) wi2 (HBW.out.trans (HB2.out.mono HBW.out.size))
   go_wp2_with fail
   (with_reducible refine KK3.mono ?_)
   rintro _ z3 ⟨rfl,hz3⟩
   clear KK3
   have HC3:=bT0 HB2 hz3
   clear hz3
   clear c0 d0 c1 d1 c2 d2 c3 d3 c4 d4 c5 d5 c6 d6 c7 d7 c8 d8 c9 d9
   have c0:=cB 0 (FX.out _ HC3.out)
   have c1:=cB 1 (FX.out _ HC3.out)
   have c2:=cB 2 (FX.out _ HC3.out)
   have c3:=cB 3 (FX.out _ HC3.out)
   have c4:=cB 4 (FX.out _ HC3.out)
   have c5:=cB 5 (FX.out _ HC3.out)
   have c6:=cB 6 (FX.out _ HC3.out)
   have c7:=cB 7 (FX.out _ HC3.out)
   have c8:=cB 8 (FX.out _ HC3.out)
   have c9:=cB 9 (FX.out _ HC3.out)
   have d0:=cB 0 (FY.out _ HC3.out)
   have d1:=cB 1 (FY.out _ HC3.out)
   have d2:=cB 2 (FY.out _ HC3.out)
   have d3:=cB 3 (FY.out _ HC3.out)
   have d4:=cB 4 (FY.out _ HC3.out)
   have d5:=cB 5 (FY.out _ HC3.out)
   have d6:=cB 6 (FY.out _ HC3.out)
   have d7:=cB 7 (FY.out _ HC3.out)
   have d8:=cB 8 (FY.out _ HC3.out)
   have d9:=cB 9 (FY.out _ HC3.out)
   have KK4:=(fun (V:World) (hV:Bl w V)=>likeRules_any _ _ _ _ _ _ xpla xpol xhor V (HXI.out.below hV).pla (HYI.out.below hV).pla (HXI.out.below hV).pol (HYI.out.below hV).pol (HXI.out.below hV).hor (HYI.out.below hV).hor) z3 (HBW.out.trans (HC3.out.mono HBW.out.size))
   go_wp2_with fail
   (with_reducible refine KK4.mono ?_)
   rintro _ z4 ⟨rfl,hz4⟩
   clear KK4
   have HC4:=bT0 HC3 hz4
   clear hz4
   clear c0 d0 c1 d1 c2 d2 c3 d3 c4 d4 c5 d5 c6 d6 c7 d7 c8 d8 c9 d9
   have c0:=cB 0 (FX.out _ HC4.out)
   have c1:=cB 1 (FX.out _ HC4.out)
   have c2:=cB 2 (FX.out _ HC4.out)
   have c3:=cB 3 (FX.out _ HC4.out)
   have c4:=cB 4 (FX.out _ HC4.out)
   have c5:=cB 5 (FX.out _ HC4.out)
   have c6:=cB 6 (FX.out _ HC4.out)
   have c7:=cB 7 (FX.out _ HC4.out)
   have c8:=cB 8 (FX.out _ HC4.out)
   have c9:=cB 9 (FX.out _ HC4.out)
   have d0:=cB 0 (FY.out _ HC4.out)
   have d1:=cB 1 (FY.out _ HC4.out)
   have d2:=cB 2 (FY.out _ HC4.out)
   have d3:=cB 3 (FY.out _ HC4.out)
   have d4:=cB 4 (FY.out _ HC4.out)
   have d5:=cB 5 (FY.out _ HC4.out)
   have d6:=cB 6 (FY.out _ HC4.out)
   have d7:=cB 7 (FY.out _ HC4.out)
   have d8:=cB 8 (FY.out _ HC4.out)
   have d9:=cB 9 (FY.out _ HC4.out)
   go_wp2_with fail
   go_ret
   exact ⟨rfl,(HBW.out.trans (HC4.out.mono HBW.out.size))⟩
  have hlt':k<ytabs.length:=by have:=er_len HL1.out;omega
  have hlt4:(k:Int)<(ytabs.length:Int):=by omega
  have hlt3:(k:Int)<(xtabs.length:Int):=by omega
  obtain ⟨b,off,rfl,hF,hcl⟩:=RdE.at_ (K:=2) (enc:=RTv.enc) (fun _=>rfl) (by omega) Hx2.out hlt
  obtain ⟨b',off',rfl,hF',hcl'⟩:=RdE.at_ (K:=2) (enc:=RTv.enc) (fun _=>rfl) (by omega) Hy2.out hlt'
  have HBL:=hI0 hF
  have HBM:=hI0 hF'
  have hcx:=hcl k hlt
  have hcy:=hcl' k hlt'
  have hxy:=er_at HL1.out hlt hlt'
  have ha:=List.getElem_mem hlt
  have hb:=List.getElem_mem hlt'
  obtain ⟨x,hx⟩:=eN0 (xtabs[k])
  obtain ⟨y,hy⟩:=eN0 (ytabs[k])
  rw [←hx] at hcx hxy ha
  rw [←hy] at hcy hxy hb
  clear hx hy hcl hcl' hF hF'
  have K0:=fun (V:World) (hV:Bl w V)=>trB (sameVersions_any _ _ x.vers y.vers V ((HXI.out.tabI _ ha).below hV) ((HYI.out.tabI _ hb).below hV) (vers_er hxy)) rfl
  obtain ⟨xt,xA,xc,xv⟩:=x
  obtain ⟨yt,yA,yc,yv⟩:=y
  simp only [RTv.er,RTv.mk.injEq,true_and] at hxy
  obtain ⟨rfl,hL1⟩:=hxy
  have KC:∀(V:World),Bl w V→Calls prog 42 #[.slice xA xv.length xc,.slice yA yv.length yc] V (TrB V):=K0
  clear K0
  have g0:w.cell? ⟨b,off+k*2,none⟩=some (.string xt):=hcx 0 _ (by decide) rfl
  have g1:=hcx 1 _ (by decide) rfl
  have h0:w.cell? ⟨b',off'+k*2,none⟩=some (.string xt):=hcy 0 _ (by decide) rfl
  have h1:=hcy 1 _ (by decide) rfl
  clear hcx hcy ha hb hL1
  have ff0:(xt.toList != xt.toList)=false:=by simp
  go_wp2_with fail
  refine wp_region_noPanic ?_
  refine wp_region_held_drew (S:=(fun w'=>Bl W w')) (by kernel_rfl) ?_ (fun zh=>?_)
  ·exact HB2.out.drew
  refine hT 0 75 ?_
  refine hU 1 76 (v:=?_) zh ?_ ?_
  rotate_left
  ·exact zq30
  refine hT 2 77 ?_
  refine hT 3 78 ?_
  refine hT 4 79 ?_
  refine hU 5 80 (v:=?_) zh ?_ ?_
  rotate_left
  ·intro w' hSw;(try dsimp only at hSw);have Z:=(bU0 HBW hSw).block _ HBL.out;have q0:=cQ Z g0;go_simp<;>with_reducible rfl
  refine hT 6 81 ?_
  refine hU 7 82 (v:=?_) zh ?_ ?_
  rotate_left
  ·exact zq31
  refine hT 8 83 ?_
  refine hT 9 84 ?_
  refine hT 10 85 ?_
  refine hU 11 86 (v:=?_) zh ?_ ?_
  rotate_left
  ·intro w' hSw;(try dsimp only at hSw);have Z:=(bU0 HBW hSw).block _ HBM.out;have q0:=cQ Z h0;go_simp<;>with_reducible rfl
  refine hT 12 87 ?_
  refine hT 13 88 ?_
  refine hT 14 89 ?_
  refine hU 15 90 (v:=?_) zh ?_ ?_
  rotate_left
  ·exact zq30
  refine hT 16 91 ?_
  refine hT 17 92 ?_
  refine hT 18 93 ?_
  refine hU 19 94 (v:=?_) zh ?_ ?_
  rotate_left
  ·intro w' hSw;(try dsimp only at hSw);have Z:=(bU0 HBW hSw).block _ HBL.out;have q1:=cQ Z g1;go_simp<;>with_reducible rfl
  refine hT 20 95 ?_
  refine hU 21 96 (v:=?_) zh ?_ ?_
  rotate_left
  ·exact zq31
  refine hT 22 97 ?_
  refine hT 23 98 ?_
  refine hT 24 99 ?_
  refine hU 25 100 (v:=?_) zh ?_ ?_
  rotate_left
  ·intro w' hSw;(try dsimp only at hSw);have Z:=(bU0 HBW hSw).block _ HBM.out;have q1:=cQ Z h1;go_simp<;>with_reducible rfl
  refine hC 26 101 ?_
  (with_reducible refine (KC _ (bU0 HBW zh)).mono ?_)
  rintro _ z ⟨rfl,hz⟩
  refine ⟨_,rfl,keepAnd (Below.trans zh (hz.mono zh.size)) ?_⟩
  clear zh
  intro zh
  simp only [aP]
  refine hT 27 102 ?_
  refine hT 28 103 ?_
  refine rD0 ?_
  have HZ:Hid (Bl W _):=hI0 zh
  go_wp2_with fail
  go_roundw
  case rel=>exact ⟨k+1,by go_num,hlt,HZ⟩
  case measure=>simp [intOf];omega
 have hlt3:(k:Int)<(xstms.length:Int):=by omega
 obtain ⟨b,off,rfl,hF,hcl⟩:=RdE.at_ (K:=2) (enc:=Stm.enc) (fun _=>rfl) (by omega) Hx1.out hlt
 obtain ⟨b',off',rfl,hF',hcl'⟩:=RdE.at_ (K:=2) (enc:=Stm.enc) (fun _=>rfl) (by omega) Hy1.out hlt
 have HBL:=hI0 hF
 have HBM:=hI0 hF'
 have hcx:=hcl k hlt
 have hcy:=hcl' k hlt
 obtain ⟨x,hx⟩:=eN0 (xstms[k])
 rw [←hx] at hcx hcy
 clear hx hcl hcl' hF hF'
 obtain ⟨x1,x2⟩:=x
 have g0:w.cell? ⟨b,off+k*2,none⟩=some (.int .i64 x1):=hcx 0 _ (by decide) rfl
 have g1:=hcx 1 _ (by decide) rfl
 have h0:w.cell? ⟨b',off'+k*2,none⟩=some (.int .i64 x1):=hcy 0 _ (by decide) rfl
 have h1:=hcy 1 _ (by decide) rfl
 clear hcx hcy
 have ff0:(x1 != x1)=false:=by simp
 have ee0:(x1==x1)=true:=by simp
 have ff1:(x2 != x2)=false:=by simp
 have ee1:(x2==x2)=true:=by simp
 go_wp2_with fail
 refine wp_region_noPanic ?_
 refine wp_region_held_drew (S:=(fun w'=>Bl W w')) (by kernel_rfl) ?_ (fun zh=>?_)
 ·exact HB1.out.drew
 refine hT 0 57 ?_
 refine hU 1 58 (v:=?_) zh ?_ ?_
 rotate_left
 ·intro w' hSw;(try dsimp only at hSw);have q0:=cW0 w' _ 5 _ _ _ (FX.out _ hSw);go_simp<;>with_reducible rfl
 refine hT 2 59 ?_
 refine hT 3 60 ?_
 refine hU 4 61 (v:=?_) zh ?_ ?_
 rotate_left
 ·intro w' hSw;(try dsimp only at hSw);have Z:=(bU0 HBW hSw).block _ HBL.out;have q0:=cQ Z g0;have q1:=cQ Z g1;go_simp<;>with_reducible rfl
 refine hT 5 62 ?_
 refine hU 6 63 (v:=?_) zh ?_ ?_
 rotate_left
 ·intro w' hSw;(try dsimp only at hSw);have q0:=cW0 w' _ 5 _ _ _ (FY.out _ hSw);go_simp<;>with_reducible rfl
 refine hT 7 64 ?_
 refine hT 8 65 ?_
 refine hU 9 66 (v:=?_) zh ?_ ?_
 rotate_left
 ·intro w' hSw;(try dsimp only at hSw);have Z:=(bU0 HBW hSw).block _ HBM.out;have q0:=cQ Z h0;have q1:=cQ Z h1;go_simp<;>with_reducible rfl
 refine hT 10 67 ?_
 refine rD0 ?_
 have HZ:Hid (Bl W _):=hI0 zh
 go_wp2_with fail
 go_roundw
 case rel=>exact ⟨k+1,by go_num,hlt,HZ⟩
 case measure=>simp [intOf];omega
end Go.Proofs.YtgfhknnklapldaaGreatDoor
