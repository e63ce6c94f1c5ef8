/-
 Src1
-/
import Derived.Test.YtbfdegkickjbpaaGreatVVer
namespace Go.Proofs.YtbfdegkickjbpaaGreat
open Tryz
set_option maxRecDepth 99999
set_option maxHeartbeats 0
open Go.RowKit Go.Lib Go.IntWalk Go.Sort Go.Shelf
theorem zq26 {P:Prop} (i:Nat) (h:Tg i→P:=by
 intro zT26
 obtain ⟨k,er⟩:=s
 have hR:=h.lt
 have c0:w.cell? ⟨R,0,none⟩=some v:=cW0 w R 0 _ _ _ h
 have c1:=cW1 1 h rfl
 have c2:=cW1 2 h rfl
 have H:=hI0 h
 have HV:=hI0 hv
 clear h hv
 by_cases he:er=0
 case neg=>
  first
   |guard_hyp zT26:Tg 2;rw [show rdI l (k,er)=(0,k,er) from rdS_no he]
   |guard_hyp zT26:Tg 1;rw [show rdT l (k,er)=(⟨#[]⟩,k,er) from rdS_no he]
   |rw [show rdR l (k,er)=([],k,er) from rdS_no he]
  go_in
  go_wp2_with fail
  go_ret
  first
   |guard_hyp zT26:Tg 0;exact ⟨_,rfl,Rd.nil _ _ _,H.out,Chg.refl _ _⟩
   |exact ⟨rfl,H.out,Chg.refl _ _⟩
 subst he
 first
  |guard_hyp zT26:Tg 2;rcases hd:decI l k with ⟨n,m,e⟩
   rw [show rdI l (k,0)=(n,if e=0 then (m,0) else (k,e)) from rdS_go hd]
   have KI:∀W,Bl w W→Calls prog 160 #[v,.int .i64 k] W (Int3 (n,m,e) W):=fun W hW=>by
    rw [←hd]
    exact int_any (·<R) v l k W (Rd.keep HV.out (fun b (hb:b<R)=>hW.block b (by omega)))
  |guard_hyp zT26:Tg 1;rcases hd:decT l k 200 with ⟨n,m,e⟩
   rw [show rdT l (k,0)=(strB n,if e=0 then (m,0) else (k,e)) from rdS_go (dec:=fun k=>(strB (decT l k 200).1,(decT l k 200).2)) (by simp only [hd])]
   have KI:∀W,Bl w W→Calls prog 190 #[v,.int .i64 k,.int .i64 200] W (Text3 (n,m,e) W):=fun W hW=>by
    rw [←hd]
    exact text_any (·<R) v l k 200 W (Rd.keep HV.out (fun b (hb:b<R)=>hW.block b (by omega)))
  |rcases hd:decR l k with ⟨n,m,e⟩
   rw [show rdR l (k,0)=(n,if e=0 then (m,0) else (k,e)) from rdS_go hd]
   have KI:∀W,Bl w W→Calls prog 238 #[v,.int .i64 k] W (Row3 (n,m,e) W):=fun W hW=>by
    rw [←hd]
    exact row_any v l k W ((Rd.keep HV.out (fun b (hb:b<R)=>hW.block b (by omega))).wide (fun b (hb:b<R)=>by show b<W.heap.size;have:=hW.size;omega))
 generalize hst:(if e=0 then (m,(0:Int)) else (k,e))=st
 have HS:Hid (∀W,SrcAt W R v (k,0)→Calls prog 161 #[.pointer (some ⟨R,0,none⟩),.int .i64 m,.int .i64 e] W fun x w'=>(∃b,x=.returned (.bool b))∧SrcAt w' R v st∧Chg (·=R) W w'):=hI0 (fun W h=>(step_any R v k m e W h).mono fun _ _ ⟨h1,h2,h3⟩=>⟨⟨_,h1⟩,by rw [←hst];exact h2,h3⟩)
 clear hst
 clear hd
 go_in
 go_wp2_with fail
 refine rB0 w (fun zh=>?_)
 refine hT 0 12 ?_
 refine hT 1 13 ?_
 refine hT 2 14 ?_
 refine hU 3 15 (v:=?_) zh ?_ ?_
 rotate_left
 ·exact zq124
 refine hT 4 16 ?_
 refine hT 5 17 ?_
 refine hT 6 18 ?_
 refine hU 7 19 (v:=?_) zh ?_ ?_
 rotate_left
 ·exact zq125
 refine hC 8 20 ?_
 (with_reducible refine (KI _ (Below.refl _ _).drew).mono ?_)
 first
  |guard_hyp zT26:Tg 0;rintro _ w1 ⟨u,rfl,hO,hb1'⟩
   have hb1:Bl w w1:=Below.undrew hb1'
   have HO:=hI0 hO
   clear hO
   refine ⟨_,rfl,keepAnd hb1 ?_⟩
  |rintro _ _ ⟨rfl,rfl⟩
   refine ⟨_,rfl,keepAnd ((Below.refl _ _).drew) ?_⟩
 clear zh
 intro zh
 simp only [aP]
 refine hT 9 11 ?_
 refine hT 10 21 ?_
 refine hT 11 22 ?_
 refine hT 12 23 ?_
 refine hT 13 3 ?_
 refine hT 14 4 ?_
 refine hT 15 5 ?_
 refine rD0 ?_
 clear zh
 go_wp2_with fail
 first
  |guard_hyp zT26:Tg 0;(with_reducible refine (HS.out _ (SrcAt.below H.out hb1)).mono ?_)
  |(with_reducible refine (HS.out _ (SrcAt.below H.out (Below.refl _ _).drew)).mono ?_)
 rintro _ w2 ⟨⟨b2,rfl⟩,hs2,hc2⟩
 go_wp2_with fail
 go_ret
 first
  |guard_hyp zT26:Tg 0;have h1:RdV w1 (fun b=>w.heap.size≤b∧b<w1.heap.size) u n:=(Rd.of_own HO.out).wide fun b hb=>⟨hb.1,hb.2⟩
   have hsz:=hc2.size
   exact ⟨_,rfl,(Rd.keep h1 (fun b (hb:w.heap.size≤b∧b<w1.heap.size)=>hc2.block b hb.2 (by omega))).wide (fun b (hb:w.heap.size≤b∧b<w1.heap.size)=>⟨hb.1,by omega⟩),hs2,(Chg.of_below hb1 _).trans hc2 (fun _ _ h=>h)⟩
  |exact ⟨rfl,hs2,(Chg.refl _ _).drew.trans hc2 (fun _ _ h=>h)⟩) : P := h ⟨⟩
theorem zq50 {P:Prop} (i:Nat) (h:Tg i→P:=by
 intro zT50
 first
  |done
  |guard_hyp zT50:Tg 1
  |refine runF 13 (some 3) (v:=.pointer (some ⟨W.drew.heap.size,0,none⟩)) (w':=W.drew.alloc (.cells #[.int .i64 0,.int .i64 0] 66)) rfl rfl (by rfl) ?_ ?_
   ·go_simp<;>with_reducible rfl
   obtain ⟨T,hTe⟩:=eN0 W.drew.heap.size
   rw [←hTe]
   obtain ⟨x3,hx3⟩:=eN0 (W.drew.alloc (.cells #[.int .i64 0,.int .i64 0] 66))
   rw [←hx3]
   have hB1:Bl W x3:=by rw [hx3];exact hB0.alloc hB0.size _
   have hT:x3.heap[T]? =some (.cells #[.int .i64 0,.int .i64 0] 66 (0,0)):=by rw [hx3,hTe];exact heap_alloc_new _ _
   have hTl:T<x3.heap.size:=by rw [hx3,hTe];simp
   have hTW:W.heap.size≤T:=by rw [hTe];exact hB0.size
   clear hx3 hTe
   refine rA0 hB1 ?_
   clear zh
   intro zh
   simp only [aP]
   refine fork1 8 (by kernel_rfl) ?_
 refine fC 8 21 ?_
 first
  |guard_hyp zT50:Tg 1;(with_reducible refine (KI _ hB0).mono ?_)
  |(with_reducible refine (KI _ hB1).mono ?_)
 rintro _ w3 ⟨rfl,hb3'⟩
 first
  |guard_hyp zT50:Tg 1;have hB3:Bl W w3:=hB0.trans (hb3'.mono hB0.size)
   refine ⟨_,rfl,rA0 hB3 ?_⟩
  |have hB3:Bl W w3:=hB1.trans (hb3'.mono hB1.size)
   have hT3:w3.heap[T]? =some (.cells #[.int .i64 0,.int .i64 0] 66 (0,0)):=(hb3'.block T hTl).trans hT
   obtain ⟨X,hX⟩:=eN0 w3
   rw [←hX]
   have hBX:Bl W X:=by rw [hX];exact hB3
   have hTX:X.heap[T]? =some (.cells #[.int .i64 0,.int .i64 0] 66 (0,0)):=by rw [hX];exact hT3
   clear hX hB3 hT3 hB1 hT
   refine ⟨_,rfl,rA0 hBX ?_⟩
 clear zh
 intro zh
 simp only [aP]
 refine tT 9 12 ?_
 refine tT 10 22 ?_
 refine tT 11 23 ?_
 refine tT 12 24 ?_
 first
  |done
  |guard_hyp zT50:Tg 1;refine fork1 13 (by kernel_rfl) ?_
   refine runF 13 (some 3) (v:=.pointer (some ⟨w3.heap.size,0,none⟩)) (w':=w3.alloc (.cells #[.int .i64 0,.int .i64 0] 66)) rfl rfl (by rfl) ?_ ?_
   ·go_simp<;>with_reducible rfl
   obtain ⟨T,hTe⟩:=eN0 w3.heap.size
   rw [←hTe]
   obtain ⟨X,hX⟩:=eN0 (w3.alloc (.cells #[.int .i64 0,.int .i64 0] 66))
   rw [←hX]
   have hBX:Bl W X:=by rw [hX];exact hB3.alloc hB3.size _
   have hTX:X.heap[T]? =some (.cells #[.int .i64 0,.int .i64 0] 66 (0,0)):=by rw [hX,hTe];exact heap_alloc_new _ _
   have hTl:T<X.heap.size:=by rw [hX,hTe];simp
   have hTW:W.heap.size≤T:=by rw [hTe];exact hB3.size
   clear hX hTe
   refine rA0 hBX ?_
   clear zh
   intro zh
   simp only [aP]
  |skip
 refine fork1 14 (by kernel_rfl) ?_
 refine skipRunF 14 none (w':=(X.setCell ⟨T,0,none⟩ (.int .i64 f)).setCell ⟨T,1,none⟩ (.int .i64 t)) rfl rfl (by rfl) ?_ ?_
 ·have q0:X.cell? ⟨T,0,none⟩=some (.int .i64 0):=cW0 X T 0 _ _ _ hTX;have q1:X.cell? ⟨T,1,none⟩=some (.int .i64 0):=cW0 X T 1 _ _ _ hTX;have q2:X.frozen? ⟨T,0,none⟩=false:=fW0 X T 0 _ _ hTX;have q3:X.frozen? ⟨T,1,none⟩=false:=fW0 X T 1 _ _ hTX;go_simp<;>with_reducible rfl
 obtain ⟨Y,hY⟩:=eN0 ((X.setCell ⟨T,0,none⟩ (.int .i64 f)).setCell ⟨T,1,none⟩ (.int .i64 t))
 rw [←hY]
 have hBY:Bl W Y:=by rw [hY];exact (hBX.setCell (p:=⟨T,0,none⟩) hTW _).setCell (p:=⟨T,1,none⟩) hTW _
 have hTY:Y.heap[T]? =some (.cells #[.int .i64 f,.int .i64 t] 66 (0,0)):=by rw [hY];exact two_set hTX _ _
 clear hY
 refine rA0 hBY ?_
 clear zh
 intro zh
 simp only [Act.put]
 refine tT 15 4 ?_
 refine fork1 16 (by kernel_rfl) ?_
 refine runF 16 (some 5) (v:=?_) (w':=?_) rfl rfl (by rfl) ?_ ?_
 rotate_left 2
 ·go_simp<;>first|with_reducible rfl|(constructor<;>with_reducible rfl)
 refine ⟨fun h=>absurd rfl h,?_⟩
 clear zh
 simp only [aP]
 refine doneT (by kernel_rfl) ?_ _
 refine NoPanic.normal ?_
 go_wp2_with fail
 (with_reducible refine (HS.out _ (SrcAt.below HW.out hBY)).mono ?_)
 rintro _ w2 ⟨⟨b2,rfl⟩,hs2,hc2⟩
 have hlY:T<Y.heap.size:=(Array.getElem?_eq_some_iff.1 hTY).1
 have hT2:w2.heap[T]? =some (.cells #[.int .i64 f,.int .i64 t] 66 (0,0)):=(hc2.block T hlY (by omega)).trans hTY
 have hsY:=hBY.size
 have hQ2:w2.heap[w.heap.size]? =some (.cells #[.int .i64 0,.int .i64 0] 66 (0,0)):=(hc2.block w.heap.size (by omega) (by omega)).trans ((hBY.block w.heap.size (by omega)).trans HQ.out)
 obtain ⟨q0,q1⟩:=cX2 hT2
 obtain ⟨p0,p1⟩:=cX2 hQ2
 have g0:w2.frozen? ⟨w.heap.size,0,none⟩=false:=fW0 w2 _ 0 _ _ hQ2
 have g1:w2.frozen? ⟨w.heap.size,1,none⟩=false:=fW0 w2 _ 1 _ _ hQ2
 have HS2:=hI0 hs2
 have HC2:=hI0 hc2
 have HBY:=hI0 hBY
 clear hs2 hc2 hBY hT2 hQ2 hTY
 go_wp2_with fail
 have r0:(w2.setCell ⟨w.heap.size,0,none⟩ (.int .i64 f)).cell? ⟨w.heap.size,0,none⟩=some (.int .i64 f):=World.cell?_setCell_same' w2 _ _ (by rw [p0];rfl)
 have r1:((w2.setCell ⟨w.heap.size,0,none⟩ (.int .i64 f)).setCell ⟨w.heap.size,1,none⟩ (.int .i64 t)).cell? ⟨w.heap.size,1,none⟩=some (.int .i64 t):=World.cell?_setCell_same' _ _ _ (by rw [World.cell?_setCell_other _ _ _ _ (by simp),p1];rfl)
 refine bodyPost_ret (v:=.agg #[.int .i64 f,.int .i64 t]) zi40 rfl ⟨rfl,?_,?_⟩
 ·exact SrcAt.other (p:=⟨w.heap.size,1,none⟩) (SrcAt.other (p:=⟨w.heap.size,0,none⟩) HS2.out zi11) zi11
 ·exact (((Chg.of_below (HbW.out.trans (HBY.out.mono (by omega))) _).trans HC2.out (fun _ _ h=>h)).setCell (p:=⟨w.heap.size,0,none⟩) (.inr (Nat.le_refl _)) _).setCell (p:=⟨w.heap.size,1,none⟩) (.inr (Nat.le_refl _)) _) : P := h ⟨⟩
theorem zq54 {P:Prop} (i:Nat) (h:Tg i→P:=by
 intro zT54
 first
  |guard_hyp zT54:Tg 1;rw [show endE (k,0) l.length=3 from if_pos ⟨rfl,hk⟩]
  |subst he
   by_cases hk:k<(l.length:Int)
   case pos=>
    rw [show endE (k,0) l.length=3 from if_pos ⟨rfl,hk⟩]
    go_in
    go_wp2_with fail
    refine rB0 w (fun zh=>?_)
    refine hT 0 3 ?_
    refine hT 1 4 ?_
    refine hT 2 5 ?_
    refine hU 3 6 (v:=?_) zh ?_ ?_
    rotate_left
    ·exact zq123
    refine hT 4 7 ?_
    refine hT 5 8 ?_
    refine hT 6 9 ?_
    refine hT 7 10 ?_
    refine hT 8 11 ?_
    refine hU 9 12 (v:=?_) zh ?_ ?_
    rotate_left
    ·exact zq125
    refine hT 10 13 ?_
    refine hT 11 14 ?_
    refine hT 12 15 ?_
    refine hU 13 16 (v:=?_) zh ?_ ?_
    rotate_left
    ·exact zq124
    refine hT 14 17 ?_
    refine hT 15 18 ?_
    refine hT 16 19 ?_
    refine rD0 ?_
    clear zh
    go_wp2_with fail
    go_ret
    exact ⟨rfl,(Below.refl _ _).drew⟩
   rw [show endE (k,0) l.length=0 from if_neg (fun h=>hk h.2)]
 go_in
 go_wp2_with fail
 refine rB0 w (fun zh=>?_)
 refine hT 0 3 ?_
 refine hT 1 4 ?_
 refine hT 2 5 ?_
 refine hU 3 6 (v:=?_) zh ?_ ?_
 rotate_left
 ·exact zq123
 refine hT 4 7 ?_
 refine hT 5 8 ?_
 refine hT 6 9 ?_
 refine hT 7 10 ?_
 refine hT 8 11 ?_
 refine hU 9 12 (v:=?_) zh ?_ ?_
 rotate_left
 ·exact zq125
 refine hT 10 13 ?_
 refine hT 11 14 ?_
 refine hT 12 15 ?_
 refine hU 13 16 (v:=?_) zh ?_ ?_
 rotate_left
 ·exact zq124
 refine hT 14 17 ?_
 refine hT 15 18 ?_
 refine hT 16 19 ?_
 refine rD0 ?_
 clear zh
 go_wp2_with fail
 go_ret
 exact ⟨rfl,(Below.refl _ _).drew⟩) : P := h ⟨⟩
theorem zq100 {P:Prop} (h:P:=by
 intro w' hSw;(try dsimp only at hSw);have q0:=(World.cell?_of_block (w:=W) (a:=⟨R,0,none⟩) (hSw.block R hRW)).trans c0';go_simp<;>with_reducible rfl) : P := h
theorem zq101 {P:Prop} (h:P:=by
 intro w' hSw;(try dsimp only at hSw);have q0:=(World.cell?_of_block (w:=W) (a:=⟨R,1,none⟩) (hSw.block R hRW)).trans c1';go_simp<;>with_reducible rfl) : P := h
theorem zq123 {P:Prop} (h:P:=by
 intro w' hSw;(try dsimp only at hSw);have q0:=(World.cell?_of_block (w:=w) (a:=⟨R,2,none⟩) (hSw.block R hR)).trans c2;go_simp<;>with_reducible rfl) : P := h
theorem zq124 {P:Prop} (h:P:=by
 intro w' hSw;(try dsimp only at hSw);have q0:=(World.cell?_of_block (w:=w) (a:=⟨R,0,none⟩) (hSw.block R hR)).trans c0;go_simp<;>with_reducible rfl) : P := h
theorem zq125 {P:Prop} (h:P:=by
 intro w' hSw;(try dsimp only at hSw);have q0:=(World.cell?_of_block (w:=w) (a:=⟨R,1,none⟩) (hSw.block R hR)).trans c1;go_simp<;>with_reducible rfl) : P := h
theorem zi11 {P:Prop} (h:P:=by show w.heap.size≠R;omega):P:=h
theorem zi40 {P:Prop} (h:P:=by simp [results,results169,go_sem,r0,r1]):P:=h
theorem validV_goV {x:Val} (h:validV x=true):goV x:=by
 obtain ⟨kd,i,s⟩:=x
 have e:s.data.toList=[]→s.size=0:=fun h=>by rw [←str_len,h];rfl
 unfold validV at h
 unfold goV maxLen
 simp only at h ⊢
 split at h
 ·simp at h;have:=e (by simpa using h.2);omega
 ·split at h
  ·simp at h;have:=e (by simpa using h.2);omega
  ·split at h
   ·simp at h;have:=h.1.2;omega
   ·split at h
    ·simp at h;have:=e (by simpa using h.2);omega
    ·cases h
theorem decI_err {l:List UInt8} {k:Int} (h:(decI l k).2.2≠0):(decI l k).1=0:=by
 unfold decI at h ⊢
 split
 ·rfl
 ·rename_i h0
  rw [if_neg h0] at h
  have key:∀(r:List UInt8) (i z:Nat),(decL k r i z).2.2≠0→(decL k r i z).1=0:=by
   intro r
   induction r with
   |nil=>intro i z _;rfl
   |cons c r ih=>
    intro i z h
    unfold decL at h ⊢
    split
    ·rfl
    ·rename_i h1
     rw [if_neg h1] at h
     split
     ·rename_i h2;rw [if_pos h2] at h;exact absurd rfl h
     ·rename_i h2;rw [if_neg h2] at h;exact ih _ _ h
  exact key _ _ _ h
theorem decVs_err {l:List UInt8}:∀(n:Nat) (k:Int) (acc:List Val),(decVs l n k acc).2.2≠0→(decVs l n k acc).1=[]:=by
 intro n
 induction n with
 |zero=>intro k acc h;exact absurd rfl h
 |succ n ih=>
  intro k acc h
  unfold decVs at h ⊢
  split
  ·rfl
  ·rename_i h1;rw [if_neg h1] at h;exact ih _ _ h
theorem decR_err {l:List UInt8} {k:Int} (h:(decR l k).2.2≠0):(decR l k).1=[]:=by
 unfold decR at h ⊢
 split
 ·rfl
 ·rename_i h1
  rw [if_neg h1] at h
  split
  ·rfl
  ·rename_i h2
   rw [if_neg h2] at h
   split
   ·rfl
   ·rename_i h3;rw [if_neg h3] at h;exact decVs_err _ _ _ h
theorem decP_err {l:List UInt8} {k:Int} (h:(decP l k).2.2≠0):(decP l k).1=(0,0):=by
 unfold decP at h ⊢
 split
 ·rfl
 ·rename_i h1
  rw [if_neg h1] at h
  split
  ·rfl
  ·rename_i h2
   rw [if_neg h2] at h
   split
   ·rfl
   ·rename_i h3;rw [if_neg h3] at h;exact absurd rfl h
theorem decR_ok (l:List UInt8) (k:Int):∀x∈(decR l k).1,goV x:=by
 by_cases h:(decR l k).2.2=0
 ·rcases hd:decR l k with ⟨ys,m,e⟩
  rw [hd] at h
  simp only at h
  subst h
  obtain ⟨_,_,_,_,_,hv,_⟩:=decR_got hd
  intro x hx
  exact validV_goV (List.all_eq_true.1 hv x hx)
 ·rw [decR_err h]
  intro x hx
  cases hx
def rdS {α:Type} (dec:Int→α×Int×Int) (z:α) (s:Int×Int):α×Int×Int:=
 if s.2≠0 then (z,s) else if (dec s.1).2.2=0 then ((dec s.1).1,(dec s.1).2.1,0) else ((dec s.1).1,s.1,(dec s.1).2.2)
theorem rdS_no {α:Type} {dec:Int→α×Int×Int} {z:α} {s:Int×Int} (h:s.2≠0):rdS dec z s=(z,s):=if_pos h
theorem rdS_go {α:Type} {dec:Int→α×Int×Int} {z:α} {k:Int} {a:α} {m e:Int} (h:dec k=(a,m,e)):rdS dec z (k,0)=(a,if e=0 then (m,0) else (k,e)):=by
 unfold rdS
 simp only [ne_eq,not_true_eq_false,if_false,h]
 split<;>rfl
abbrev rdI (l:List UInt8):Int×Int→Int×Int×Int:=rdS (decI l) 0
abbrev rdR (l:List UInt8):Int×Int→List Val×Int×Int:=rdS (decR l) []
abbrev rdP (l:List UInt8):Int×Int→(Int×Int)×Int×Int:=rdS (decP l) (0,0)
def SrcAt (w:World) (R:Nat) (v:Value) (s:Int×Int):Prop:=w.heap[R]? =some (.cells #[v,.int .i64 s.1,.int .i64 s.2] 130 (0,0))
theorem SrcAt.lt {w:World} {R:Nat} {v:Value} {s:Int×Int} (h:SrcAt w R v s):R<w.heap.size:=(Array.getElem?_eq_some_iff.1 h).1
theorem SrcAt.below {w w':World} {R:Nat} {v:Value} {s:Int×Int} (h:SrcAt w R v s) (hb:Bl w w'):SrcAt w' R v s:=(hb.block R h.lt).trans h
theorem SrcAt.set1 {w:World} {R:Nat} {v:Value} {s:Int×Int} (h:SrcAt w R v s) (m:Int):SrcAt (w.setCell ⟨R,1,none⟩ (.int .i64 m)) R v (m,s.2):=by
 have:=heap_setCell_same w R 1 _ _ (.int .i64 m) h
 unfold SrcAt
 simpa using this
theorem SrcAt.set2 {w:World} {R:Nat} {v:Value} {s:Int×Int} (h:SrcAt w R v s) (e:Int):SrcAt (w.setCell ⟨R,2,none⟩ (.int .i64 e)) R v (s.1,e):=by
 have:=heap_setCell_same w R 2 _ _ (.int .i64 e) h
 unfold SrcAt
 simpa using this
theorem SrcAt.other {w:World} {R:Nat} {v:Value} {s:Int×Int} (h:SrcAt w R v s) {p:Addr} (hp:p.block≠R) {u:Value}:SrcAt (w.setCell p u) R v s:=(Below.heap_setCell _ _ _ _ (fun e=>hp e.symm)).trans h
theorem two_set {w:World} {T:Nat} {a b:Value} {e:TypeId} (h:w.heap[T]? =some (.cells #[a,b] e (0,0))) (c d:Value):((w.setCell ⟨T,0,none⟩ c).setCell ⟨T,1,none⟩ d).heap[T]? =some (.cells #[c,d] e (0,0)):=by
 have h1:=heap_setCell_same w T 0 _ _ c h
 have h2:=heap_setCell_same _ T 1 _ _ d h1
 simpa using h2
theorem step_any (R:Nat) (v:Value) (k m e:Int) (w:World) (h:SrcAt w R v (k,0)):
  Calls prog 161 #[.pointer (some ⟨R,0,none⟩),.int .i64 m,.int .i64 e] w fun x w'=>x=.returned (.bool (decide (e=0)))∧SrcAt w' R v (if e=0 then (m,0) else (k,e))∧Chg (·=R) w w':=by
 have c1:=cW1 1 h rfl
 have c2:=cW1 2 h rfl
 have f1:=fW0 w R 1 _ _ h
 have f2:=fW0 w R 2 _ _ h
 have H:=hI0 h
 clear h
 by_cases he:e=0
 ·subst he
  go_in
  go_wp2_with fail
  go_ret
  exact ⟨rfl,H.out.set1 m,Chg.setCell (S:=(·=R)) (p:=⟨R,1,none⟩) (Chg.refl _ _) (.inl rfl) _⟩
 ·rw [if_neg he,decide_eq_false he]
  go_in
  go_wp2_with fail
  go_ret
  exact ⟨rfl,H.out.set2 e,Chg.setCell (S:=(·=R)) (p:=⟨R,2,none⟩) (Chg.refl _ _) (.inl rfl) _⟩
theorem srcInt_any (R:Nat) (v:Value) (l:List UInt8) (s:Int×Int) (w:World) (h:SrcAt w R v s) (hv:RdB w (·<R) v l):
  Calls prog 60 #[.pointer (some ⟨R,0,none⟩)] w fun x w'=>x=.returned (.int .i64 (rdI l s).1)∧SrcAt w' R v (rdI l s).2∧Chg (·=R) w w':=by
 exact zq26 2
theorem srcRow_any (R:Nat) (v:Value) (l:List UInt8) (s:Int×Int) (w:World) (h:SrcAt w R v s) (hv:RdB w (·<R) v l):
  Calls prog 191 #[.pointer (some ⟨R,0,none⟩)] w fun x w'=>∃u,x=.returned u∧RdV w' (fun b=>w.heap.size≤b∧b<w'.heap.size) u (rdR l s).1∧SrcAt w' R v (rdR l s).2∧Chg (·=R) w w':=by
 exact zq26 0
theorem srcPeriod_any (R:Nat) (v:Value) (l:List UInt8) (s:Int×Int) (w:World) (h:SrcAt w R v s) (hv:RdB w (·<R) v l):
  Calls prog 169 #[.pointer (some ⟨R,0,none⟩)] w fun x w'=>x=.returned (.agg #[.int .i64 (rdP l s).1.1,.int .i64 (rdP l s).1.2])∧SrcAt w' R v (rdP l s).2∧Chg (·=R) w w':=by
 obtain ⟨k,er⟩:=s
 have hR:=h.lt
 have c0:w.cell? ⟨R,0,none⟩=some v:=cW0 w R 0 _ _ _ h
 have c1:=cW1 1 h rfl
 have c2:=cW1 2 h rfl
 have H:=hI0 h
 have HV:=hI0 hv
 clear h hv
 by_cases he:er=0
 case neg=>
  rw [show rdP l (k,er)=((0,0),k,er) from rdS_no he]
  have hQ:(w.alloc (.cells #[.int .i64 0,.int .i64 0] 66)).heap[w.heap.size]? =some (.cells #[.int .i64 0,.int .i64 0] 66 (0,0)):=heap_alloc_new _ _
  have p0:(w.alloc (.cells #[.int .i64 0,.int .i64 0] 66)).cell? ⟨w.heap.size,0,none⟩=some (.int .i64 0):=cW0 _ _ 0 _ _ _ hQ
  have p1:(w.alloc (.cells #[.int .i64 0,.int .i64 0] 66)).cell? ⟨w.heap.size,1,none⟩=some (.int .i64 0):=cW0 _ _ 1 _ _ _ hQ
  have hb:Bl w (w.alloc (.cells #[.int .i64 0,.int .i64 0] 66)):=Below.of_alloc _
  have c2':(w.alloc (.cells #[.int .i64 0,.int .i64 0] 66)).cell? ⟨R,2,none⟩=some (.int .i64 er):=(World.cell?_of_block (hb.block R hR)).trans c2
  have HB:=hI0 hb
  clear hb hQ
  go_in
  go_wp2_with fail
  refine bodyPost_ret (v:=.agg #[.int .i64 0,.int .i64 0]) (by simp [results,results169,go_sem]) rfl ⟨rfl,?_,?_⟩
  ·exact SrcAt.below H.out HB.out
  ·exact Chg.of_below HB.out _
 subst he
 rcases hd:decP l k with ⟨⟨f,t⟩,m,e⟩
 rw [show rdP l (k,0)=((f,t),if e=0 then (m,0) else (k,e)) from rdS_go hd]
 generalize hst:(if e=0 then (m,(0:Int)) else (k,e))=st
 have HS:Hid (∀W,SrcAt W R v (k,0)→Calls prog 161 #[.pointer (some ⟨R,0,none⟩),.int .i64 m,.int .i64 e] W fun x w'=>(∃b,x=.returned (.bool b))∧SrcAt w' R v st∧Chg (·=R) W w'):=hI0 (fun W h=>(step_any R v k m e W h).mono fun _ _ ⟨h1,h2,h3⟩=>⟨⟨_,h1⟩,by rw [←hst];exact h2,h3⟩)
 clear hst
 obtain ⟨W,hW⟩:=eN0 (w.alloc (.cells #[.int .i64 0,.int .i64 0] 66))
 have hbW:=bN0 hW
 have hWs:=sN0 hW
 have hQ:=hN0 hW
 have KI:∀V,Bl W V→Calls prog 222 #[v,.int .i64 k] V (Period3 ((f,t),m,e) V):=fun V hV=>by
  rw [←hd]
  exact period_any v l k V ((Rd.keep HV.out (fun b (hb:b<R)=>(hV.block b (by omega)).trans (hbW.block b (by omega)))).wide (fun b (hb:b<R)=>by show b<V.heap.size;have:=hV.size;omega))
 have c0':W.cell? ⟨R,0,none⟩=some v:=(World.cell?_of_block (hbW.block R hR)).trans c0
 have c1':W.cell? ⟨R,1,none⟩=some (.int .i64 k):=(World.cell?_of_block (hbW.block R hR)).trans c1
 have c2':W.cell? ⟨R,2,none⟩=some (.int .i64 0):=(World.cell?_of_block (hbW.block R hR)).trans c2
 have HW:Hid (SrcAt W R v (k,0)):=hI0 (H.out.below hbW)
 have c3:(w.alloc (.cells #[.int .i64 0,.int .i64 0] 66)).cell? ⟨R,2,none⟩=some (.int .i64 0):=by rw [←hW];exact c2'
 have HQ:=hI0 hQ
 have HbW:=hI0 hbW
 have hRW:R<W.heap.size:=by omega
 have hB0:Bl W W.drew:=(Below.refl _ _).drew
 clear hd c0 c1 c2 hQ hbW
 go_in
 go_wp2_with fail
 rw [←hW]
 clear hW c3
 refine wp_region_noPanic ?_
 refine beginT (S:=(fun w'=>Bl W w')) 16 (by kernel_rfl) ?_ (fun zh=>?_)
 ·exact hB0
 refine tT 0 13 ?_
 refine tT 1 14 ?_
 refine tT 2 15 ?_
 refine tU 3 16 (v:=?_) zh ?_ ?_
 rotate_left
 ·exact zq100
 refine tT 4 17 ?_
 refine tT 5 18 ?_
 refine tT 6 19 ?_
 refine tU 7 20 (v:=?_) zh ?_ ?_
 rotate_left
 ·exact zq101
 refine fork2 8 13 (by kernel_rfl) ?_ ?_
 ·exact zq50 1
 ·exact zq50 0
theorem heldSkipRun {P:Program} {ops:Array Oper} {Q:Exit→Act→World→Prop} {md:Region.Mode} {S:World→Prop} {fuel:Nat} {listed:Array Bool} {a:Act} {w:World} (i:Nat) (dst:Option Tmp) {oi:Oper} {w':World} (hi:ops.toList[i]? =some oi) (hd:oi.dst=dst) (hr:Region.ready md ops listed=[i]) (hw:Region.wanted oi (yielded ops a.tmps)=true)
  (hrun:(execOp a.eval oi).run P w=.ok .skip w') (hS:S w')
  (h:wpAnyH P md ops Q S fuel (listed.setIfInBounds i true) (a.put dst undef) w'):wpAnyH P md ops Q S (fuel+1) listed a w:=by
 subst hd
 refine heldOp i hi hr hw ?_
 unfold Oper.wp
 rw [hrun]
 exact ⟨hS,h⟩
def rdVer (l:List UInt8) (s:Int×Int):Ver×Int×Int:=
 let a:=rdI l s
 let b:=rdI l a.2
 let r:=rdR l b.2
 let p:=rdP l r.2
 let q:=rdP l p.2
 let c:=rdI l q.2
 let d:=rdI l c.2
 (⟨a.1,b.1,r.1,p.1.1,p.1.2,q.1.1,q.1.2,c.1,d.1⟩,d.2)
theorem rdS_mono {α:Type} {dec:Int→α×Int×Int} {z:α} {s:Int×Int} {a:α} {m:Int} (hd:∀k a m,dec k=(a,m,0)→k+1≤m) (h:rdS dec z s=(a,m,0)):s.2=0∧s.1+1≤m∧dec s.1=(a,m,0):=by
 unfold rdS at h
 split at h
 ·rename_i h0
  simp only [Prod.mk.injEq] at h
  exact absurd (by rw [h.2]) h0
 ·rename_i h0
  rcases hq:dec s.1 with ⟨b,q,e⟩
  rw [hq] at h
  simp only at h
  split at h
  ·rename_i he
   subst he
   simp only [Prod.mk.injEq,and_true] at h
   obtain ⟨rfl,rfl⟩:=h
   exact ⟨by omega,hd _ _ _ hq,rfl⟩
  ·rename_i he
   simp only [Prod.mk.injEq] at h
   exact absurd h.2.2 he
theorem rdI_mono {l:List UInt8} {s:Int×Int} {a m:Int} (h:rdI l s=(a,m,0)):s.2=0∧s.1+1≤m∧decI l s.1=(a,m,0):=rdS_mono (fun k a m h=>by
 obtain ⟨x,r,_,hk,hm⟩:=decI_got h
 have:=encI_pos a
 rw [hk,hm,List.length_append];omega) h
def endE (s:Int×Int) (n:Nat):Int:=if s.2=0∧s.1<n then 3 else s.2
theorem srcEnd_any (R:Nat) (v:Value) (l:List UInt8) (s:Int×Int) (w:World) (h:SrcAt w R v s) (hv:RdB w (·<R) v l):
  Calls prog 73 #[.pointer (some ⟨R,0,none⟩)] w fun x w'=>x=.returned (.int .i64 (endE s l.length))∧Bl w w':=by
 obtain ⟨k,er⟩:=s
 have hR:=h.lt
 obtain ⟨Av,cv,rfl,y1,y2,y3⟩:=Rd.open_ hv
 obtain ⟨c0,c1,c2⟩:=cX3 h
 clear h hv y3 y2
 by_cases he:er=0
 case pos=>
  exact zq54 0
 rw [show endE (k,er) l.length=er from if_neg (fun h=>he h.1)]
 have he1:(er==0)=false:=by simpa using he
 have he2:decide (er=0)=false:=by simpa using he
 go_in
 go_wp2_with fail
 refine rB0 w (fun zh=>?_)
 refine hT 0 3 ?_
 refine hT 1 4 ?_
 refine hT 2 5 ?_
 refine hU 3 6 (v:=?_) zh ?_ ?_
 rotate_left
 ·exact zq123
 refine hT 4 7 ?_
 refine hT 5 8 ?_
 refine hK 6 9 ?_
 refine hK 7 10 ?_
 refine hK 8 11 ?_
 refine hK 9 12 ?_
 refine hK 10 13 ?_
 refine hK 11 14 ?_
 refine hK 12 15 ?_
 refine hK 13 16 ?_
 refine hK 14 17 ?_
 refine hK 15 18 ?_
 refine hT 16 19 ?_
 refine rD0 ?_
 clear zh
 go_wp2_with fail
 go_ret
 exact ⟨rfl,(Below.refl _ _).drew⟩
def getS {α:Type} (one:Int×Int→α×Int×Int):Nat→Int×Int→List α×Int×Int
 |0,s=>([],s)
 |n+1,s=>if s.2≠0 then ([],s) else ((one s).1::(getS one n (one s).2).1,(getS one n (one s).2).2)
theorem getS_stop {α:Type} {one:Int×Int→α×Int×Int} {n:Nat} {s:Int×Int} (h:n=0∨s.2≠0):getS one n s=([],s):=by
 cases n with
 |zero=>rfl
 |succ n=>
  rcases h with h|h
  ·omega
  ·exact if_pos h
theorem getS_step {α:Type} {one:Int×Int→α×Int×Int} {n:Nat} {s s':Int×Int} {a:α} (h:s.2=0) (h1:one s=(a,s')):getS one (n+1) s=(a::(getS one n s').1,(getS one n s').2):=by
 rw [getS,if_neg (by simpa using h),h1]
theorem rdI_err {l:List UInt8} {s:Int×Int} (h:(rdI l s).2.2≠0):(rdI l s).1=0:=by
 unfold rdI rdS at h ⊢
 split
 ·rfl
 ·rename_i h0
  rw [if_neg h0] at h
  split
  ·rename_i h1;rw [if_pos h1] at h;exact absurd rfl h
  ·rename_i h1;exact decI_err h1
end Go.Proofs.YtbfdegkickjbpaaGreat
