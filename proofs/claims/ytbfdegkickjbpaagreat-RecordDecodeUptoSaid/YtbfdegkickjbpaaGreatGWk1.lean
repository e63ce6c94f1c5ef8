/-
 Wk1
-/
import Derived.Test.YtbfdegkickjbpaaGreatGRcG
import Derived.Test.YtbfdegkickjbpaaGreatGWkA
namespace Go.Proofs.YtbfdegkickjbpaaGreat
set_option maxRecDepth 1000000
set_option maxHeartbeats 32000000
section
open Go.RowKit Go.Lib Go.IntWalk Go.Sort Go.Shelf
theorem rdBlkX {α:Type} {K:Nat} {enc:α→List Value} {w:World} {b:Nat} {x:α} {e:TypeId} (h:w.heap[b]? =some (.cells (enc x).toArray e (0,0))) (hl:(enc x).length=K):RdE K enc w (·<w.heap.size) (.slice (some ⟨b,0,none⟩) 1 1) [x]:=by
 unfold RdE
 rw [List.flatMap_singleton]
 refine ⟨by rw [hl];simp,_,1,rfl,Nat.le_refl _,by unfold maxLen;decide,fun h=>(Option.some_ne_none _ h).elim,fun _=>⟨_,rfl,(Array.getElem?_eq_some_iff.1 h).1,fun j u hu=>?_⟩⟩
 have hadd:(⟨b,0,none⟩:Addr).add j=⟨b,j,none⟩:=by unfold Addr.add;split<;>simp_all
 rw [hadd,cW0 w b j (enc x).toArray e (0,0) h]
 simpa using hu
def xs7v:List Val:=[⟨1,7,⟨#[]⟩⟩]
theorem chkNilX (w:World):Calls Tryz.prog 11 #[.agg #[.int .i64 1,.int .i64 5,.int .i64 5,.int .i64 1,.slice none 0 0,.slice none 0 0,.slice none 0 0,.slice none 0 0,.slice none 0 0,.slice none 0 0]] w fun e w'=>e=.returned (.int .i64 0)∧Below w.heap.size w w':=
 check_any ⟨1,5,5,1,none,0,[],none,0,[],none,0,[],none,0,[],none,0,[],none,0,[]⟩ w
  ⟨Rd.nil _ _ _,(fun x hx=>by cases hx),Rd.nil _ _ _,(fun x hx=>by cases hx),Rd.nil _ _ _,Rd.nil _ _ _,Rd.nil _ _ _,Rd.nil _ _ _⟩
theorem chkOpenX (D O R:Nat) (w:World) (hD:w.heap[D]? =some (.cells #[.string ⟨#[116]⟩,.slice none 0 0,.slice (some ⟨O,0,none⟩) 1 1] 63 (0,0))) (hO:w.heap[O]? =some (.cells #[.slice (some ⟨R,0,none⟩) 1 1,.int .i64 0,.int .i64 3] 68 (0,0))) (hx:RdV w (·<w.heap.size) (.slice (some ⟨R,0,none⟩) 1 1) xs7v) (hg:∀x∈xs7v,goV x):
  Calls Tryz.prog 11 #[.agg #[.int .i64 1,.int .i64 5,.int .i64 5,.int .i64 1,.slice none 0 0,.slice (some ⟨D,0,none⟩) 1 1,.slice none 0 0,.slice none 0 0,.slice none 0 0,.slice none 0 0]] w fun e w'=>e=.returned (.int .i64 0)∧Below w.heap.size w w':=
 check_any ⟨1,5,5,1,none,0,[],some ⟨D,0,none⟩,1,[⟨⟨#[116]⟩,none,0,[],some ⟨O,0,none⟩,1,[⟨some ⟨R,0,none⟩,1,1,xs7v,0,3⟩]⟩],none,0,[],none,0,[],none,0,[],none,0,[]⟩ w
  ⟨Rd.nil _ _ _,(fun x hx=>by cases hx),rdBlkX hD rfl,(fun x hx=>by rw [List.mem_singleton] at hx;subst hx;exact ⟨Rd.nil _ _ _,⟨rdBlkX hO rfl,fun p hp=>by rw [List.mem_singleton] at hp;subst hp;exact ⟨‹RdV w _ _ xs7v›,hg⟩⟩,⟨by simp,by simp⟩⟩),Rd.nil _ _ _,Rd.nil _ _ _,Rd.nil _ _ _,Rd.nil _ _ _⟩
end
section
open Go.RowKit Go.Lib Go.IntWalk Go.Sort Go.Shelf
theorem bufText_any (base B:Nat) (l:List UInt8) (S:ByteArray) (w:World) (hbB:base≤B) (h:BufAt w base B l) (hS:S.size≤300) (hl:l.length+4000≤140737488300000):
  Calls Tryz.prog 109 #[.pointer (some ⟨B,0,none⟩),.string S] w (BufOut base B (l++(encI S.size++S.data.toList)) w):=by
 have hBl:=h.lt
 obtain ⟨v,hBB,hO⟩:=h
 have hbase:base≤w.heap.size:=by omega
 have HBB:=hI0 hBB
 have HO:=hI0 hO
 obtain ⟨A0,c0,rfl,y1,y2,y3⟩:=Rd.open_ (Rd.of_own hO)
 have k0:w.cell? ⟨B,0,none⟩=some (.slice A0 l.length c0):=cW0 w B 0 _ _ _ hBB
 clear y3 y2 hBB hO
 have HLE:Hid (l.length+((encI S.size++S.data.toList)).length≤140737488300000):=hI0 (by have:=encI_length S.size;rw [List.length_append,show S.data.toList.length=S.size from rfl];omega)
 have hbW:Below w.heap.size w w:=Below.refl _ _
 have hWs:w.heap.size≤w.heap.size:=Nat.le_refl _
 have hWl:B<w.heap.size:=hBl
 have k1:=k0
 go_enter Tryz.func109,Tryz.ntmps109
 go_wp2_with fail
 refine wp_region_noPanic ?_
 refine beginT (S:=(fun w'=>w'.cell? ⟨B,0,none⟩=some (.slice A0 l.length c0))) 10 (by kernel_rfl) ?_ (fun hHeld=>?_)
 ·exact k1
 refine tT 0 4 hHeld ?_
 simp only [aP]
 refine tT 1 5 hHeld ?_
 simp only [aP]
 refine tT 2 6 hHeld ?_
 simp only [aP]
 refine tT 3 7 hHeld ?_
 simp only [aP]
 refine tT 4 8 hHeld ?_
 simp only [aP]
 refine tT 5 9 hHeld ?_
 simp only [aP]
 refine cT 6 10 ?_
 (with_reducible refine (putText_any (.slice none 0 0) [] S _ (RdB.nil _ _) (by simp;omega)).mono ?_)
 rintro e w2 ⟨vd,rfl,hOd,hb2⟩
 obtain ⟨Ad,cd,rfl,j1,j2,j3⟩:=Rd.open_ hOd.rd
 clear j3 j2
 refine ⟨_,rfl,keepAnd ?_ (fun hNew=>?_)⟩
 ·intro _;exact (World.cell?_of_block (hb2.block B (by have:=hWl;exact this))).trans k1
 have hNew:=hNew (by decide)
 clear hHeld
 have hHeld:=hNew
 clear hNew
 simp only [aP]
 have hbw2:Below w.heap.size w w2:=hbW.trans ((Below.undrew hb2).mono hWs)
 have hO2:OwnB w2 base (.slice A0 l.length c0) l:=own_below HO.out hbw2
 have hB2:w2.heap[B]? =some (.cells #[.slice A0 l.length c0] 97 (0,0)):=(hbw2.block B hBl).trans HBB.out
 refine opT 7 rfl (by kernel_rfl) (by rfl) ?_
 refine wp_append_b (.tmp 8) (.tmp 10) rfl base (.slice A0 l.length c0) l rfl hO2 (·<w2.heap.size) _ ((encI S.size++S.data.toList)) rfl hOd.rd (by have:=HLE.out;omega) (by have:=hbw2.size;omega) ?_
 intro v' w3 hO3 hb3 hg3 hv3
 have hDone:=buf_done hbB HBB.out HO.out hbw2 hO3 hb3 hg3 hv3
 have hB3:w3.heap[B]? =some (.cells #[.slice A0 l.length c0] 97 (0,0)):=(hg3.block B (by have:=hbw2.size;omega) (own_not hO2 hB2 (by decide))).trans hB2
 have kf:w3.frozen? ⟨B,0,none⟩=false:=fW0 w3 B 0 _ _ hB3
 have kc:w3.cell? ⟨B,0,none⟩=some (.slice A0 l.length c0):=cW0 w3 B 0 _ _ _ hB3
 obtain ⟨A3,c3,rfl,z1,z2,z3⟩:=Rd.open_ (Rd.of_own hO3)
 clear z3 z2
 refine keepAnd ?_ (fun hNew=>?_)
 ·intro _;exact cW0 _ B 0 _ _ _ hB3
 have hNew:=hNew (by decide)
 clear hHeld
 have hHeld:=hNew
 clear hNew
 simp only [aP]
 refine runT 8 (some 12) (v:=?_) (w':=_) rfl rfl (by kernel_rfl) (by rfl) ?_ (fun _=>hHeld) ?_
 rotate_left
 ·go_simp<;>with_reducible rfl
 simp only [aP]
 refine tT 9 13 hHeld ?_
 simp only [aP]
 refine skipRunT 10 none (w':=w3.setCell ⟨B,0,none⟩ (.slice A3 (l++(encI S.size++S.data.toList)).length c3)) rfl rfl (by kernel_rfl) (by rfl) ?_ (fun h=>absurd rfl h) ?_
 ·go_simp<;>with_reducible rfl
 clear hHeld
 simp only [Act.put]
 refine doneT (by kernel_rfl) ?_ _
 refine NoPanic.normal ?_
 go_wp2_with fail
 go_end0
 exact hDone
theorem fact_any (base B:Nat) (l:List UInt8) (xA:Option Addr) (xn xc:Nat) (f t:Int) (xs:List Val) (w:World) (hbB:base≤B) (h:BufAt w base B l) (hx:RdV w (·<base) (.slice xA xn xc) xs) (hok:∀x∈xs,putV x) (hr:(encR xs).length≤4000) (hf1: -9223372036854775808≤f) (hf2:f≤9223372036854775807) (ht1: -9223372036854775808≤t) (ht2:t≤9223372036854775807) (hl:l.length≤1000000):
  Calls Tryz.prog 155 #[.pointer (some ⟨B,0,none⟩),.agg #[.slice xA xn xc,.int .i64 f,.int .i64 t]] w (BufOut base B (l++(encR xs++(encI f++encI t))) w):=by
 have hBl:=h.lt
 have hw0:base≤w.heap.size:=by omega
 obtain ⟨W,hW⟩:∃W,W=w.alloc (.cells #[.slice xA xn xc,.int .i64 f,.int .i64 t] 68):=⟨_,rfl⟩
 have hbW:Below w.heap.size w W:=by rw [hW];exact Below.of_alloc _
 have hWs:W.heap.size=w.heap.size+1:=by rw [hW];simp
 have hWh:W.heap[w.heap.size]? =some (.cells #[.slice xA xn xc,.int .i64 f,.int .i64 t] 68 (0,0)):=by rw [hW];exact heap_alloc_new _ _
 have HW:=hI0 hW
 clear hW
 have HV:=hI0 hx
 have HOK:=hI0 hok
 have HRL:=hI0 hr
 clear hx hok hr
 go_enter Tryz.func155,Tryz.ntmps155
 go_wp2_with fail
 rw [←HW.out]
 have hA0:BufAt W base B l:=h.below hbW
 have hB0:Below base w W:=hbW.mono hw0
 have hK0:KeepO B w W:=KeepO.of_below hbW
 clear h hbW
 have HVw:Hid (RdV W.drew (·<W.drew.heap.size) (.slice xA xn xc) xs):=hI0 (Rd.wide (Rd.keep HV.out (Keeps.below hB0.drew)) (fun b hb=>by show b<W.heap.size;have hb':b<base:=hb;omega))
 refine wp_region_noPanic ?_
 refine wp_region_held_drew (S:=(fun w'=>∀j u,[.slice xA xn xc,.int .i64 f,.int .i64 t][j]? =some u→w'.cell? ⟨w.heap.size,j,none⟩=some u)) (by kernel_rfl) ?_ (fun hHeld=>?_)
 ·exact fun j u hj=>(cW0 _ w.heap.size j _ _ _ hWh).trans (by simpa using hj)
 refine hT 0 4 hHeld ?_
 simp only [aP]
 refine hT 1 5 hHeld ?_
 simp only [aP]
 refine hT 2 6 hHeld ?_
 simp only [aP]
 refine hT 3 7 hHeld ?_
 simp only [aP]
 refine hU 4 8 (v:=?_) hHeld ?_ ?_
 rotate_left
 ·intro w' hSw;(try dsimp only at hSw);have q0:=hSw 0 _ rfl;go_simp<;>with_reducible rfl
 simp only [aP]
 refine hC 5 9 ?_
 (with_reducible refine (bufRow_any base B (l) _ xs _ hbB hA0.drew HVw.out HOK.out HRL.out (by omega)).mono ?_)
 rintro _ w1 ⟨rfl,hA1,hb',hk'⟩
 have hB1:Below base w w1:=hB0.trans (Below.undrew hb')
 have hK1:KeepO B w w1:=hK0.trans hk'
 have hWh':=(hk'.2 w.heap.size (by have:W.drew.heap.size=W.heap.size:=rfl;have:=hWs;first|omega|(have:=hsz0;omega)) (by omega) (by intro cur;rw [show W.drew.heap[w.heap.size]? =_ from hWh];simp)).trans (show W.drew.heap[w.heap.size]? =_ from hWh)
 have hsz1:w.heap.size+1≤w1.heap.size:=by have:=hk'.1;have:W.drew.heap.size=W.heap.size:=rfl;first|omega|(have:=hsz0;omega)
 clear hWh hb' hk'
 have hWh:=hWh'
 clear hWh'
 refine ⟨_,rfl,keepAnd ?_ (fun hNew=>?_)⟩
 ·exact fun j u hj=>(cW0 _ w.heap.size j _ _ _ hWh).trans (by simpa using hj)
 clear hHeld
 have hHeld:=hNew
 clear hNew
 simp only [aP]
 refine wpAnyH_done (by kernel_rfl) ?_ _
 refine NoPanic.normal ?_
 clear hHeld
 clear hA0 hB0 hK0
 go_wp2_with fail
 refine wp_region_noPanic ?_
 refine wp_region_held_drew (S:=(fun w'=>∀j u,[.slice xA xn xc,.int .i64 f,.int .i64 t][j]? =some u→w'.cell? ⟨w.heap.size,j,none⟩=some u)) (by kernel_rfl) ?_ (fun hHeld=>?_)
 ·exact fun j u hj=>(cW0 _ w.heap.size j _ _ _ hWh).trans (by simpa using hj)
 refine hT 0 10 hHeld ?_
 simp only [aP]
 refine hT 1 11 hHeld ?_
 simp only [aP]
 refine hT 2 12 hHeld ?_
 simp only [aP]
 refine hT 3 13 hHeld ?_
 simp only [aP]
 refine hU 4 14 (v:=?_) hHeld ?_ ?_
 rotate_left
 ·intro w' hSw;(try dsimp only at hSw);have q1:=hSw 1 _ rfl;have q2:=hSw 2 _ rfl;go_simp<;>with_reducible rfl
 simp only [aP]
 refine hC 5 15 ?_
 (with_reducible refine (bufPeriod_any base B (l++encR xs) f t _ hbB hA1.drew hf1 hf2 ht1 ht2 (by have:=HRL.out;(try simp only [List.length_append]);omega)).mono ?_)
 rintro _ w2 ⟨rfl,hA2,hb',hk'⟩
 have hB2:Below base w w2:=hB1.trans (Below.undrew hb')
 have hK2:KeepO B w w2:=hK1.trans hk'
 have hWh':=(hk'.2 w.heap.size (by have:w1.drew.heap.size=w1.heap.size:=rfl;have:=hWs;first|omega|(have:=hsz1;omega)) (by omega) (by intro cur;rw [show w1.drew.heap[w.heap.size]? =_ from hWh];simp)).trans (show w1.drew.heap[w.heap.size]? =_ from hWh)
 have hsz2:w.heap.size+1≤w2.heap.size:=by have:=hk'.1;have:w1.drew.heap.size=w1.heap.size:=rfl;first|omega|(have:=hsz1;omega)
 clear hWh hb' hk'
 have hWh:=hWh'
 clear hWh'
 refine ⟨_,rfl,keepAnd ?_ (fun hNew=>?_)⟩
 ·exact fun j u hj=>(cW0 _ w.heap.size j _ _ _ hWh).trans (by simpa using hj)
 clear hHeld
 have hHeld:=hNew
 clear hNew
 simp only [aP]
 refine wpAnyH_done (by kernel_rfl) ?_ _
 refine NoPanic.normal ?_
 clear hHeld
 clear hA1 hB1 hK1
 go_wp2_with fail
 go_end0
 refine ⟨rfl,?_,hB2,hK2⟩
 have e:l++(encR xs++(encI f++encI t))=l++encR xs++(encI f++encI t):=by simp
 rw [e]
 exact hA2
theorem put1Fact (base B D:Nat) (l:List UInt8) (xA:Option Addr) (xn xc:Nat) (f t:Int) (xs:List Val) (w:World) (hbB:base≤B) (h:BufAt w base B l) (hD:w.heap[D]? =some (.cells #[.slice xA xn xc,.int .i64 f,.int .i64 t] 68 (0,0))) (hDb:D<base) (hx:RdV w (·<base) (.slice xA xn xc) xs) (hok:∀x∈xs,putV x) (hr:(encR xs).length≤4000) (hf1: -9223372036854775808≤f) (hf2:f≤9223372036854775807) (ht1: -9223372036854775808≤t) (ht2:t≤9223372036854775807) (hl:l.length≤900000):
  Calls Tryz.prog 154 #[.pointer (some ⟨B,0,none⟩),.slice (some ⟨D,0,none⟩) 1 1,.func (.func 155) #[] #[]] w (BufOut base B (l++(encI 1++(encR xs++(encI f++encI t)))) w):=by
 have hBl:=h.lt
 have KI:=bufInt_any base B l 1 w hbB h (by omega) (by omega) (by omega)
 have e0:=encI_length 1
 have HD:=hI0 hD
 have K1:∀W,BufAt W base B (l++encI 1)→Below base w W→Calls Tryz.prog 155 #[.pointer (some ⟨B,0,none⟩),.agg #[.slice xA xn xc,.int .i64 f,.int .i64 t]] W (BufOut base B (l++encI 1++(encR xs++(encI f++encI t))) W):=fun W hA hB=>fact_any base B _ xA xn xc f t xs W hbB hA (Rd.keep hx (fun b hb=>hB.block b hb)) hok hr hf1 hf2 ht1 ht2 (by rw [List.length_append];omega)
 have HK1:=hI0 K1
 clear K1 hD
 go_enter Tryz.func154,Tryz.ntmps154
 go_wp2_with fail
 (with_reducible refine KI.mono ?_)
 rintro _ w1 ⟨rfl,hA1,hb1,hk1⟩
 have HA1:=hI0 hA1
 have HB1:=hI0 hb1
 have HK:=hI0 hk1
 have hs1:w.heap.size≤w1.heap.size:=hk1.1
 clear hA1 hb1 hk1 KI
 go_wp2_with fail
 go_loopw [16] (fun i wr=>(i=.int .i64 0∧wr=w1)∨(i=.int .i64 1∧BufAt wr base B (l++encI 1++(encR xs++(encI f++encI t)))∧Below base w wr∧KeepO B w wr)) (fun i _=>1-(intOf i).toNat)
 case atStart=>exact .inl ⟨rfl,rfl⟩
 rcases hrel with ⟨rfl,hw⟩|⟨rfl,hA,hB,hK⟩
 ·rw [hw]
  clear hw
  have hD1:=(HB1.out.block D hDb).trans HD.out
  have g0:w1.cell? ⟨D,0,none⟩=some (.slice xA xn xc):=cW0 w1 D 0 _ _ _ hD1
  have g1:w1.cell? ⟨D,1,none⟩=some (.int .i64 f):=cW0 w1 D 1 _ _ _ hD1
  have g2:w1.cell? ⟨D,2,none⟩=some (.int .i64 t):=cW0 w1 D 2 _ _ _ hD1
  obtain ⟨W1,hW1⟩:∃W1,W1=w1.alloc (.cells #[.slice xA xn xc,.int .i64 f,.int .i64 t] 68):=⟨_,rfl⟩
  have hbW:Below w1.heap.size w1 W1:=by subst hW1;exact Below.of_alloc _
  have hAW:=HA1.out.below hbW
  have hBW:Below base w W1:=HB1.out.trans (hbW.mono (by omega))
  have KV:=HK1.out W1 hAW hBW
  have HKW:=hI0 (HK.out.trans (KeepO.of_below hbW))
  have HBW:=hI0 hBW
  clear hAW hBW hbW hD1
  go_wp2_with fail
  rw [←hW1]
  clear hW1
  clear g0 g1 g2
  (with_reducible refine KV.mono ?_)
  rintro _ w2 ⟨rfl,hA2,hb2,hk2⟩
  have HF:=hI0 (And.intro hA2 (And.intro (HBW.out.trans hb2) (HKW.out.trans hk2)))
  clear hA2 hb2 hk2 KV
  go_wp2_with fail
  go_roundw
  case rel=>exact .inr ⟨by go_num,HF.out⟩
  case measure=>simp [intOf]
 ·have HF:=hI0 (And.intro hA (And.intro hB hK))
  clear hA hB hK
  go_wp2_with fail
  go_end0
  rw [←List.append_assoc]
  exact ⟨rfl,HF.out⟩
theorem delta1 (base B:Nat) (l:List UInt8) (S:ByteArray) (O:Nat) (xA:Option Addr) (xn xc:Nat) (f t:Int) (xs:List Val) (w:World) (hbB:base≤B) (h:BufAt w base B l) (hx:RdV w (·<base) (.slice xA xn xc) xs) (hok:∀x∈xs,putV x) (hr:(encR xs).length≤4000) (hf1: -9223372036854775808≤f) (hf2:f≤9223372036854775807) (ht1: -9223372036854775808≤t) (ht2:t≤9223372036854775807) (hO:w.heap[O]? =some (.cells #[.slice xA xn xc,.int .i64 f,.int .i64 t] 68 (0,0))) (hOb:O<base) (hS:S.size≤300) (hl:l.length≤800000):
  Calls Tryz.prog 50 #[.pointer (some ⟨B,0,none⟩),.agg #[.string S,.slice none 0 0,.slice (some ⟨O,0,none⟩) 1 1]] w (BufOut base B (l++((encI S.size++S.data.toList)++(encI 0++(encI 1++(encR xs++(encI f++encI t)))))) w):=by
 have hBl:=h.lt
 have hw0:base≤w.heap.size:=by omega
 obtain ⟨W,hW⟩:∃W,W=w.alloc (.cells #[.string S,.slice none 0 0,.slice (some ⟨O,0,none⟩) 1 1] 63):=⟨_,rfl⟩
 have hbW:Below w.heap.size w W:=by rw [hW];exact Below.of_alloc _
 have hWs:W.heap.size=w.heap.size+1:=by rw [hW];simp
 have hWh:W.heap[w.heap.size]? =some (.cells #[.string S,.slice none 0 0,.slice (some ⟨O,0,none⟩) 1 1] 63 (0,0)):=by rw [hW];exact heap_alloc_new _ _
 have HW:=hI0 hW
 clear hW
 have HV:=hI0 hx
 have HOK:=hI0 hok
 have HRL:=hI0 hr
 have HO:=hI0 hO
 clear hx hok hr hO
 go_enter Tryz.func50,Tryz.ntmps50
 go_wp2_with fail
 rw [←HW.out]
 have hA0:BufAt W base B l:=h.below hbW
 have hB0:Below base w W:=hbW.mono hw0
 have hK0:KeepO B w W:=KeepO.of_below hbW
 clear h hbW
 refine wp_region_noPanic ?_
 refine wp_region_held_drew (S:=(fun w'=>∀j u,[.string S,.slice none 0 0,.slice (some ⟨O,0,none⟩) 1 1][j]? =some u→w'.cell? ⟨w.heap.size,j,none⟩=some u)) (by kernel_rfl) ?_ (fun hHeld=>?_)
 ·exact fun j u hj=>(cW0 _ w.heap.size j _ _ _ hWh).trans (by simpa using hj)
 refine hT 0 4 hHeld ?_
 simp only [aP]
 refine hT 1 5 hHeld ?_
 simp only [aP]
 refine hT 2 6 hHeld ?_
 simp only [aP]
 refine hT 3 7 hHeld ?_
 simp only [aP]
 refine hU 4 8 (v:=?_) hHeld ?_ ?_
 rotate_left
 ·intro w' hSw;(try dsimp only at hSw);have q0:=hSw 0 _ rfl;go_simp<;>with_reducible rfl
 simp only [aP]
 refine hC 5 9 ?_
 (with_reducible refine (bufText_any base B (l) S _ hbB hA0.drew hS (by omega)).mono ?_)
 rintro _ w1 ⟨rfl,hA1,hb',hk'⟩
 have hB1:Below base w w1:=hB0.trans (Below.undrew hb')
 have hK1:KeepO B w w1:=hK0.trans hk'
 have hWh':=(hk'.2 w.heap.size (by have:W.drew.heap.size=W.heap.size:=rfl;have:=hWs;first|omega|(have:=hsz0;omega)) (by omega) (by intro cur;rw [show W.drew.heap[w.heap.size]? =_ from hWh];simp)).trans (show W.drew.heap[w.heap.size]? =_ from hWh)
 have hsz1:w.heap.size+1≤w1.heap.size:=by have:=hk'.1;have:W.drew.heap.size=W.heap.size:=rfl;first|omega|(have:=hsz0;omega)
 clear hWh hb' hk'
 have hWh:=hWh'
 clear hWh'
 refine ⟨_,rfl,keepAnd ?_ (fun hNew=>?_)⟩
 ·exact fun j u hj=>(cW0 _ w.heap.size j _ _ _ hWh).trans (by simpa using hj)
 clear hHeld
 have hHeld:=hNew
 clear hNew
 simp only [aP]
 refine wpAnyH_done (by kernel_rfl) ?_ _
 refine NoPanic.normal ?_
 clear hHeld
 clear hA0 hB0 hK0
 have q1:w1.cell? ⟨w.heap.size,1,none⟩=some (.slice none 0 0):=cW0 _ w.heap.size 1 _ _ _ hWh
 go_wp2_with fail
 (with_reducible refine (put0Int base B (l++(encI S.size++S.data.toList)) _ hbB hA1 (by rw [List.length_append,List.length_append,show S.data.toList.length=S.size from rfl];have:=encI_length S.size;omega)).mono ?_)
 rintro _ w2 ⟨rfl,hA2,hb',hk'⟩
 have hB2:Below base w w2:=hB1.trans hb'
 have hK2:KeepO B w w2:=hK1.trans hk'
 have hWh':=(hk'.2 w.heap.size (by have:w1.drew.heap.size=w1.heap.size:=rfl;have:=hWs;first|omega|(have:=hsz1;omega)) (by omega) (by intro cur;rw [show w1.heap[w.heap.size]? =_ from hWh];simp)).trans (show w1.heap[w.heap.size]? =_ from hWh)
 have hsz2:w.heap.size+1≤w2.heap.size:=by have:=hk'.1;have:w1.drew.heap.size=w1.heap.size:=rfl;first|omega|(have:=hsz1;omega)
 clear hWh hb' hk'
 have hWh:=hWh'
 clear hWh'
 clear q1
 clear hA1 hB1 hK1
 have HVk:Hid (RdV w2 (·<base) (.slice xA xn xc) xs):=hI0 (Rd.keep HV.out (fun b hb=>hB2.block b hb))
 have q2:w2.cell? ⟨w.heap.size,2,none⟩=some (.slice (some ⟨O,0,none⟩) 1 1):=cW0 _ w.heap.size 2 _ _ _ hWh
 go_wp2_with fail
 (with_reducible refine (put1Fact base B O (l++(encI S.size++S.data.toList)++encI 0) xA xn xc f t xs _ hbB hA2 ((hB2.block O hOb).trans HO.out) hOb HVk.out HOK.out HRL.out hf1 hf2 ht1 ht2 (by rw [List.length_append,List.length_append,List.length_append,show S.data.toList.length=S.size from rfl];have:=encI_length S.size;have:=encI_length 0;omega)).mono ?_)
 rintro _ w3 ⟨rfl,hA3,hb',hk'⟩
 have hB3:Below base w w3:=hB2.trans hb'
 have hK3:KeepO B w w3:=hK2.trans hk'
 have hWh':=(hk'.2 w.heap.size (by have:w2.drew.heap.size=w2.heap.size:=rfl;have:=hWs;first|omega|(have:=hsz2;omega)) (by omega) (by intro cur;rw [show w2.heap[w.heap.size]? =_ from hWh];simp)).trans (show w2.heap[w.heap.size]? =_ from hWh)
 have hsz3:w.heap.size+1≤w3.heap.size:=by have:=hk'.1;have:w2.drew.heap.size=w2.heap.size:=rfl;first|omega|(have:=hsz2;omega)
 clear hWh hb' hk'
 have hWh:=hWh'
 clear hWh'
 clear q2
 clear hA2 hB2 hK2
 go_wp2_with fail
 go_end0
 refine ⟨rfl,?_,hB3,hK3⟩
 have e:l++((encI S.size++S.data.toList)++(encI 0++(encI 1++(encR xs++(encI f++encI t)))))=l++(encI S.size++S.data.toList)++encI 0++(encI 1++(encR xs++(encI f++encI t))):=by simp
 rw [e]
 exact hA3
theorem put1Delta (base B D:Nat) (l:List UInt8) (S:ByteArray) (O:Nat) (xA:Option Addr) (xn xc:Nat) (f t:Int) (xs:List Val) (w:World) (hbB:base≤B) (h:BufAt w base B l) (hD:w.heap[D]? =some (.cells #[.string S,.slice none 0 0,.slice (some ⟨O,0,none⟩) 1 1] 63 (0,0))) (hDb:D<base) (hx:RdV w (·<base) (.slice xA xn xc) xs) (hok:∀x∈xs,putV x) (hr:(encR xs).length≤4000) (hf1: -9223372036854775808≤f) (hf2:f≤9223372036854775807) (ht1: -9223372036854775808≤t) (ht2:t≤9223372036854775807) (hO:w.heap[O]? =some (.cells #[.slice xA xn xc,.int .i64 f,.int .i64 t] 68 (0,0))) (hOb:O<base) (hS:S.size≤300) (hl:l.length≤700000):
  Calls Tryz.prog 49 #[.pointer (some ⟨B,0,none⟩),.slice (some ⟨D,0,none⟩) 1 1,.func (.func 50) #[] #[]] w (BufOut base B (l++(encI 1++((encI S.size++S.data.toList)++(encI 0++(encI 1++(encR xs++(encI f++encI t))))))) w):=by
 have hBl:=h.lt
 have KI:=bufInt_any base B l 1 w hbB h (by omega) (by omega) (by omega)
 have e0:=encI_length 1
 have HD:=hI0 hD
 have K1:∀W,BufAt W base B (l++encI 1)→Below base w W→Calls Tryz.prog 50 #[.pointer (some ⟨B,0,none⟩),.agg #[.string S,.slice none 0 0,.slice (some ⟨O,0,none⟩) 1 1]] W (BufOut base B (l++encI 1++((encI S.size++S.data.toList)++(encI 0++(encI 1++(encR xs++(encI f++encI t)))))) W):=fun W hA hB=>delta1 base B _ S O xA xn xc f t xs W hbB hA (Rd.keep hx (fun b hb=>hB.block b hb)) hok hr hf1 hf2 ht1 ht2 ((hB.block O hOb).trans hO) hOb hS (by rw [List.length_append];omega)
 have HK1:=hI0 K1
 clear K1 hD
 go_enter Tryz.func49,Tryz.ntmps49
 go_wp2_with fail
 (with_reducible refine KI.mono ?_)
 rintro _ w1 ⟨rfl,hA1,hb1,hk1⟩
 have HA1:=hI0 hA1
 have HB1:=hI0 hb1
 have HK:=hI0 hk1
 have hs1:w.heap.size≤w1.heap.size:=hk1.1
 clear hA1 hb1 hk1 KI
 go_wp2_with fail
 go_loopw [16] (fun i wr=>(i=.int .i64 0∧wr=w1)∨(i=.int .i64 1∧BufAt wr base B (l++encI 1++((encI S.size++S.data.toList)++(encI 0++(encI 1++(encR xs++(encI f++encI t))))))∧Below base w wr∧KeepO B w wr)) (fun i _=>1-(intOf i).toNat)
 case atStart=>exact .inl ⟨rfl,rfl⟩
 rcases hrel with ⟨rfl,hw⟩|⟨rfl,hA,hB,hK⟩
 ·rw [hw]
  clear hw
  have hD1:=(HB1.out.block D hDb).trans HD.out
  have g0:w1.cell? ⟨D,0,none⟩=some (.string S):=cW0 w1 D 0 _ _ _ hD1
  have g1:w1.cell? ⟨D,1,none⟩=some (.slice none 0 0):=cW0 w1 D 1 _ _ _ hD1
  have g2:w1.cell? ⟨D,2,none⟩=some (.slice (some ⟨O,0,none⟩) 1 1):=cW0 w1 D 2 _ _ _ hD1
  obtain ⟨W1,hW1⟩:∃W1,W1=w1.alloc (.cells #[.string S,.slice none 0 0,.slice (some ⟨O,0,none⟩) 1 1] 63):=⟨_,rfl⟩
  have hbW:Below w1.heap.size w1 W1:=by subst hW1;exact Below.of_alloc _
  have hAW:=HA1.out.below hbW
  have hBW:Below base w W1:=HB1.out.trans (hbW.mono (by omega))
  have KV:=HK1.out W1 hAW hBW
  have HKW:=hI0 (HK.out.trans (KeepO.of_below hbW))
  have HBW:=hI0 hBW
  clear hAW hBW hbW hD1
  go_wp2_with fail
  rw [←hW1]
  clear hW1
  clear g0 g1 g2
  (with_reducible refine KV.mono ?_)
  rintro _ w2 ⟨rfl,hA2,hb2,hk2⟩
  have HF:=hI0 (And.intro hA2 (And.intro (HBW.out.trans hb2) (HKW.out.trans hk2)))
  clear hA2 hb2 hk2 KV
  go_wp2_with fail
  go_roundw
  case rel=>exact .inr ⟨by go_num,HF.out⟩
  case measure=>simp [intOf]
 ·have HF:=hI0 (And.intro hA (And.intro hB hK))
  clear hA hB hK
  go_wp2_with fail
  go_end0
  rw [←List.append_assoc]
  exact ⟨rfl,HF.out⟩
end
section
open Go.RowKit Go.Lib Go.IntWalk Go.Sort Go.Shelf
theorem xs7v_go:∀x∈xs7v,goV x:=by
 intro x hx
 rw [xs7v,List.mem_singleton] at hx
 subst hx
 unfold goV maxLen
 decide
theorem xs7v_valid:validRowF xs7v=true:=by decide
theorem xs7v_put:(∀x∈xs7v,putV x)∧(encR xs7v).length≤2446:=valid_all (by have:=xs7v_valid;unfold validRowF at this;exact this) xs7v_go
def EncVO (l:List UInt8) (w0:World) (e:Ending) (w:World):Prop:=∃u,e=.returned (.tuple #[u,.int .i64 0])∧RdB w (fun b=>w0.heap.size≤b∧b<w.heap.size) u l∧Below w0.heap.size w0 w
theorem encNilV (w:World):Calls Tryz.prog 14 #[.agg #[.int .i64 1,.int .i64 5,.int .i64 5,.int .i64 1,.slice none 0 0,.slice none 0 0,.slice none 0 0,.slice none 0 0,.slice none 0 0,.slice none 0 0]] w (EncVO [2,10,10,2,0,0,0,0,0,0] w):=by
 obtain ⟨W,hW⟩:∃W,W=w.alloc (.cells #[.int .i64 1,.int .i64 5,.int .i64 5,.int .i64 1,.slice none 0 0,.slice none 0 0,.slice none 0 0,.slice none 0 0,.slice none 0 0,.slice none 0 0] 29):=⟨_,rfl⟩
 have hbW:Below w.heap.size w W:=by rw [hW];exact Below.of_alloc _
 have hWs:w.heap.size<W.heap.size:=by rw [hW];simp
 have hT:W.heap[w.heap.size]? =some (.cells #[.int .i64 1,.int .i64 5,.int .i64 5,.int .i64 1,.slice none 0 0,.slice none 0 0,.slice none 0 0,.slice none 0 0,.slice none 0 0,.slice none 0 0] 29 (0,0)):=by rw [hW];exact heap_alloc_new _ _
 have HBW:=hI0 hbW
 have HWS:=hI0 hWs
 have HT:=hI0 hT
 have KC:=chkNilX W
 have c0:W.cell? ⟨w.heap.size,0,none⟩=some (.int .i64 1):=cW0 W _ 0 _ _ _ hT
 have c1:W.cell? ⟨w.heap.size,1,none⟩=some (.int .i64 5):=cW0 W _ 1 _ _ _ hT
 have c2:W.cell? ⟨w.heap.size,2,none⟩=some (.int .i64 5):=cW0 W _ 2 _ _ _ hT
 have c3:W.cell? ⟨w.heap.size,3,none⟩=some (.int .i64 1):=cW0 W _ 3 _ _ _ hT
 have c4:W.cell? ⟨w.heap.size,4,none⟩=some (.slice none 0 0):=cW0 W _ 4 _ _ _ hT
 have c5:W.cell? ⟨w.heap.size,5,none⟩=some (.slice none 0 0):=cW0 W _ 5 _ _ _ hT
 have c6:W.cell? ⟨w.heap.size,6,none⟩=some (.slice none 0 0):=cW0 W _ 6 _ _ _ hT
 have c7:W.cell? ⟨w.heap.size,7,none⟩=some (.slice none 0 0):=cW0 W _ 7 _ _ _ hT
 have c8:W.cell? ⟨w.heap.size,8,none⟩=some (.slice none 0 0):=cW0 W _ 8 _ _ _ hT
 have c9:W.cell? ⟨w.heap.size,9,none⟩=some (.slice none 0 0):=cW0 W _ 9 _ _ _ hT
 clear hbW hWs hT
 go_enter Tryz.func14,Tryz.ntmps14
 go_wp2_with fail
 rw [←hW]
 clear hW
 (with_reducible refine KC.mono ?_)
 rintro _ w1 ⟨rfl,hb1⟩
 have HB1:Hid (Below w.heap.size w w1):=hI0 (HBW.out.trans (hb1.mono HBW.out.size))
 have hT1:=(hb1.block w.heap.size HWS.out).trans HT.out
 have hwB:w.heap.size<w1.heap.size:=by have:=hb1.size;have:=HWS.out;omega
 clear hb1 KC c0 c1 c2 c3 c4 c5 c6 c7 c8 c9
 obtain ⟨B,hBe⟩:∃B,B=w1.heap.size:=⟨_,rfl⟩
 obtain ⟨W2,hW2⟩:∃W2,W2=w1.alloc (.cells #[.slice none 0 0] 97):=⟨_,rfl⟩
 have hb2:Below w1.heap.size w1 W2:=by rw [hW2];exact Below.of_alloc _
 have hs2:W2.heap.size=B+1:=by rw [hW2,hBe];simp
 have hA2:BufAt W2 B B []:=⟨.slice none 0 0,by rw [hW2,hBe];exact heap_alloc_new _ _,OwnB.nil _ _⟩
 obtain ⟨W3,hW3⟩:∃W3,W3=W2.alloc (.cells #[.int .i64 1,.int .i64 5,.int .i64 5,.int .i64 1] 3):=⟨_,rfl⟩
 have hb3:Below W2.heap.size W2 W3:=by rw [hW3];exact Below.of_alloc _
 have hN3:W3.heap[B+1]? =some (.cells #[.int .i64 1,.int .i64 5,.int .i64 5,.int .i64 1] 3 (0,0)):=by rw [hW3,←hs2];exact heap_alloc_new _ _
 have hs3:W3.heap.size=B+2:=by rw [hW3];simp [hs2]
 have HA3:=hI0 (hA2.below hb3)
 have HN3:=hI0 hN3
 have hb13:Below w1.heap.size w1 W3:=hb2.trans (hb3.mono hb2.size)
 have HB3:Hid (Below w.heap.size w W3):=hI0 (HB1.out.trans (hb13.mono HB1.out.size))
 have HT3:=hI0 ((hb13.block w.heap.size hwB).trans hT1)
 have HWB:Hid (w.heap.size<B):=hI0 (by rw [hBe];exact hwB)
 have HS3:=hI0 hs3
 have hT2:=(hb2.block w.heap.size hwB).trans hT1
 have c0:W2.cell? ⟨w.heap.size,0,none⟩=some (.int .i64 1):=cW0 W2 _ 0 _ _ _ hT2
 have c1:W2.cell? ⟨w.heap.size,1,none⟩=some (.int .i64 5):=cW0 W2 _ 1 _ _ _ hT2
 have c2:W2.cell? ⟨w.heap.size,2,none⟩=some (.int .i64 5):=cW0 W2 _ 2 _ _ _ hT2
 have c3:W2.cell? ⟨w.heap.size,3,none⟩=some (.int .i64 1):=cW0 W2 _ 3 _ _ _ hT2
 have c4:W2.cell? ⟨w.heap.size,4,none⟩=some (.slice none 0 0):=cW0 W2 _ 4 _ _ _ hT2
 have c5:W2.cell? ⟨w.heap.size,5,none⟩=some (.slice none 0 0):=cW0 W2 _ 5 _ _ _ hT2
 have c6:W2.cell? ⟨w.heap.size,6,none⟩=some (.slice none 0 0):=cW0 W2 _ 6 _ _ _ hT2
 have c7:W2.cell? ⟨w.heap.size,7,none⟩=some (.slice none 0 0):=cW0 W2 _ 7 _ _ _ hT2
 have c8:W2.cell? ⟨w.heap.size,8,none⟩=some (.slice none 0 0):=cW0 W2 _ 8 _ _ _ hT2
 have c9:W2.cell? ⟨w.heap.size,9,none⟩=some (.slice none 0 0):=cW0 W2 _ 9 _ _ _ hT2
 clear hb2 hA2 hb3 hN3 hb13 hT1 hT2 hwB hs3
 go_upto_region 5 with (fail)
 rw [←hW2,←hBe]
 clear hW2 hBe
 go_wp2_with fail
 rw [←hW3]
 clear hW3 hs2 c0 c1 c2 c3 c4 c5 c6 c7 c8 c9
 go_loopw [25] (fun i wr=>∃k:Nat,i=.int .i64 (k:Int)∧k≤4∧Hid (BufAt wr B B (([2,10,10,2]:List UInt8).take k))∧Hid (Below B W3 wr)∧Hid (KeepO B W3 wr)) (fun i _=>4-(intOf i).toNat)
 case atStart=>exact ⟨0,rfl,by omega,HA3,hI0 (Below.refl _ _),hI0 (KeepO.refl _ _)⟩
 obtain ⟨k,rfl,hk,HA,HB,HK⟩:=hrel
 obtain ⟨wo,rfl⟩:∃wo:World,wo=wr:=⟨_,rfl⟩
 have hNo:=(HK.out.2 (B+1) (by have:=HS3.out;omega) (by omega) (by intro cur;rw [HN3.out];simp)).trans HN3.out
 obtain rfl|rfl|rfl|rfl|rfl:k=0∨k=1∨k=2∨k=3∨k=4:=by omega
 ·have g:wo.cell? ⟨B+1,0,none⟩=some (.int .i64 1):=cW0 wo _ 0 _ _ _ hNo
  have KI:=bufInt_any B B _ 1 wo (Nat.le_refl _) HA.out (by omega) (by omega) (by decide)
  clear hNo
  go_wp2_with fail
  (with_reducible refine KI.mono ?_)
  rintro _ w2 ⟨rfl,hA2,hb2,hk2⟩
  have HA2:Hid (BufAt w2 B B (([2,10,10,2]:List UInt8).take 1)):=hI0 hA2
  have HB2:Hid (Below B W3 w2):=hI0 (HB.out.trans hb2)
  have HK2:Hid (KeepO B W3 w2):=hI0 (HK.out.trans hk2)
  clear hA2 hb2 hk2 KI g
  go_wp2_with fail
  go_roundw
  case rel=>exact ⟨1,by go_num,by omega,HA2,HB2,HK2⟩
  case measure=>simp [intOf]
 ·have g:wo.cell? ⟨B+1,1,none⟩=some (.int .i64 5):=cW0 wo _ 1 _ _ _ hNo
  have KI:=bufInt_any B B _ 5 wo (Nat.le_refl _) HA.out (by omega) (by omega) (by decide)
  clear hNo
  go_wp2_with fail
  (with_reducible refine KI.mono ?_)
  rintro _ w2 ⟨rfl,hA2,hb2,hk2⟩
  have HA2:Hid (BufAt w2 B B (([2,10,10,2]:List UInt8).take 2)):=hI0 hA2
  have HB2:Hid (Below B W3 w2):=hI0 (HB.out.trans hb2)
  have HK2:Hid (KeepO B W3 w2):=hI0 (HK.out.trans hk2)
  clear hA2 hb2 hk2 KI g
  go_wp2_with fail
  go_roundw
  case rel=>exact ⟨2,by go_num,by omega,HA2,HB2,HK2⟩
  case measure=>simp [intOf]
 ·have g:wo.cell? ⟨B+1,2,none⟩=some (.int .i64 5):=cW0 wo _ 2 _ _ _ hNo
  have KI:=bufInt_any B B _ 5 wo (Nat.le_refl _) HA.out (by omega) (by omega) (by decide)
  clear hNo
  go_wp2_with fail
  (with_reducible refine KI.mono ?_)
  rintro _ w2 ⟨rfl,hA2,hb2,hk2⟩
  have HA2:Hid (BufAt w2 B B (([2,10,10,2]:List UInt8).take 3)):=hI0 hA2
  have HB2:Hid (Below B W3 w2):=hI0 (HB.out.trans hb2)
  have HK2:Hid (KeepO B W3 w2):=hI0 (HK.out.trans hk2)
  clear hA2 hb2 hk2 KI g
  go_wp2_with fail
  go_roundw
  case rel=>exact ⟨3,by go_num,by omega,HA2,HB2,HK2⟩
  case measure=>simp [intOf]
 ·have g:wo.cell? ⟨B+1,3,none⟩=some (.int .i64 1):=cW0 wo _ 3 _ _ _ hNo
  have KI:=bufInt_any B B _ 1 wo (Nat.le_refl _) HA.out (by omega) (by omega) (by decide)
  clear hNo
  go_wp2_with fail
  (with_reducible refine KI.mono ?_)
  rintro _ w2 ⟨rfl,hA2,hb2,hk2⟩
  have HA2:Hid (BufAt w2 B B (([2,10,10,2]:List UInt8).take 4)):=hI0 hA2
  have HB2:Hid (Below B W3 w2):=hI0 (HB.out.trans hb2)
  have HK2:Hid (KeepO B W3 w2):=hI0 (HK.out.trans hk2)
  clear hA2 hb2 hk2 KI g
  go_wp2_with fail
  go_roundw
  case rel=>exact ⟨4,by go_num,by omega,HA2,HB2,HK2⟩
  case measure=>simp [intOf]
 ·clear hNo
  have HA0:Hid (BufAt wo B B [2,10,10,2]):=HA
  clear HA
  have KP:=put0Entry B B [2,10,10,2] wo (Nat.le_refl _) HA0.out (by decide)
  have hTc:=(HB.out.block w.heap.size HWB.out).trans HT3.out
  have c4:wo.cell? ⟨w.heap.size,4,none⟩=some (.slice none 0 0):=cW0 wo _ 4 _ _ _ hTc
  clear hTc
  go_wp2_with fail
  (with_reducible refine KP.mono ?_)
  rintro _ y1 ⟨rfl,hA2,hb2,hk2⟩
  have HA1:Hid (BufAt y1 B B [2,10,10,2,0]):=hI0 hA2
  have HBq1:Hid (Below B W3 y1):=hI0 (HB.out.trans hb2)
  clear hA2 hb2 hk2 KP c4
  have KP:=put0Delta B B [2,10,10,2,0] y1 (Nat.le_refl _) HA1.out (by decide)
  have hTc:=(HBq1.out.block w.heap.size HWB.out).trans HT3.out
  have c5:y1.cell? ⟨w.heap.size,5,none⟩=some (.slice none 0 0):=cW0 y1 _ 5 _ _ _ hTc
  clear hTc
  go_wp2_with fail
  (with_reducible refine KP.mono ?_)
  rintro _ y2 ⟨rfl,hA2,hb2,hk2⟩
  have HA2:Hid (BufAt y2 B B [2,10,10,2,0,0]):=hI0 hA2
  have HB2:Hid (Below B W3 y2):=hI0 (HBq1.out.trans hb2)
  clear hA2 hb2 hk2 KP c5
  have KP:=put0Hold B B [2,10,10,2,0,0] y2 (Nat.le_refl _) HA2.out (by decide)
  have hTc:=(HB2.out.block w.heap.size HWB.out).trans HT3.out
  have c6:y2.cell? ⟨w.heap.size,6,none⟩=some (.slice none 0 0):=cW0 y2 _ 6 _ _ _ hTc
  clear hTc
  go_wp2_with fail
  (with_reducible refine KP.mono ?_)
  rintro _ y3 ⟨rfl,hA2,hb2,hk2⟩
  have HA3:Hid (BufAt y3 B B [2,10,10,2,0,0,0]):=hI0 hA2
  have HBq3:Hid (Below B W3 y3):=hI0 (HB2.out.trans hb2)
  clear hA2 hb2 hk2 KP c6
  have KP:=put0Str B B [2,10,10,2,0,0,0] y3 (Nat.le_refl _) HA3.out (by decide)
  have hTc:=(HBq3.out.block w.heap.size HWB.out).trans HT3.out
  have c7:y3.cell? ⟨w.heap.size,7,none⟩=some (.slice none 0 0):=cW0 y3 _ 7 _ _ _ hTc
  clear hTc
  go_wp2_with fail
  (with_reducible refine KP.mono ?_)
  rintro _ y4 ⟨rfl,hA2,hb2,hk2⟩
  have HA4:Hid (BufAt y4 B B [2,10,10,2,0,0,0,0]):=hI0 hA2
  have HB4:Hid (Below B W3 y4):=hI0 (HBq3.out.trans hb2)
  clear hA2 hb2 hk2 KP c7
  have KP:=put0Policy B B [2,10,10,2,0,0,0,0] y4 (Nat.le_refl _) HA4.out (by decide)
  have hTc:=(HB4.out.block w.heap.size HWB.out).trans HT3.out
  have c8:y4.cell? ⟨w.heap.size,8,none⟩=some (.slice none 0 0):=cW0 y4 _ 8 _ _ _ hTc
  clear hTc
  go_wp2_with fail
  (with_reducible refine KP.mono ?_)
  rintro _ y5 ⟨rfl,hA2,hb2,hk2⟩
  have HA5:Hid (BufAt y5 B B [2,10,10,2,0,0,0,0,0]):=hI0 hA2
  have HB5:Hid (Below B W3 y5):=hI0 (HB4.out.trans hb2)
  clear hA2 hb2 hk2 KP c8
  have KP:=put0Horizon B B [2,10,10,2,0,0,0,0,0] y5 (Nat.le_refl _) HA5.out (by decide)
  have hTc:=(HB5.out.block w.heap.size HWB.out).trans HT3.out
  have c9:y5.cell? ⟨w.heap.size,9,none⟩=some (.slice none 0 0):=cW0 y5 _ 9 _ _ _ hTc
  clear hTc
  go_wp2_with fail
  (with_reducible refine KP.mono ?_)
  rintro _ y6 ⟨rfl,hA2,hb2,hk2⟩
  have HA6:Hid (BufAt y6 B B [2,10,10,2,0,0,0,0,0,0]):=hI0 hA2
  have HB6:Hid (Below B W3 y6):=hI0 (HB5.out.trans hb2)
  clear hA2 hb2 hk2 KP c9
  obtain ⟨v,hB,hO⟩:=HA6.out
  obtain ⟨Av,cv,rfl,x1,x2,x3⟩:=Rd.open_ (Rd.of_own hO)
  have q0:y6.cell? ⟨B,0,none⟩=some (.slice Av 10 cv):=cW0 y6 _ 0 _ _ _ hB
  have HO:=hI0 ((Rd.of_own hO).wide (fun b hb=>(⟨by have:=hb.1;have:=HWB.out;omega,hb.2⟩:w.heap.size≤b∧b<y6.heap.size)))
  have HBF:Hid (Below w.heap.size w y6):=hI0 (HB3.out.trans (HB6.out.mono (by have:=HWB.out;omega)))
  clear hB hO x1 x2 x3
  go_wp2_with fail
  go_ret2
  exact ⟨_,rfl,HO.out,HBF.out⟩
theorem encOpenV (D O R:Nat) (w:World) (hD:w.heap[D]? =some (.cells #[.string ⟨#[116]⟩,.slice none 0 0,.slice (some ⟨O,0,none⟩) 1 1] 63 (0,0))) (hO:w.heap[O]? =some (.cells #[.slice (some ⟨R,0,none⟩) 1 1,.int .i64 0,.int .i64 3] 68 (0,0))) (hx:RdV w (·<w.heap.size) (.slice (some ⟨R,0,none⟩) 1 1) xs7v):Calls Tryz.prog 14 #[.agg #[.int .i64 1,.int .i64 5,.int .i64 5,.int .i64 1,.slice none 0 0,.slice (some ⟨D,0,none⟩) 1 1,.slice none 0 0,.slice none 0 0,.slice none 0 0,.slice none 0 0]] w (EncVO [2,10,10,2,0,2,2,116,0,2,2,1,14,0,6,0,0,0,0] w):=by
 obtain ⟨W,hW⟩:∃W,W=w.alloc (.cells #[.int .i64 1,.int .i64 5,.int .i64 5,.int .i64 1,.slice none 0 0,.slice (some ⟨D,0,none⟩) 1 1,.slice none 0 0,.slice none 0 0,.slice none 0 0,.slice none 0 0] 29):=⟨_,rfl⟩
 have hbW:Below w.heap.size w W:=by rw [hW];exact Below.of_alloc _
 have hWs:w.heap.size<W.heap.size:=by rw [hW];simp
 have hT:W.heap[w.heap.size]? =some (.cells #[.int .i64 1,.int .i64 5,.int .i64 5,.int .i64 1,.slice none 0 0,.slice (some ⟨D,0,none⟩) 1 1,.slice none 0 0,.slice none 0 0,.slice none 0 0,.slice none 0 0] 29 (0,0)):=by rw [hW];exact heap_alloc_new _ _
 have HBW:=hI0 hbW
 have HWS:=hI0 hWs
 have HT:=hI0 hT
 have hDl:=(Array.getElem?_eq_some_iff.1 hD).1
 have hOl:=(Array.getElem?_eq_some_iff.1 hO).1
 have hxW:RdV W (·<W.heap.size) (.slice (some ⟨R,0,none⟩) 1 1) xs7v:=(Rd.keep hx (Keeps.below hbW)).wide (fun b (hb:b<w.heap.size)=>by show b<W.heap.size;omega)
 have KC:=chkOpenX D O R W ((hbW.block D hDl).trans hD) ((hbW.block O hOl).trans hO) hxW xs7v_go
 have HF:=hI0 (And.intro hDl (And.intro hOl (And.intro hD (And.intro hO hx))))
 clear hDl hOl hxW hD hO hx
 have c0:W.cell? ⟨w.heap.size,0,none⟩=some (.int .i64 1):=cW0 W _ 0 _ _ _ hT
 have c1:W.cell? ⟨w.heap.size,1,none⟩=some (.int .i64 5):=cW0 W _ 1 _ _ _ hT
 have c2:W.cell? ⟨w.heap.size,2,none⟩=some (.int .i64 5):=cW0 W _ 2 _ _ _ hT
 have c3:W.cell? ⟨w.heap.size,3,none⟩=some (.int .i64 1):=cW0 W _ 3 _ _ _ hT
 have c4:W.cell? ⟨w.heap.size,4,none⟩=some (.slice none 0 0):=cW0 W _ 4 _ _ _ hT
 have c5:W.cell? ⟨w.heap.size,5,none⟩=some (.slice (some ⟨D,0,none⟩) 1 1):=cW0 W _ 5 _ _ _ hT
 have c6:W.cell? ⟨w.heap.size,6,none⟩=some (.slice none 0 0):=cW0 W _ 6 _ _ _ hT
 have c7:W.cell? ⟨w.heap.size,7,none⟩=some (.slice none 0 0):=cW0 W _ 7 _ _ _ hT
 have c8:W.cell? ⟨w.heap.size,8,none⟩=some (.slice none 0 0):=cW0 W _ 8 _ _ _ hT
 have c9:W.cell? ⟨w.heap.size,9,none⟩=some (.slice none 0 0):=cW0 W _ 9 _ _ _ hT
 clear hbW hWs hT
 go_enter Tryz.func14,Tryz.ntmps14
 go_wp2_with fail
 rw [←hW]
 clear hW
 (with_reducible refine KC.mono ?_)
 rintro _ w1 ⟨rfl,hb1⟩
 have HB1:Hid (Below w.heap.size w w1):=hI0 (HBW.out.trans (hb1.mono HBW.out.size))
 have hT1:=(hb1.block w.heap.size HWS.out).trans HT.out
 have hwB:w.heap.size<w1.heap.size:=by have:=hb1.size;have:=HWS.out;omega
 clear hb1 KC c0 c1 c2 c3 c4 c5 c6 c7 c8 c9
 obtain ⟨B,hBe⟩:∃B,B=w1.heap.size:=⟨_,rfl⟩
 obtain ⟨W2,hW2⟩:∃W2,W2=w1.alloc (.cells #[.slice none 0 0] 97):=⟨_,rfl⟩
 have hb2:Below w1.heap.size w1 W2:=by rw [hW2];exact Below.of_alloc _
 have hs2:W2.heap.size=B+1:=by rw [hW2,hBe];simp
 have hA2:BufAt W2 B B []:=⟨.slice none 0 0,by rw [hW2,hBe];exact heap_alloc_new _ _,OwnB.nil _ _⟩
 obtain ⟨W3,hW3⟩:∃W3,W3=W2.alloc (.cells #[.int .i64 1,.int .i64 5,.int .i64 5,.int .i64 1] 3):=⟨_,rfl⟩
 have hb3:Below W2.heap.size W2 W3:=by rw [hW3];exact Below.of_alloc _
 have hN3:W3.heap[B+1]? =some (.cells #[.int .i64 1,.int .i64 5,.int .i64 5,.int .i64 1] 3 (0,0)):=by rw [hW3,←hs2];exact heap_alloc_new _ _
 have hs3:W3.heap.size=B+2:=by rw [hW3];simp [hs2]
 have HA3:=hI0 (hA2.below hb3)
 have HN3:=hI0 hN3
 have hb13:Below w1.heap.size w1 W3:=hb2.trans (hb3.mono hb2.size)
 have HB3:Hid (Below w.heap.size w W3):=hI0 (HB1.out.trans (hb13.mono HB1.out.size))
 have HT3:=hI0 ((hb13.block w.heap.size hwB).trans hT1)
 have HWB:Hid (w.heap.size<B):=hI0 (by rw [hBe];exact hwB)
 have HS3:=hI0 hs3
 have hT2:=(hb2.block w.heap.size hwB).trans hT1
 have c0:W2.cell? ⟨w.heap.size,0,none⟩=some (.int .i64 1):=cW0 W2 _ 0 _ _ _ hT2
 have c1:W2.cell? ⟨w.heap.size,1,none⟩=some (.int .i64 5):=cW0 W2 _ 1 _ _ _ hT2
 have c2:W2.cell? ⟨w.heap.size,2,none⟩=some (.int .i64 5):=cW0 W2 _ 2 _ _ _ hT2
 have c3:W2.cell? ⟨w.heap.size,3,none⟩=some (.int .i64 1):=cW0 W2 _ 3 _ _ _ hT2
 have c4:W2.cell? ⟨w.heap.size,4,none⟩=some (.slice none 0 0):=cW0 W2 _ 4 _ _ _ hT2
 have c5:W2.cell? ⟨w.heap.size,5,none⟩=some (.slice (some ⟨D,0,none⟩) 1 1):=cW0 W2 _ 5 _ _ _ hT2
 have c6:W2.cell? ⟨w.heap.size,6,none⟩=some (.slice none 0 0):=cW0 W2 _ 6 _ _ _ hT2
 have c7:W2.cell? ⟨w.heap.size,7,none⟩=some (.slice none 0 0):=cW0 W2 _ 7 _ _ _ hT2
 have c8:W2.cell? ⟨w.heap.size,8,none⟩=some (.slice none 0 0):=cW0 W2 _ 8 _ _ _ hT2
 have c9:W2.cell? ⟨w.heap.size,9,none⟩=some (.slice none 0 0):=cW0 W2 _ 9 _ _ _ hT2
 clear hb2 hA2 hb3 hN3 hb13 hT1 hT2 hwB hs3
 go_upto_region 5 with (fail)
 rw [←hW2,←hBe]
 clear hW2 hBe
 go_wp2_with fail
 rw [←hW3]
 clear hW3 hs2 c0 c1 c2 c3 c4 c5 c6 c7 c8 c9
 go_loopw [25] (fun i wr=>∃k:Nat,i=.int .i64 (k:Int)∧k≤4∧Hid (BufAt wr B B (([2,10,10,2]:List UInt8).take k))∧Hid (Below B W3 wr)∧Hid (KeepO B W3 wr)) (fun i _=>4-(intOf i).toNat)
 case atStart=>exact ⟨0,rfl,by omega,HA3,hI0 (Below.refl _ _),hI0 (KeepO.refl _ _)⟩
 obtain ⟨k,rfl,hk,HA,HB,HK⟩:=hrel
 obtain ⟨wo,rfl⟩:∃wo:World,wo=wr:=⟨_,rfl⟩
 have hNo:=(HK.out.2 (B+1) (by have:=HS3.out;omega) (by omega) (by intro cur;rw [HN3.out];simp)).trans HN3.out
 obtain rfl|rfl|rfl|rfl|rfl:k=0∨k=1∨k=2∨k=3∨k=4:=by omega
 ·have g:wo.cell? ⟨B+1,0,none⟩=some (.int .i64 1):=cW0 wo _ 0 _ _ _ hNo
  have KI:=bufInt_any B B _ 1 wo (Nat.le_refl _) HA.out (by omega) (by omega) (by decide)
  clear hNo
  go_wp2_with fail
  (with_reducible refine KI.mono ?_)
  rintro _ w2 ⟨rfl,hA2,hb2,hk2⟩
  have HA2:Hid (BufAt w2 B B (([2,10,10,2]:List UInt8).take 1)):=hI0 hA2
  have HB2:Hid (Below B W3 w2):=hI0 (HB.out.trans hb2)
  have HK2:Hid (KeepO B W3 w2):=hI0 (HK.out.trans hk2)
  clear hA2 hb2 hk2 KI g
  go_wp2_with fail
  go_roundw
  case rel=>exact ⟨1,by go_num,by omega,HA2,HB2,HK2⟩
  case measure=>simp [intOf]
 ·have g:wo.cell? ⟨B+1,1,none⟩=some (.int .i64 5):=cW0 wo _ 1 _ _ _ hNo
  have KI:=bufInt_any B B _ 5 wo (Nat.le_refl _) HA.out (by omega) (by omega) (by decide)
  clear hNo
  go_wp2_with fail
  (with_reducible refine KI.mono ?_)
  rintro _ w2 ⟨rfl,hA2,hb2,hk2⟩
  have HA2:Hid (BufAt w2 B B (([2,10,10,2]:List UInt8).take 2)):=hI0 hA2
  have HB2:Hid (Below B W3 w2):=hI0 (HB.out.trans hb2)
  have HK2:Hid (KeepO B W3 w2):=hI0 (HK.out.trans hk2)
  clear hA2 hb2 hk2 KI g
  go_wp2_with fail
  go_roundw
  case rel=>exact ⟨2,by go_num,by omega,HA2,HB2,HK2⟩
  case measure=>simp [intOf]
 ·have g:wo.cell? ⟨B+1,2,none⟩=some (.int .i64 5):=cW0 wo _ 2 _ _ _ hNo
  have KI:=bufInt_any B B _ 5 wo (Nat.le_refl _) HA.out (by omega) (by omega) (by decide)
  clear hNo
  go_wp2_with fail
  (with_reducible refine KI.mono ?_)
  rintro _ w2 ⟨rfl,hA2,hb2,hk2⟩
  have HA2:Hid (BufAt w2 B B (([2,10,10,2]:List UInt8).take 3)):=hI0 hA2
  have HB2:Hid (Below B W3 w2):=hI0 (HB.out.trans hb2)
  have HK2:Hid (KeepO B W3 w2):=hI0 (HK.out.trans hk2)
  clear hA2 hb2 hk2 KI g
  go_wp2_with fail
  go_roundw
  case rel=>exact ⟨3,by go_num,by omega,HA2,HB2,HK2⟩
  case measure=>simp [intOf]
 ·have g:wo.cell? ⟨B+1,3,none⟩=some (.int .i64 1):=cW0 wo _ 3 _ _ _ hNo
  have KI:=bufInt_any B B _ 1 wo (Nat.le_refl _) HA.out (by omega) (by omega) (by decide)
  clear hNo
  go_wp2_with fail
  (with_reducible refine KI.mono ?_)
  rintro _ w2 ⟨rfl,hA2,hb2,hk2⟩
  have HA2:Hid (BufAt w2 B B (([2,10,10,2]:List UInt8).take 4)):=hI0 hA2
  have HB2:Hid (Below B W3 w2):=hI0 (HB.out.trans hb2)
  have HK2:Hid (KeepO B W3 w2):=hI0 (HK.out.trans hk2)
  clear hA2 hb2 hk2 KI g
  go_wp2_with fail
  go_roundw
  case rel=>exact ⟨4,by go_num,by omega,HA2,HB2,HK2⟩
  case measure=>simp [intOf]
 ·clear hNo
  have HA0:Hid (BufAt wo B B [2,10,10,2]):=HA
  clear HA
  have KP:=put0Entry B B [2,10,10,2] wo (Nat.le_refl _) HA0.out (by decide)
  have hTc:=(HB.out.block w.heap.size HWB.out).trans HT3.out
  have c4:wo.cell? ⟨w.heap.size,4,none⟩=some (.slice none 0 0):=cW0 wo _ 4 _ _ _ hTc
  clear hTc
  go_wp2_with fail
  (with_reducible refine KP.mono ?_)
  rintro _ y1 ⟨rfl,hA2,hb2,hk2⟩
  have HA1:Hid (BufAt y1 B B [2,10,10,2,0]):=hI0 hA2
  have HBq1:Hid (Below B W3 y1):=hI0 (HB.out.trans hb2)
  clear hA2 hb2 hk2 KP c4
  have hbx:Below B W3 y1:=HBq1.out
  have hw3:Below w.heap.size w y1:=HB3.out.trans (hbx.mono (by have:=HWB.out;omega))
  have KP:=put1Delta B B D [2,10,10,2,0] ⟨#[116]⟩ O (some ⟨R,0,none⟩) 1 1 0 3 xs7v y1 (Nat.le_refl _) HA1.out ((hw3.block D HF.out.1).trans HF.out.2.2.1) (by have:=HF.out.1;have:=HWB.out;omega) ((Rd.keep HF.out.2.2.2.2 (Keeps.below hw3)).wide (fun b (hb:b<w.heap.size)=>by show b<B;have:=HWB.out;omega)) xs7v_put.1 (by have:=xs7v_put.2;omega) (by omega) (by omega) (by omega) (by omega) ((hw3.block O HF.out.2.1).trans HF.out.2.2.2.1) (by have:=HF.out.2.1;have:=HWB.out;omega) (by decide) (by decide)
  clear hbx hw3
  have hTc:=(HBq1.out.block w.heap.size HWB.out).trans HT3.out
  have c5:y1.cell? ⟨w.heap.size,5,none⟩=some (.slice (some ⟨D,0,none⟩) 1 1):=cW0 y1 _ 5 _ _ _ hTc
  clear hTc
  go_wp2_with fail
  (with_reducible refine KP.mono ?_)
  rintro _ y2 ⟨rfl,hA2,hb2,hk2⟩
  have HA2:Hid (BufAt y2 B B [2,10,10,2,0,2,2,116,0,2,2,1,14,0,6]):=hI0 hA2
  have HB2:Hid (Below B W3 y2):=hI0 (HBq1.out.trans hb2)
  clear hA2 hb2 hk2 KP c5
  have KP:=put0Hold B B [2,10,10,2,0,2,2,116,0,2,2,1,14,0,6] y2 (Nat.le_refl _) HA2.out (by decide)
  have hTc:=(HB2.out.block w.heap.size HWB.out).trans HT3.out
  have c6:y2.cell? ⟨w.heap.size,6,none⟩=some (.slice none 0 0):=cW0 y2 _ 6 _ _ _ hTc
  clear hTc
  go_wp2_with fail
  (with_reducible refine KP.mono ?_)
  rintro _ y3 ⟨rfl,hA2,hb2,hk2⟩
  have HA3:Hid (BufAt y3 B B [2,10,10,2,0,2,2,116,0,2,2,1,14,0,6,0]):=hI0 hA2
  have HBq3:Hid (Below B W3 y3):=hI0 (HB2.out.trans hb2)
  clear hA2 hb2 hk2 KP c6
  have KP:=put0Str B B [2,10,10,2,0,2,2,116,0,2,2,1,14,0,6,0] y3 (Nat.le_refl _) HA3.out (by decide)
  have hTc:=(HBq3.out.block w.heap.size HWB.out).trans HT3.out
  have c7:y3.cell? ⟨w.heap.size,7,none⟩=some (.slice none 0 0):=cW0 y3 _ 7 _ _ _ hTc
  clear hTc
  go_wp2_with fail
  (with_reducible refine KP.mono ?_)
  rintro _ y4 ⟨rfl,hA2,hb2,hk2⟩
  have HA4:Hid (BufAt y4 B B [2,10,10,2,0,2,2,116,0,2,2,1,14,0,6,0,0]):=hI0 hA2
  have HB4:Hid (Below B W3 y4):=hI0 (HBq3.out.trans hb2)
  clear hA2 hb2 hk2 KP c7
  have KP:=put0Policy B B [2,10,10,2,0,2,2,116,0,2,2,1,14,0,6,0,0] y4 (Nat.le_refl _) HA4.out (by decide)
  have hTc:=(HB4.out.block w.heap.size HWB.out).trans HT3.out
  have c8:y4.cell? ⟨w.heap.size,8,none⟩=some (.slice none 0 0):=cW0 y4 _ 8 _ _ _ hTc
  clear hTc
  go_wp2_with fail
  (with_reducible refine KP.mono ?_)
  rintro _ y5 ⟨rfl,hA2,hb2,hk2⟩
  have HA5:Hid (BufAt y5 B B [2,10,10,2,0,2,2,116,0,2,2,1,14,0,6,0,0,0]):=hI0 hA2
  have HB5:Hid (Below B W3 y5):=hI0 (HB4.out.trans hb2)
  clear hA2 hb2 hk2 KP c8
  have KP:=put0Horizon B B [2,10,10,2,0,2,2,116,0,2,2,1,14,0,6,0,0,0] y5 (Nat.le_refl _) HA5.out (by decide)
  have hTc:=(HB5.out.block w.heap.size HWB.out).trans HT3.out
  have c9:y5.cell? ⟨w.heap.size,9,none⟩=some (.slice none 0 0):=cW0 y5 _ 9 _ _ _ hTc
  clear hTc
  go_wp2_with fail
  (with_reducible refine KP.mono ?_)
  rintro _ y6 ⟨rfl,hA2,hb2,hk2⟩
  have HA6:Hid (BufAt y6 B B [2,10,10,2,0,2,2,116,0,2,2,1,14,0,6,0,0,0,0]):=hI0 hA2
  have HB6:Hid (Below B W3 y6):=hI0 (HB5.out.trans hb2)
  clear hA2 hb2 hk2 KP c9
  obtain ⟨v,hB,hO⟩:=HA6.out
  obtain ⟨Av,cv,rfl,x1,x2,x3⟩:=Rd.open_ (Rd.of_own hO)
  have q0:y6.cell? ⟨B,0,none⟩=some (.slice Av 19 cv):=cW0 y6 _ 0 _ _ _ hB
  have HO:=hI0 ((Rd.of_own hO).wide (fun b hb=>(⟨by have:=hb.1;have:=HWB.out;omega,hb.2⟩:w.heap.size≤b∧b<y6.heap.size)))
  have HBF:Hid (Below w.heap.size w y6):=hI0 (HB3.out.trans (HB6.out.mono (by have:=HWB.out;omega)))
  clear hB hO x1 x2 x3
  go_wp2_with fail
  go_ret2
  exact ⟨_,rfl,HO.out,HBF.out⟩
end
end Go.Proofs.YtbfdegkickjbpaaGreat
