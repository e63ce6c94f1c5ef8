/-
 Rw1
-/
import Derived.Test.YtgfhknnklapldaaGreatDoorBRwA
import Derived.Test.YtgfhknnklapldaaGreatDoorBWk1
namespace Go.Proofs.YtgfhknnklapldaaGreatDoor
open Go.Proofs.Tryz
set_option maxRecDepth 99999
set_option maxHeartbeats 0
open Go.RowKit Go.Lib Go.IntWalk Go.Sort Go.Shelf
theorem zq2 {P:Prop} (i:Nat) (h:Tg i→P:=by
 intro zT2
 have hBl:=h.lt
 have hw0:base≤w.heap.size:=by omega
 have HLn:=hI0 hl
 clear hl
 first
  |guard_hyp zT2:Tg 1;obtain ⟨W,hW⟩:=eN0 (w.alloc (.cells #[.string S,.slice A ps.length C] 37))
  |obtain ⟨W,hW⟩:=eN0 (w.alloc (.cells #[.string nm,.slice colA cols.length colC,.slice keyA key.length keyC,.slice forA fors.length forC,.slice chkA chks.length chkC] 73))
 have hbW:=bN0 hW
 have hWs:=sN0 hW
 have hWh:=hN0 hW
 have HW:=hI0 hW
 clear hW
 first
  |guard_hyp zT2:Tg 1;have HP:=hI0 hp
   have HVL:=hI0 hval
   have HTX:=hI0 (txt_le hS)
   clear hp hval
  |have HC:=hI0 hc
   have HCS:=hI0 hcS
   have HK:=hI0 hk
   have HKS:=hI0 hkS
   have HF:=hI0 hf
   have HFS:=hI0 hfS
   have HX:=hI0 hx
   have HXS:=hI0 hxS
   clear hc hcS hk hkS hf hfS hx hxS
 go_in
 go_wp2_with fail
 rw [←HW.out]
 have hA0:BufAt W base B l:=h.below hbW
 have hB0:Below base w W:=hbW.mono hw0
 have hK0:KeepO B w W:=KeepO.of_below hbW
 clear h hbW
 first
  |guard_hyp zT2:Tg 1;refine rR0 [.string S,.slice A ps.length C] w.heap.size ?_ (fun zh=>?_)
  |refine rR0 [.string nm,.slice colA cols.length colC,.slice keyA key.length keyC,.slice forA fors.length forC,.slice chkA chks.length chkC] w.heap.size ?_ (fun zh=>?_)
 ·exact zq33
 refine hT 0 4 ?_
 refine hT 1 5 ?_
 refine hT 2 6 ?_
 refine hT 3 7 ?_
 refine hU 4 8 (v:=?_) zh ?_ ?_
 rotate_left
 ·intro w' hSw;(try dsimp only at hSw);have q0:=hSw 0 _ rfl;go_simp<;>with_reducible rfl
 refine hC 5 9 ?_
 first
  |guard_hyp zT2:Tg 1;(with_reducible refine (bufText_any base B (l) S _ hbB hA0.drew hS zi0).mono ?_)
  |(with_reducible refine (bufText_any base B (l) nm _ hbB hA0.drew hnm zi0).mono ?_)
 rintro _ w1 ⟨rfl,hA1,hb',hk'⟩
 have hB1:Below base w w1:=hB0.trans (Below.undrew hb')
 have hK1:KeepO B w w1:=hK0.trans hk'
 have hWh':=(hk'.2 w.heap.size (by have:W.drew.heap.size=W.heap.size:=rfl;have:=hWs;first|omega|(have:=hsz0;omega)) (by omega) zi1).trans (show W.drew.heap[w.heap.size]? =_ from hWh)
 have hsz1:w.heap.size+1≤w1.heap.size:=by have:=hk'.1;have:W.drew.heap.size=W.heap.size:=rfl;first|omega|(have:=hsz0;omega)
 clear hWh hb' hk'
 have hWh:=hWh'
 clear hWh'
 refine ⟨_,rfl,keepAnd (fun j u hj=>(cW0 _ w.heap.size j _ _ _ hWh).trans (by simpa using hj)) ?_⟩
 clear zh
 intro zh
 simp only [aP]
 refine rD0 ?_
 clear zh
 clear hA0 hB0 hK0
 have q1:=cW1 1 hWh rfl
 go_wp2_with fail
 first
  |guard_hyp zT2:Tg 1;(with_reducible refine (put_any' base B (l++(encI S.size++S.data.toList)) _ ps _ hbB hA1 (HP.out.keep (Keeps.below hB1)) HVL.out hn (by have:=HLn.out;have:=HTX.out;simp only [List.length_append] at *;omega)).mono ?_)
  |(with_reducible refine (putCol base B (l++(encI nm.size++nm.data.toList)) colA colC cols encCol _ hbB hA1 (HC.out.keep (Keeps.below hB1)) (fun x hx V m hA hB hK hlm=>wCol_x base B m x V hbB hA (HCS.out x hx) hlm) zi0).mono ?_)
 rintro _ w2 ⟨rfl,hA2,hb',hk'⟩
 have hB2:Below base w w2:=hB1.trans hb'
 have hK2:KeepO B w w2:=hK1.trans hk'
 have hWh':=(hk'.2 w.heap.size (by have:w1.drew.heap.size=w1.heap.size:=rfl;have:=hWs;first|omega|(have:=hsz1;omega)) (by omega) (by intro cur;rw [show w1.heap[w.heap.size]? =_ from hWh];simp)).trans (show w1.heap[w.heap.size]? =_ from hWh)
 have hsz2:w.heap.size+1≤w2.heap.size:=by have:=hk'.1;have:w1.drew.heap.size=w1.heap.size:=rfl;first|omega|(have:=hsz1;omega)
 clear hWh hb' hk'
 have hWh:=hWh'
 clear hWh'
 clear q1
 clear hA1 hB1 hK1
 first
  |done
  |guard_hyp zT2:Tg 1
  |have q2:=cW1 2 hWh rfl
   go_wp2_with fail
   (with_reducible refine (putNum base B (l++(encI nm.size++nm.data.toList)++(encI cols.length++cols.flatMap encCol)) keyA keyC key encI _ hbB hA2 (HK.out.keep (Keeps.below hB2)) (fun n hn V m hA hB hK hlm=>wNum_any base B m n V hbB hA (HKS.out n hn).1 (HKS.out n hn).2 (by rw [List.length_append] at hlm;omega)) zi0).mono ?_)
   rintro _ w3 ⟨rfl,hA3,hb',hk'⟩
   have hB3:Below base w w3:=hB2.trans hb'
   have hK3:KeepO B w w3:=hK2.trans hk'
   have hWh':=(hk'.2 w.heap.size (by have:w2.drew.heap.size=w2.heap.size:=rfl;have:=hWs;first|omega|(have:=hsz2;omega)) (by omega) (by intro cur;rw [show w2.heap[w.heap.size]? =_ from hWh];simp)).trans (show w2.heap[w.heap.size]? =_ from hWh)
   have hsz3:w.heap.size+1≤w3.heap.size:=by have:=hk'.1;have:w2.drew.heap.size=w2.heap.size:=rfl;first|omega|(have:=hsz2;omega)
   clear hWh hb' hk'
   have hWh:=hWh'
   clear hWh'
   clear q2
   clear hA2 hB2 hK2
   have q3:=cW1 3 hWh rfl
   go_wp2_with fail
   (with_reducible refine (putFor base B (l++(encI nm.size++nm.data.toList)++(encI cols.length++cols.flatMap encCol)++(encI key.length++key.flatMap encI)) forA forC fors encFor _ hbB hA3 (HF.out.keep (Keeps.below hB3)) (fun x hx V m hA hB hK hlm=>wFor_x base B m x V hbB hA ((HFS.out x hx).keep (hB3.trans hB)) hlm) zi0).mono ?_)
   rintro _ w4 ⟨rfl,hA4,hb',hk'⟩
   have hB4:Below base w w4:=hB3.trans hb'
   have hK4:KeepO B w w4:=hK3.trans hk'
   have hWh':=(hk'.2 w.heap.size (by have:w3.drew.heap.size=w3.heap.size:=rfl;have:=hWs;first|omega|(have:=hsz3;omega)) (by omega) (by intro cur;rw [show w3.heap[w.heap.size]? =_ from hWh];simp)).trans (show w3.heap[w.heap.size]? =_ from hWh)
   have hsz4:w.heap.size+1≤w4.heap.size:=by have:=hk'.1;have:w3.drew.heap.size=w3.heap.size:=rfl;first|omega|(have:=hsz3;omega)
   clear hWh hb' hk'
   have hWh:=hWh'
   clear hWh'
   clear q3
   clear hA3 hB3 hK3
   have q4:=cW1 4 hWh rfl
   go_wp2_with fail
   (with_reducible refine (putExp base B (l++(encI nm.size++nm.data.toList)++(encI cols.length++cols.flatMap encCol)++(encI key.length++key.flatMap encI)++(encI fors.length++fors.flatMap encFor)) chkA chkC chks encX _ hbB hA4 (HX.out.keep (Keeps.below hB4)) (fun x hx V m hA hB hK hlm=>wExp_any 24 x base B m V hbB hA (HXS.out x hx).2 (exIs_keep (Keeps.below (hB4.trans hB)) 24 x (HXS.out x hx).1) hlm) zi0).mono ?_)
   rintro _ w5 ⟨rfl,hA5,hb',hk'⟩
   have hB5:Below base w w5:=hB4.trans hb'
   have hK5:KeepO B w w5:=hK4.trans hk'
   have hWh':=(hk'.2 w.heap.size (by have:w4.drew.heap.size=w4.heap.size:=rfl;have:=hWs;first|omega|(have:=hsz4;omega)) (by omega) (by intro cur;rw [show w4.heap[w.heap.size]? =_ from hWh];simp)).trans (show w4.heap[w.heap.size]? =_ from hWh)
   have hsz5:w.heap.size+1≤w5.heap.size:=by have:=hk'.1;have:w4.drew.heap.size=w4.heap.size:=rfl;first|omega|(have:=hsz4;omega)
   clear hWh hb' hk'
   have hWh:=hWh'
   clear hWh'
   clear q4
   clear hA4 hB4 hK4
 go_wp2_with fail
 go_end0
 first
  |guard_hyp zT2:Tg 1;refine ⟨rfl,?_,hB2,hK2⟩
   have e:l++((encI S.size++S.data.toList)++(encVsB (ps.map (·.2))))=l++(encI S.size++S.data.toList)++encVsB (ps.map (·.2)):=by simp only [List.append_assoc]
  |refine ⟨rfl,?_,hB5,hK5⟩
   have e:l++((encI nm.size++nm.data.toList)++((encI cols.length++cols.flatMap encCol)++((encI key.length++key.flatMap encI)++((encI fors.length++fors.flatMap encFor)++((encI chks.length++chks.flatMap encX))))))=l++(encI nm.size++nm.data.toList)++(encI cols.length++cols.flatMap encCol)++(encI key.length++key.flatMap encI)++(encI fors.length++fors.flatMap encFor)++(encI chks.length++chks.flatMap encX):=by simp only [List.append_assoc]
 rw [e]
 first
  |guard_hyp zT2:Tg 1;exact hA2
  |exact hA5) : P := h ⟨⟩
theorem zq3 {P:Prop} (i:Nat) (h:Tg i→P:=by
 intro zT3
 have hBl:=h.lt
 have hw0:base≤w.heap.size:=by omega
 have HLn:=hI0 hl
 clear hl
 first
  |guard_hyp zT3:Tg 5;obtain ⟨W,hW⟩:=eN0 (w.alloc (.cells #[.slice fA fl.length fc,.string S] 158))
  |guard_hyp zT3:Tg 4;obtain ⟨W,hW⟩:=eN0 (w.alloc (.cells #[.int .i64 a,.int .i64 b] 82))
  |guard_hyp zT3:Tg 3;obtain ⟨W,hW⟩:=eN0 (w.alloc (.cells #[.string S,.int .i64 n] 90))
  |guard_hyp zT3:Tg 2;obtain ⟨W,hW⟩:=eN0 (w.alloc (.cells #[.string S,.int .i64 n] 93))
  |guard_hyp zT3:Tg 1;obtain ⟨W,hW⟩:=eN0 (w.alloc (.cells #[.string S,.int .i64 n,.bool b] 75))
  |obtain ⟨W,hW⟩:=eN0 (w.alloc (.cells #[.string S,.string Q,.int .i64 a,.int .i64 b,.int .i64 c,.int .i64 d] 87))
 have hbW:=bN0 hW
 have hWs:=sN0 hW
 have hWh:=hN0 hW
 have HW:=hI0 hW
 clear hW
 first
  |done
  |guard_hyp zT3:Tg 5;have HF:=hI0 hf
   have HFL:=hI0 hfl
   clear hf hfl
  |skip
 go_in
 go_wp2_with fail
 rw [←HW.out]
 have hA0:BufAt W base B l:=h.below hbW
 have hB0:Below base w W:=hbW.mono hw0
 have hK0:KeepO B w W:=KeepO.of_below hbW
 clear h hbW
 first
  |guard_hyp zT3:Tg 5;have q0:=cW1 0 hWh rfl
   go_wp2_with fail
   (with_reducible refine (putNum base B (l) fA fc fl encI _ hbB hA0 (HF.out.keep (Keeps.below hB0)) (fun n hn V m hA hB hK hlm=>wNum_any base B m n V hbB hA (HFL.out n hn).1 (HFL.out n hn).2 (by rw [List.length_append] at hlm;omega)) zi0).mono ?_)
  |first
    |guard_hyp zT3:Tg 4;refine rR0 [.int .i64 a,.int .i64 b] w.heap.size ?_ (fun zh=>?_)
    |guard_hyp zT3:Tg 1;refine rR0 [.string S,.int .i64 n,.bool b] w.heap.size ?_ (fun zh=>?_)
    |guard_hyp zT3:Tg 0;refine rR0 [.string S,.string Q,.int .i64 a,.int .i64 b,.int .i64 c,.int .i64 d] w.heap.size ?_ (fun zh=>?_)
    |refine rR0 [.string S,.int .i64 n] w.heap.size ?_ (fun zh=>?_)
   ·exact zq33
   refine hT 0 4 ?_
   refine hT 1 5 ?_
   refine hT 2 6 ?_
   refine hT 3 7 ?_
   refine hU 4 8 (v:=?_) zh ?_ ?_
   rotate_left
   ·intro w' hSw;(try dsimp only at hSw);have q0:=hSw 0 _ rfl;go_simp<;>with_reducible rfl
   refine hC 5 9 ?_
   first
    |guard_hyp zT3:Tg 4;(with_reducible refine (bufInt_any base B (l) a _ hbB hA0.drew ha1 ha2 zi0).mono ?_)
    |(with_reducible refine (bufText_any base B (l) S _ hbB hA0.drew hS zi0).mono ?_)
 rintro _ w1 ⟨rfl,hA1,hb',hk'⟩
 first
  |guard_hyp zT3:Tg 5;have hB1:Below base w w1:=hB0.trans hb'
  |have hB1:Below base w w1:=hB0.trans (Below.undrew hb')
 have hK1:KeepO B w w1:=hK0.trans hk'
 first
  |guard_hyp zT3:Tg 5;have hWh':=(hk'.2 w.heap.size (by have:W.drew.heap.size=W.heap.size:=rfl;have:=hWs;first|omega|(have:=hsz0;omega)) (by omega) (by intro cur;rw [show W.heap[w.heap.size]? =_ from hWh];simp)).trans (show W.heap[w.heap.size]? =_ from hWh)
  |have hWh':=(hk'.2 w.heap.size (by have:W.drew.heap.size=W.heap.size:=rfl;have:=hWs;first|omega|(have:=hsz0;omega)) (by omega) zi1).trans (show W.drew.heap[w.heap.size]? =_ from hWh)
 have hsz1:w.heap.size+1≤w1.heap.size:=by have:=hk'.1;have:W.drew.heap.size=W.heap.size:=rfl;first|omega|(have:=hsz0;omega)
 clear hWh hb' hk'
 have hWh:=hWh'
 clear hWh'
 first
  |guard_hyp zT3:Tg 5;clear q0
  |refine ⟨_,rfl,keepAnd (fun j u hj=>(cW0 _ w.heap.size j _ _ _ hWh).trans (by simpa using hj)) ?_⟩
   clear zh
   intro zh
   simp only [aP]
   refine rD0 ?_
   clear zh
 clear hA0 hB0 hK0
 go_wp2_with fail
 first
  |guard_hyp zT3:Tg 5;refine rR0 [.slice fA fl.length fc,.string S] w.heap.size ?_ (fun zh=>?_)
  |guard_hyp zT3:Tg 4;refine rR0 [.int .i64 a,.int .i64 b] w.heap.size ?_ (fun zh=>?_)
  |guard_hyp zT3:Tg 1;refine rR0 [.string S,.int .i64 n,.bool b] w.heap.size ?_ (fun zh=>?_)
  |guard_hyp zT3:Tg 0;refine rR0 [.string S,.string Q,.int .i64 a,.int .i64 b,.int .i64 c,.int .i64 d] w.heap.size ?_ (fun zh=>?_)
  |refine rR0 [.string S,.int .i64 n] w.heap.size ?_ (fun zh=>?_)
 ·exact zq33
 first
  |guard_hyp zT3:Tg 5;refine hT 0 8 ?_
   refine hT 1 9 ?_
   refine hT 2 10 ?_
   refine hT 3 11 ?_
   refine hU 4 12 (v:=?_) zh ?_ ?_
  |refine hT 0 10 ?_
   refine hT 1 11 ?_
   refine hT 2 12 ?_
   refine hT 3 13 ?_
   refine hU 4 14 (v:=?_) zh ?_ ?_
 rotate_left
 ·intro w' hSw;(try dsimp only at hSw);have q1:=hSw 1 _ rfl;go_simp<;>with_reducible rfl
 first
  |guard_hyp zT3:Tg 5;refine hC 5 13 ?_
   (with_reducible refine (bufText_any base B (l++(encI fl.length++fl.flatMap encI)) S _ hbB hA1.drew hS zi0).mono ?_)
  |refine hC 5 15 ?_
   first
    |guard_hyp zT3:Tg 4;(with_reducible refine (bufInt_any base B (l++encI a) b _ hbB hA1.drew hb1 hb2 zi0).mono ?_)
    |guard_hyp zT3:Tg 0;(with_reducible refine (bufText_any base B (l++(encI S.size++S.data.toList)) Q _ hbB hA1.drew hQ zi0).mono ?_)
    |(with_reducible refine (bufInt_any base B (l++(encI S.size++S.data.toList)) n _ hbB hA1.drew hn1 hn2 zi0).mono ?_)
 rintro _ w2 ⟨rfl,hA2,hb',hk'⟩
 have hB2:Below base w w2:=hB1.trans (Below.undrew hb')
 have hK2:KeepO B w w2:=hK1.trans hk'
 have hWh':=(hk'.2 w.heap.size (by have:w1.drew.heap.size=w1.heap.size:=rfl;have:=hWs;first|omega|(have:=hsz1;omega)) (by omega) zi2).trans (show w1.drew.heap[w.heap.size]? =_ from hWh)
 have hsz2:w.heap.size+1≤w2.heap.size:=by have:=hk'.1;have:w1.drew.heap.size=w1.heap.size:=rfl;first|omega|(have:=hsz1;omega)
 clear hWh hb' hk'
 have hWh:=hWh'
 clear hWh'
 refine ⟨_,rfl,keepAnd (fun j u hj=>(cW0 _ w.heap.size j _ _ _ hWh).trans (by simpa using hj)) ?_⟩
 clear zh
 intro zh
 simp only [aP]
 refine rD0 ?_
 clear zh
 clear hA1 hB1 hK1
 go_wp2_with fail
 first
  |done
  |first|guard_hyp zT3:Tg 0|guard_hyp zT3:Tg 1
   first
    |guard_hyp zT3:Tg 1;refine rR0 [.string S,.int .i64 n,.bool b] w.heap.size ?_ (fun zh=>?_)
    |refine rR0 [.string S,.string Q,.int .i64 a,.int .i64 b,.int .i64 c,.int .i64 d] w.heap.size ?_ (fun zh=>?_)
   ·exact zq33
   refine hT 0 16 ?_
   refine hT 1 17 ?_
   refine hT 2 18 ?_
   refine hT 3 19 ?_
   first
    |guard_hyp zT3:Tg 1;refine hU 4 20 (v:=?_) zh ?_ ?_
    |refine hT 4 20 ?_
     refine hU 5 21 (v:=?_) zh ?_ ?_
   rotate_left
   ·first
     |guard_hyp zT3:Tg 1;intro w' hSw;(try dsimp only at hSw);have q2:=hSw 2 _ rfl;go_simp<;>with_reducible rfl
     |intro w' hSw;(try dsimp only at hSw);have q2:=hSw 2 _ rfl;have q3:=hSw 3 _ rfl;go_simp<;>with_reducible rfl
   first
    |guard_hyp zT3:Tg 1;refine hC 5 21 ?_
     (with_reducible refine (bufBool_any base B (l++(encI S.size++S.data.toList)++encI n) b _ hbB hA2.drew zi0).mono ?_)
    |refine hC 6 22 ?_
     (with_reducible refine (bufPeriod_any base B (l++(encI S.size++S.data.toList)++(encI Q.size++Q.data.toList)) a b _ hbB hA2.drew ha1 ha2 hb1 hb2 zi0).mono ?_)
   rintro _ w3 ⟨rfl,hA3,hb',hk'⟩
   have hB3:Below base w w3:=hB2.trans (Below.undrew hb')
   have hK3:KeepO B w w3:=hK2.trans hk'
   have hWh':=(hk'.2 w.heap.size (by have:w2.drew.heap.size=w2.heap.size:=rfl;have:=hWs;first|omega|(have:=hsz2;omega)) (by omega) zi6).trans (show w2.drew.heap[w.heap.size]? =_ from hWh)
   have hsz3:w.heap.size+1≤w3.heap.size:=by have:=hk'.1;have:w2.drew.heap.size=w2.heap.size:=rfl;first|omega|(have:=hsz2;omega)
   clear hWh hb' hk'
   have hWh:=hWh'
   clear hWh'
   refine ⟨_,rfl,keepAnd (fun j u hj=>(cW0 _ w.heap.size j _ _ _ hWh).trans (by simpa using hj)) ?_⟩
   clear zh
   intro zh
   simp only [aP]
   refine rD0 ?_
   clear zh
   clear hA2 hB2 hK2
   go_wp2_with fail
   first
    |done
    |guard_hyp zT3:Tg 1
    |refine rR0 [.string S,.string Q,.int .i64 a,.int .i64 b,.int .i64 c,.int .i64 d] w.heap.size ?_ (fun zh=>?_)
     ·exact zq33
     refine hT 0 23 ?_
     refine hT 1 24 ?_
     refine hT 2 25 ?_
     refine hT 3 26 ?_
     refine hT 4 27 ?_
     refine hU 5 28 (v:=?_) zh ?_ ?_
     rotate_left
     ·intro w' hSw;(try dsimp only at hSw);have q4:=hSw 4 _ rfl;have q5:=hSw 5 _ rfl;go_simp<;>with_reducible rfl
     refine hC 6 29 ?_
     (with_reducible refine (bufPeriod_any base B (l++(encI S.size++S.data.toList)++(encI Q.size++Q.data.toList)++(encI a++encI b)) c d _ hbB hA3.drew hc1 hc2 hd1 hd2 zi0).mono ?_)
     rintro _ w4 ⟨rfl,hA4,hb',hk'⟩
     have hB4:Below base w w4:=hB3.trans (Below.undrew hb')
     have hK4:KeepO B w w4:=hK3.trans hk'
     have hWh':=(hk'.2 w.heap.size (by have:w3.drew.heap.size=w3.heap.size:=rfl;have:=hWs;first|omega|(have:=hsz3;omega)) (by omega) zi7).trans (show w3.drew.heap[w.heap.size]? =_ from hWh)
     have hsz4:w.heap.size+1≤w4.heap.size:=by have:=hk'.1;have:w3.drew.heap.size=w3.heap.size:=rfl;first|omega|(have:=hsz3;omega)
     clear hWh hb' hk'
     have hWh:=hWh'
     clear hWh'
     refine ⟨_,rfl,keepAnd (fun j u hj=>(cW0 _ w.heap.size j _ _ _ hWh).trans (by simpa using hj)) ?_⟩
     clear zh
     intro zh
     simp only [aP]
     refine rD0 ?_
     clear zh
     clear hA3 hB3 hK3
     go_wp2_with fail
  |skip
 go_end0
 first
  |guard_hyp zT3:Tg 5;refine ⟨rfl,?_,hB2,hK2⟩
   have e:l++((encI fl.length++fl.flatMap encI)++((encI S.size++S.data.toList)))=l++(encI fl.length++fl.flatMap encI)++(encI S.size++S.data.toList):=by simp only [List.append_assoc]
  |guard_hyp zT3:Tg 4;refine ⟨rfl,?_,hB2,hK2⟩
   have e:l++(encI a++(encI b))=l++encI a++encI b:=by simp only [List.append_assoc]
  |guard_hyp zT3:Tg 1;refine ⟨rfl,?_,hB3,hK3⟩
   have e:l++((encI S.size++S.data.toList)++(encI n++(flagE b)))=l++(encI S.size++S.data.toList)++encI n++flagE b:=by simp only [List.append_assoc]
  |guard_hyp zT3:Tg 0;refine ⟨rfl,?_,hB4,hK4⟩
   have e:l++((encI S.size++S.data.toList)++((encI Q.size++Q.data.toList)++((encI a++encI b)++((encI c++encI d)))))=l++(encI S.size++S.data.toList)++(encI Q.size++Q.data.toList)++(encI a++encI b)++(encI c++encI d):=by simp only [List.append_assoc]
  |refine ⟨rfl,?_,hB2,hK2⟩
   have e:l++((encI S.size++S.data.toList)++(encI n))=l++(encI S.size++S.data.toList)++encI n:=by simp only [List.append_assoc]
 rw [e]
 first
  |guard_hyp zT3:Tg 1;exact hA3
  |guard_hyp zT3:Tg 0;exact hA4
  |exact hA2) : P := h ⟨⟩
theorem bufValue_any (base B:Nat) (l:List UInt8) (vk vi:Int) (vs:ByteArray) (w:World) (hbB:base≤B) (h:BufAt w base B l) (i1: -9223372036854775808≤vi) (i2:vi≤9223372036854775807) (hs:vs.size≤3000) (he:(encV ⟨vk,vi,vs⟩).length≤4000) (hl:l.length+4000≤140737488300000):
  Calls prog 114 #[.pointer (some ⟨B,0,none⟩),.agg #[.int .i64 vk,.int .i64 vi,.string vs]] w (BufOut base B (l++(encV ⟨vk,vi,vs⟩)) w):=by
 have hBl:=h.lt
 obtain ⟨v,hBB,hO⟩:=h
 have hbase:base≤w.heap.size:=by omega
 have HBB:=hI0 hBB
 have HO:=hI0 hO
 obtain ⟨A0,c0,rfl,y1,y2,y3⟩:=Rd.open_ (Rd.of_own hO)
 have k0:=cW1 0 hBB rfl
 clear y3 y2 hBB hO
 have HLE:Hid (l.length+(encV ⟨vk,vi,vs⟩).length≤140737488300000):=hI0 (by omega)
 have hbW:Bl w (w.alloc (.cells #[.int .i64 vk,.int .i64 vi,.string vs] 51)):=Below.of_alloc _
 have hWs:w.heap.size≤(w.alloc (.cells #[.int .i64 vk,.int .i64 vi,.string vs] 51)).heap.size:=by simp
 have hWl:B<(w.alloc (.cells #[.int .i64 vk,.int .i64 vi,.string vs] 51)).heap.size:=by simp;omega
 have k1:(w.alloc (.cells #[.int .i64 vk,.int .i64 vi,.string vs] 51)).cell? ⟨B,0,none⟩=some (.slice A0 l.length c0):=(World.cell?_of_block (hbW.block B hBl)).trans k0
 have kp0:(w.alloc (.cells #[.int .i64 vk,.int .i64 vi,.string vs] 51)).cell? ⟨w.heap.size,0,none⟩=some (.int .i64 vk):=box_cell w _ _ 0 rfl
 have kp1:(w.alloc (.cells #[.int .i64 vk,.int .i64 vi,.string vs] 51)).cell? ⟨w.heap.size,1,none⟩=some (.int .i64 vi):=box_cell w _ _ 1 rfl
 have kp2:(w.alloc (.cells #[.int .i64 vk,.int .i64 vi,.string vs] 51)).cell? ⟨w.heap.size,2,none⟩=some (.string vs):=box_cell w _ _ 2 rfl
 go_in
 go_wp2_with fail
 refine wp_region_noPanic ?_
 refine beginT (S:=(fun w'=>w'.cell? ⟨B,0,none⟩=some (.slice A0 l.length c0)∧w'.cell? ⟨w.heap.size,0,none⟩=some (.int .i64 vk)∧w'.cell? ⟨w.heap.size,1,none⟩=some (.int .i64 vi)∧w'.cell? ⟨w.heap.size,2,none⟩=some (.string vs))) 10 (by kernel_rfl) ?_ (fun zh=>?_)
 ·exact ⟨k1,kp0,kp1,kp2⟩
 refine tT 0 4 ?_
 refine tT 1 5 ?_
 refine tT 2 6 ?_
 refine tT 3 7 ?_
 refine tT 4 8 ?_
 refine tT 5 9 ?_
 refine cT 6 10 ?_
 (with_reducible refine (putValue_any (.slice none 0 0) [] ⟨vk,vi,vs⟩ _ i1 i2 (RdB.nil _ _) (by simp;omega)).mono ?_)
 rintro e w2 ⟨vd,rfl,hOd,hb2⟩
 obtain ⟨Ad,cd,rfl,j1,j2,j3⟩:=Rd.open_ hOd.rd
 clear j3 j2
 refine ⟨_,rfl,keepAnd ?_ (fun hNew=>?_)⟩
 ·intro _;exact ⟨(World.cell?_of_block (hb2.block B (by have:=hWl;exact this))).trans k1,(World.cell?_of_block (hb2.block w.heap.size (by simp))).trans kp0,(World.cell?_of_block (hb2.block w.heap.size (by simp))).trans kp1,(World.cell?_of_block (hb2.block w.heap.size (by simp))).trans kp2⟩
 have hNew:=hNew (by decide)
 clear zh
 have zh:=hNew
 clear hNew
 simp only [aP]
 have hbw2:Bl w w2:=hbW.trans ((Below.undrew hb2).mono hWs)
 have hO2:OwnB w2 base (.slice A0 l.length c0) l:=own_below HO.out hbw2
 have hB2:w2.heap[B]? =some (.cells #[.slice A0 l.length c0] 123 (0,0)):=(hbw2.block B hBl).trans HBB.out
 have hP2:w2.heap[w.heap.size]? =some (.cells #[.int .i64 vk,.int .i64 vi,.string vs] 51 (0,0)):=(hb2.block w.heap.size (by simp)).trans (heap_alloc_new w _)
 refine opT 7 rfl (by kernel_rfl) (by rfl) ?_
 refine wp_append_b (.tmp 8) (.tmp 10) rfl base (.slice A0 l.length c0) l rfl hO2 (ltw w2) _ ((encV ⟨vk,vi,vs⟩)) rfl hOd.rd (by have:=HLE.out;omega) (by have:=hbw2.size;omega) ?_
 intro v' w3 hO3 hb3 hg3 hv3
 have hDone:=buf_done hbB HBB.out HO.out hbw2 hO3 hb3 hg3 hv3
 have hB3:w3.heap[B]? =some (.cells #[.slice A0 l.length c0] 123 (0,0)):=(hg3.block B (by have:=hbw2.size;omega) (own_not hO2 hB2 (by decide))).trans hB2
 have kf:=fW0 w3 B 0 _ _ hB3
 have kc:=cW1 0 hB3 rfl
 obtain ⟨A3,c3,rfl,z1,z2,z3⟩:=Rd.open_ (Rd.of_own hO3)
 clear z3 z2
 refine keepAnd ?_ (fun hNew=>?_)
 ·intro _;exact ⟨cW0 _ B 0 _ _ _ hB3,(World.cell?_of_block (hg3.block w.heap.size zi10 (own_not hO2 hP2 (by decide)))).trans ((World.cell?_of_block (hb2.block w.heap.size (by simp))).trans kp0),(World.cell?_of_block (hg3.block w.heap.size zi10 (own_not hO2 hP2 (by decide)))).trans ((World.cell?_of_block (hb2.block w.heap.size (by simp))).trans kp1),(World.cell?_of_block (hg3.block w.heap.size zi10 (own_not hO2 hP2 (by decide)))).trans ((World.cell?_of_block (hb2.block w.heap.size (by simp))).trans kp2)⟩
 have hNew:=hNew (by decide)
 clear zh
 have zh:=hNew
 clear hNew
 simp only [aP]
 refine runT 8 (some 12) (v:=?_) (w':=_) rfl rfl (by kernel_rfl) (by rfl) ?_ (fun _=>zh) ?_
 rotate_left
 ·go_simp<;>with_reducible rfl
 simp only [aP]
 refine tT 9 13 ?_
 refine skipRunT 10 none (w':=w3.setCell ⟨B,0,none⟩ (.slice A3 (l++(encV ⟨vk,vi,vs⟩)).length c3)) rfl rfl (by kernel_rfl) (by rfl) ?_ (fun h=>absurd rfl h) ?_
 ·go_simp<;>with_reducible rfl
 clear zh
 simp only [Act.put]
 refine doneT (by kernel_rfl) ?_ _
 refine NoPanic.normal ?_
 go_wp2_with fail
 go_end0
 exact hDone
def flagE (b:Bool):List UInt8:=encI (if b then 1 else 0)
theorem bufBool_any (base B:Nat) (l:List UInt8) (b:Bool) (w:World) (hbB:base≤B) (h:BufAt w base B l) (hl:l.length+4000≤140737488300000):
  Calls prog 177 #[.pointer (some ⟨B,0,none⟩),.bool b] w (BufOut base B (l++flagE b) w):=by
 cases b
 ·have K:=bufInt_any base B l 0 w hbB h (by omega) (by omega) hl
  go_in
  go_wp2_with fail
  (with_reducible refine K.mono ?_)
  rintro _ w1 ⟨rfl,h1⟩
  go_wp2_with fail
  go_end0
  exact ⟨rfl,h1⟩
 ·have K:=bufInt_any base B l 1 w hbB h (by omega) (by omega) hl
  go_in
  go_wp2_with fail
  (with_reducible refine K.mono ?_)
  rintro _ w1 ⟨rfl,h1⟩
  go_wp2_with fail
  go_end0
  exact ⟨rfl,h1⟩
theorem wNum_any (base B:Nat) (l:List UInt8) (n:Int) (w:World) (hbB:base≤B) (h:BufAt w base B l) (hn1: -9223372036854775808≤n) (hn2:n≤9223372036854775807) (hl:l.length+4000≤140737488300000):
  Calls prog 172 #[.pointer (some ⟨B,0,none⟩),.int .i64 n] w (BufOut base B (l++encI n) w):=by
 have hBl:=h.lt
 have K:=bufInt_any base B l n w hbB h hn1 hn2 hl
 go_in
 go_wp2_with fail
 (with_reducible refine K.mono ?_)
 rintro _ w1 ⟨rfl,h1⟩
 go_wp2_with fail
 go_end0
 exact ⟨rfl,h1⟩
theorem wCol_any (base B:Nat) (l:List UInt8) (S:ByteArray) (n:Int) (b:Bool) (w:World) (hbB:base≤B) (h:BufAt w base B l) (hS:S.size≤300) (hn1: -9223372036854775808≤n) (hn2:n≤9223372036854775807) (hl:(l++((encI S.size++S.data.toList)++(encI n++(flagE b)))).length+4000≤140737488300000):
  Calls prog 113 #[.pointer (some ⟨B,0,none⟩),.agg #[.string S,.int .i64 n,.bool b]] w (BufOut base B (l++((encI S.size++S.data.toList)++(encI n++(flagE b)))) w):=by
 exact zq3 1
theorem wPol_any (base B:Nat) (l:List UInt8) (S:ByteArray) (n:Int) (w:World) (hbB:base≤B) (h:BufAt w base B l) (hS:S.size≤300) (hn1: -9223372036854775808≤n) (hn2:n≤9223372036854775807) (hl:(l++((encI S.size++S.data.toList)++(encI n))).length+4000≤140737488300000):
  Calls prog 60 #[.pointer (some ⟨B,0,none⟩),.agg #[.string S,.int .i64 n]] w (BufOut base B (l++((encI S.size++S.data.toList)++(encI n))) w):=by
 exact zq3 3
theorem wHor_any (base B:Nat) (l:List UInt8) (S:ByteArray) (n:Int) (w:World) (hbB:base≤B) (h:BufAt w base B l) (hS:S.size≤300) (hn1: -9223372036854775808≤n) (hn2:n≤9223372036854775807) (hl:(l++((encI S.size++S.data.toList)++(encI n))).length+4000≤140737488300000):
  Calls prog 62 #[.pointer (some ⟨B,0,none⟩),.agg #[.string S,.int .i64 n]] w (BufOut base B (l++((encI S.size++S.data.toList)++(encI n))) w):=by
 exact zq3 2
theorem wHld_any (base B:Nat) (l:List UInt8) (S Q:ByteArray) (a b c d:Int) (w:World) (hbB:base≤B) (h:BufAt w base B l) (hS:S.size≤300) (hQ:Q.size≤300) (ha1: -9223372036854775808≤a) (ha2:a≤9223372036854775807) (hb1: -9223372036854775808≤b) (hb2:b≤9223372036854775807) (hc1: -9223372036854775808≤c) (hc2:c≤9223372036854775807) (hd1: -9223372036854775808≤d) (hd2:d≤9223372036854775807) (hl:(l++((encI S.size++S.data.toList)++((encI Q.size++Q.data.toList)++((encI a++encI b)++((encI c++encI d)))))).length+4000≤140737488300000):
  Calls prog 58 #[.pointer (some ⟨B,0,none⟩),.agg #[.string S,.string Q,.int .i64 a,.int .i64 b,.int .i64 c,.int .i64 d]] w (BufOut base B (l++((encI S.size++S.data.toList)++((encI Q.size++Q.data.toList)++((encI a++encI b)++((encI c++encI d)))))) w):=by
 exact zq3 0
mutual
def encX:RE→List UInt8
 | .mk op it v nm _ _ args=>encI op++(encI it++(encV v++((encI nm.size++nm.data.toList)++(encI args.length++encXs args))))
def encXs:List RE→List UInt8
 |[]=>[]
 |e::r=>encX e++encXs r
end
theorem encXs_flat (l:List RE):encXs l=l.flatMap encX:=by
 induction l with
 |nil=>simp [encXs]
 |cons x r ih=>rw [encXs,ih,List.flatMap_cons]
def encFor (x:RFor):List UInt8:=(encI x.cols.length++x.cols.flatMap encI)++(encI x.table.size++x.table.data.toList)
def encCol (x:RCol):List UInt8:=(encI x.name.size++x.name.data.toList)++(encI x.kind++flagE x.null)
def encTab (t:RTab):List UInt8:=(encI t.name.size++t.name.data.toList)++((encI t.cols.length++t.cols.flatMap encCol)++((encI t.key.length++t.key.flatMap encI)++((encI t.fors.length++t.fors.flatMap encFor)++(encI t.chks.length++t.chks.flatMap encX))))
def encHld (x:Hld):List UInt8:=(encI x.name.size++x.name.data.toList)++((encI x.table.size++x.table.data.toList)++((encI x.vf++encI x.vt)++(encI x.sf++encI x.st)))
def encPol (x:Pol):List UInt8:=(encI x.table.size++x.table.data.toList)++encI x.keep
def encHor (x:Hor):List UInt8:=(encI x.table.size++x.table.data.toList)++encI x.time
structure forW (w:World) (base:Nat) (x:RFor):Prop where
 rd:RdE 1 intE w (·<base) (.slice x.cA x.cols.length x.cc) x.cols
 ix:∀n∈x.cols,(-9223372036854775808≤n∧n≤9223372036854775807)
 nm:x.table.size≤300
theorem forW.keep {w w':World} {base:Nat} {x:RFor} (h:forW w base x) (hb:Below base w w'):forW w' base x:=⟨h.rd.keep (Keeps.below hb),h.ix,h.nm⟩
theorem exIs_keep {w w':World} {F:Nat→Prop} (hk:Keeps F w w'):∀(d:Nat) (e:RE),exIs d w F e→exIs d w' F e:=by
 intro d
 induction d with
 |zero=>intro e _;trivial
 |succ d ih=>
  intro e h
  obtain ⟨op,it,val,nm,A,c,args⟩:=e
  obtain ⟨h1,h2,h3,h4⟩:=h
  exact ⟨h1.keep hk,h2,h3,fun a ha=>ih a (h4 a ha)⟩
theorem wCol_x (base B:Nat) (l:List UInt8) (x:RCol) (w:World) (hbB:base≤B) (h:BufAt w base B l) (hx:x.name.size≤300∧(-9223372036854775808≤x.kind∧x.kind≤9223372036854775807)) (hl:(l++encCol x).length+4000≤140737488300000):
  Calls prog 113 #[.pointer (some ⟨B,0,none⟩),.agg (RCol.enc x).toArray] w (BufOut base B (l++encCol x) w):=wCol_any base B l x.name x.kind x.null w hbB h hx.1 hx.2.1 hx.2.2 hl
theorem wExp0 (base B:Nat) (l:List UInt8) (op it vk vi:Int) (vs nm:ByteArray) (aA:Option Addr) (ac:Nat) (args:List RE) (w:World) (hbB:base≤B) (h:BufAt w base B l) (hop1: -9223372036854775808≤op) (hop2:op≤9223372036854775807) (hit1: -9223372036854775808≤it) (hit2:it≤9223372036854775807) (hvi1: -9223372036854775808≤vi) (hvi2:vi≤9223372036854775807) (hvs:vs.size≤3000) (hvvs:(encV ⟨vk,vi,vs⟩).length≤4000) (hnm:nm.size≤300) (ha:RdE 7 RE.enc w (·<base) (.slice aA args.length ac) args) (hone:∀x∈args,∀(V:World) (m:List UInt8),BufAt V base B m→Below base w V→(m++encX x).length+4000≤140737488300000→Calls prog 176 #[.pointer (some ⟨B,0,none⟩),.agg x.enc.toArray] V (BufOut base B (m++encX x) V)) (hl:(l++(encI op++(encI it++(encV ⟨vk,vi,vs⟩++((encI nm.size++nm.data.toList)++((encI args.length++args.flatMap encX))))))).length+4000≤140737488300000):
  Calls prog 176 #[.pointer (some ⟨B,0,none⟩),.agg #[.int .i64 op,.int .i64 it,.int .i64 vk,.int .i64 vi,.string vs,.string nm,.slice aA args.length ac]] w (BufOut base B (l++(encI op++(encI it++(encV ⟨vk,vi,vs⟩++((encI nm.size++nm.data.toList)++((encI args.length++args.flatMap encX))))))) w):=by
 exact zq0 3
theorem wExp_any:∀(d:Nat) (e:RE) (base B:Nat) (l:List UInt8) (w:World),base≤B→BufAt w base B l→okX d e=true→exIs d w (·<base) e→(l++encX e).length+4000≤140737488300000→
  Calls prog 176 #[.pointer (some ⟨B,0,none⟩),.agg e.enc.toArray] w (BufOut base B (l++encX e) w):=by
 intro d
 induction d with
 |zero=>intro e base B l w _ _ h;exact absurd h (by simp [okX])
 |succ d ih=>
  intro e base B l w hbB h hok he hl
  obtain ⟨op,it,⟨vk,vi,vs⟩,nm,aA,ac,args⟩:=e
  obtain ⟨h1,h2,h3,h4⟩:=he
  simp only [okX,Bool.and_eq_true,decide_eq_true_eq,List.all_eq_true] at hok
  obtain ⟨k1,k2,k3,k4,k5,k6⟩:=hok
  obtain ⟨v1,v2,v3⟩:=valid_parts k3
  simp only [encX,encXs_flat] at hl ⊢
  exact wExp0 base B l op it vk vi vs nm aA ac args w hbB h (by omega) (by omega) (by omega) (by omega) h2.1 h2.2.1 (by simp only at v2;omega) (by omega) (by omega) h1 (fun x hx V m hA hB hlm=>ih x base B m V hbB hA (k6 x hx) (exIs_keep (Keeps.below hB) d x (h4 x hx)) hlm) hl
theorem wFor_any (base B:Nat) (l:List UInt8) (fA:Option Addr) (fc:Nat) (fl:List Int) (S:ByteArray) (w:World) (hbB:base≤B) (h:BufAt w base B l) (hf:RdE 1 intE w (·<base) (.slice fA fl.length fc) fl) (hfl:∀n∈fl,(-9223372036854775808≤n∧n≤9223372036854775807)) (hS:S.size≤300) (hl:(l++((encI fl.length++fl.flatMap encI)++((encI S.size++S.data.toList)))).length+4000≤140737488300000):
  Calls prog 174 #[.pointer (some ⟨B,0,none⟩),.agg #[.slice fA fl.length fc,.string S]] w (BufOut base B (l++((encI fl.length++fl.flatMap encI)++((encI S.size++S.data.toList)))) w):=by
 exact zq3 5
theorem wFor_x (base B:Nat) (l:List UInt8) (x:RFor) (w:World) (hbB:base≤B) (h:BufAt w base B l) (hx:forW w base x) (hl:(l++encFor x).length+4000≤140737488300000):
  Calls prog 174 #[.pointer (some ⟨B,0,none⟩),.agg (RFor.enc x).toArray] w (BufOut base B (l++encFor x) w):=wFor_any base B l x.cA x.cc x.cols x.table w hbB h hx.rd hx.ix hx.nm hl
theorem wTab0 (base B:Nat) (l:List UInt8) (nm:ByteArray) (colA:Option Addr) (colC:Nat) (cols:List RCol) (keyA:Option Addr) (keyC:Nat) (key:List Int) (forA:Option Addr) (forC:Nat) (fors:List RFor) (chkA:Option Addr) (chkC:Nat) (chks:List RE) (w:World) (hbB:base≤B) (h:BufAt w base B l) (hnm:nm.size≤300) (hc:RdE 3 RCol.enc w (·<base) (.slice colA cols.length colC) cols) (hcS:∀x∈cols,x.name.size≤300∧(-9223372036854775808≤x.kind∧x.kind≤9223372036854775807)) (hk:RdE 1 intE w (·<base) (.slice keyA key.length keyC) key) (hkS:∀n∈key,(-9223372036854775808≤n∧n≤9223372036854775807)) (hf:RdE 2 RFor.enc w (·<base) (.slice forA fors.length forC) fors) (hfS:∀x∈fors,forW w base x) (hx:RdE 7 RE.enc w (·<base) (.slice chkA chks.length chkC) chks) (hxS:∀e∈chks,exIs 24 w (·<base) e∧okX 24 e=true) (hl:(l++((encI nm.size++nm.data.toList)++((encI cols.length++cols.flatMap encCol)++((encI key.length++key.flatMap encI)++((encI fors.length++fors.flatMap encFor)++((encI chks.length++chks.flatMap encX))))))).length+4000≤140737488300000):
  Calls prog 112 #[.pointer (some ⟨B,0,none⟩),.agg #[.string nm,.slice colA cols.length colC,.slice keyA key.length keyC,.slice forA fors.length forC,.slice chkA chks.length chkC]] w (BufOut base B (l++((encI nm.size++nm.data.toList)++((encI cols.length++cols.flatMap encCol)++((encI key.length++key.flatMap encI)++((encI fors.length++fors.flatMap encFor)++((encI chks.length++chks.flatMap encX))))))) w):=by
 exact zq2 0
structure tabW (w:World) (base:Nat) (t:RTab):Prop where
 nm:t.name.size≤300
 cols:RdE 3 RCol.enc w (·<base) (.slice t.colA t.cols.length t.colC) t.cols
 colS:∀x∈t.cols,x.name.size≤300∧(-9223372036854775808≤x.kind∧x.kind≤9223372036854775807)
 key:RdE 1 intE w (·<base) (.slice t.keyA t.key.length t.keyC) t.key
 keyS:∀n∈t.key,(-9223372036854775808≤n∧n≤9223372036854775807)
 fors:RdE 2 RFor.enc w (·<base) (.slice t.forA t.fors.length t.forC) t.fors
 forS:∀x∈t.fors,forW w base x
 chks:RdE 7 RE.enc w (·<base) (.slice t.chkA t.chks.length t.chkC) t.chks
 chkS:∀e∈t.chks,exIs 24 w (·<base) e∧okX 24 e=true
theorem tabW.keep {w w':World} {base:Nat} {t:RTab} (h:tabW w base t) (hb:Below base w w'):tabW w' base t:=
 ⟨h.nm,h.cols.keep (Keeps.below hb),h.colS,h.key.keep (Keeps.below hb),h.keyS,h.fors.keep (Keeps.below hb),fun x hx=>(h.forS x hx).keep hb,h.chks.keep (Keeps.below hb),fun e he=>⟨exIs_keep (Keeps.below hb) 24 e (h.chkS e he).1,(h.chkS e he).2⟩⟩
theorem wTab_x (base B:Nat) (l:List UInt8) (t:RTab) (w:World) (hbB:base≤B) (h:BufAt w base B l) (ht:tabW w base t) (hl:(l++encTab t).length+4000≤140737488300000):
  Calls prog 112 #[.pointer (some ⟨B,0,none⟩),.agg t.enc.toArray] w (BufOut base B (l++encTab t) w):=
 wTab0 base B l t.name t.colA t.colC t.cols t.keyA t.keyC t.key t.forA t.forC t.fors t.chkA t.chkC t.chks w hbB h ht.nm ht.cols ht.colS ht.key ht.keyS ht.fors ht.forS ht.chks ht.chkS hl
structure chnW (c:Chn):Prop where
 name:c.name.size≤300
 to:c.to.size≤300
 cname:c.cname.size≤300
 ckind:(-9223372036854775808≤c.ckind∧c.ckind≤9223372036854775807)
 di:(-9223372036854775808≤c.def_.int∧c.def_.int≤9223372036854775807)
 dt:c.def_.text.size≤200
 dl:(encV c.def_).length≤4000
 d3:c.def_.kind=3→c.def_.int=0∨c.def_.int=1
structure entW (w:World) (base:Nat) (x:REn):Prop where
 tm:(-9223372036854775808≤x.time∧x.time≤9223372036854775807)
 tb:x.table.size≤300
 kd:(-9223372036854775808≤x.change.kind∧x.change.kind≤9223372036854775807)
 tab:x.change.kind=0→tabW w base x.create
 ch:x.change.kind≠0→chnW x.change
theorem entW.keep {w w':World} {base:Nat} {x:REn} (h:entW w base x) (hb:Below base w w'):entW w' base x:=⟨h.tm,h.tb,h.kd,fun hk=>(h.tab hk).keep hb,h.ch⟩
def encEnt0 (x:REn):List UInt8:=encI x.time++((encI x.table.size++x.table.data.toList)++(encI 0++encTab x.create))
def encEnt1 (x:REn):List UInt8:=encI x.time++((encI x.table.size++x.table.data.toList)++(encI x.change.kind++((encI x.change.name.size++x.change.name.data.toList)++((encI x.change.to.size++x.change.to.data.toList)++(((encI x.change.cname.size++x.change.cname.data.toList)++(encI x.change.ckind++flagE x.change.cnull))++encV x.change.def_)))))
def encEnt (x:REn):List UInt8:=if x.change.kind=0 then encEnt0 x else encEnt1 x
theorem wEnt0 (base B:Nat) (l:List UInt8) (tm:Int) (tb nm:ByteArray) (colA:Option Addr) (colC:Nat) (cols:List RCol) (keyA:Option Addr) (keyC:Nat) (key:List Int) (forA:Option Addr) (forC:Nat) (fors:List RFor) (chkA:Option Addr) (chkC:Nat) (chks:List RE) (x2 x3 x4:ByteArray) (x5:Int) (x6:Bool) (x7 x8:Int) (x9:ByteArray) (w:World) (hbB:base≤B) (h:BufAt w base B l) (htm1: -9223372036854775808≤tm) (htm2:tm≤9223372036854775807) (htb:tb.size≤300) (ht:tabW w base ⟨nm,colA,colC,cols,keyA,keyC,key,forA,forC,fors,chkA,chkC,chks⟩) (hl:(l++(encI tm++((encI tb.size++tb.data.toList)++(encI 0++(encTab ⟨nm,colA,colC,cols,keyA,keyC,key,forA,forC,fors,chkA,chkC,chks⟩))))).length+4000≤140737488300000):
  Calls prog 49 #[.pointer (some ⟨B,0,none⟩),.agg #[.int .i64 tm,.string tb,.string nm,.slice colA cols.length colC,.slice keyA key.length keyC,.slice forA fors.length forC,.slice chkA chks.length chkC,.int .i64 0,.string x2,.string x3,.string x4,.int .i64 x5,.bool x6,.int .i64 x7,.int .i64 x8,.string x9]] w (BufOut base B (l++(encI tm++((encI tb.size++tb.data.toList)++(encI 0++(encTab ⟨nm,colA,colC,cols,keyA,keyC,key,forA,forC,fors,chkA,chkC,chks⟩))))) w):=by
 exact zq0 2
theorem wEnt1 (base B:Nat) (l:List UInt8) (tm:Int) (tb nm:ByteArray) (colA:Option Addr) (colC:Nat) (cols:List RCol) (keyA:Option Addr) (keyC:Nat) (key:List Int) (forA:Option Addr) (forC:Nat) (fors:List RFor) (chkA:Option Addr) (chkC:Nat) (chks:List RE) (x1:Int) (x2 x3 x4:ByteArray) (x5:Int) (x6:Bool) (x7 x8:Int) (x9:ByteArray) (w:World) (hbB:base≤B) (h:BufAt w base B l) (hk:¬x1=0) (htm1: -9223372036854775808≤tm) (htm2:tm≤9223372036854775807) (htb:tb.size≤300) (hx11: -9223372036854775808≤x1) (hx12:x1≤9223372036854775807) (hx2:x2.size≤300) (hx3:x3.size≤300) (hx4:x4.size≤300) (hx51: -9223372036854775808≤x5) (hx52:x5≤9223372036854775807) (hx81: -9223372036854775808≤x8) (hx82:x8≤9223372036854775807) (hx9:x9.size≤3000) (hvx9:(encV ⟨x7,x8,x9⟩).length≤4000) (hl:(l++(encI tm++((encI tb.size++tb.data.toList)++(encI x1++((encI x2.size++x2.data.toList)++((encI x3.size++x3.data.toList)++(((encI x4.size++x4.data.toList)++(encI x5++flagE x6))++(encV ⟨x7,x8,x9⟩)))))))).length+4000≤140737488300000):
  Calls prog 49 #[.pointer (some ⟨B,0,none⟩),.agg #[.int .i64 tm,.string tb,.string nm,.slice colA cols.length colC,.slice keyA key.length keyC,.slice forA fors.length forC,.slice chkA chks.length chkC,.int .i64 x1,.string x2,.string x3,.string x4,.int .i64 x5,.bool x6,.int .i64 x7,.int .i64 x8,.string x9]] w (BufOut base B (l++(encI tm++((encI tb.size++tb.data.toList)++(encI x1++((encI x2.size++x2.data.toList)++((encI x3.size++x3.data.toList)++(((encI x4.size++x4.data.toList)++(encI x5++flagE x6))++(encV ⟨x7,x8,x9⟩)))))))) w):=by
 exact zq0 1
theorem wEnt_x (base B:Nat) (l:List UInt8) (x:REn) (w:World) (hbB:base≤B) (h:BufAt w base B l) (hx:entW w base x) (hl:(l++encEnt x).length+4000≤140737488300000):
  Calls prog 49 #[.pointer (some ⟨B,0,none⟩),.agg x.enc.toArray] w (BufOut base B (l++encEnt x) w):=by
 obtain ⟨tm,tb,⟨nm,colA,colC,cols,keyA,keyC,key,forA,forC,fors,chkA,chkC,chks⟩,⟨x1,x2,x3,x4,x5,x6,⟨x7,x8,x9⟩⟩⟩:=x
 by_cases hk:x1=0
 ·have e:encEnt ⟨tm,tb,⟨nm,colA,colC,cols,keyA,keyC,key,forA,forC,fors,chkA,chkC,chks⟩,⟨x1,x2,x3,x4,x5,x6,⟨x7,x8,x9⟩⟩⟩=encEnt0 ⟨tm,tb,⟨nm,colA,colC,cols,keyA,keyC,key,forA,forC,fors,chkA,chkC,chks⟩,⟨x1,x2,x3,x4,x5,x6,⟨x7,x8,x9⟩⟩⟩:=if_pos hk
  have ht:=hx.tab hk
  rw [e] at hl ⊢
  subst hk
  exact wEnt0 base B l tm tb nm colA colC cols keyA keyC key forA forC fors chkA chkC chks x2 x3 x4 x5 x6 x7 x8 x9 w hbB h hx.tm.1 hx.tm.2 hx.tb ht hl
 ·have e:encEnt ⟨tm,tb,⟨nm,colA,colC,cols,keyA,keyC,key,forA,forC,fors,chkA,chkC,chks⟩,⟨x1,x2,x3,x4,x5,x6,⟨x7,x8,x9⟩⟩⟩=encEnt1 ⟨tm,tb,⟨nm,colA,colC,cols,keyA,keyC,key,forA,forC,fors,chkA,chkC,chks⟩,⟨x1,x2,x3,x4,x5,x6,⟨x7,x8,x9⟩⟩⟩:=if_neg hk
  have hc:=hx.ch hk
  rw [e] at hl ⊢
  have t9:x9.size≤200:=hc.dt
  exact wEnt1 base B l tm tb nm colA colC cols keyA keyC key forA forC fors chkA chkC chks x1 x2 x3 x4 x5 x6 x7 x8 x9 w hbB h hk hx.tm.1 hx.tm.2 hx.tb hx.kd.1 hx.kd.2 hc.name hc.to hc.cname hc.ckind.1 hc.ckind.2 hc.di.1 hc.di.2 (by omega) hc.dl hl
end Go.Proofs.YtgfhknnklapldaaGreatDoor
