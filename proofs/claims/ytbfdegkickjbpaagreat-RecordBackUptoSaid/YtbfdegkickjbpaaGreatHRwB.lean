/-
 RwB
-/
import Derived.Test.YtbfdegkickjbpaaGreatHRwA
import Derived.Test.YtbfdegkickjbpaaGreatHWk1
namespace Go.Proofs.YtbfdegkickjbpaaGreat
set_option maxRecDepth 1000000
set_option maxHeartbeats 32000000
open Go.RowKit Go.Lib Go.IntWalk Go.Sort Go.Shelf
theorem zq6 {P:Prop} (i:Nat) (h:Tg i→P:=by
 intro zT6
 have hBl:=h.lt
 have hw0:base≤w.heap.size:=by omega
 have HLn:=hI0 hl
 clear hl
 first
  |guard_hyp zT6:Tg 4
   obtain ⟨W,hW⟩:∃W,W=w.alloc (.cells #[.string S,.int .i64 n] 117):=⟨_,rfl⟩
  |guard_hyp zT6:Tg 3
   obtain ⟨W,hW⟩:∃W,W=w.alloc (.cells #[.string S,.int .i64 n] 122):=⟨_,rfl⟩
  |guard_hyp zT6:Tg 2
   obtain ⟨W,hW⟩:∃W,W=w.alloc (.cells #[.slice rA rn rc,.int .i64 a,.int .i64 b] 68):=⟨_,rfl⟩
  |guard_hyp zT6:Tg 1
   obtain ⟨W,hW⟩:∃W,W=w.alloc (.cells #[.string S,.int .i64 n,.bool b] 77):=⟨_,rfl⟩
  |obtain ⟨W,hW⟩:∃W,W=w.alloc (.cells #[.string S,.string Q,.int .i64 a,.int .i64 b,.int .i64 c,.int .i64 d] 109):=⟨_,rfl⟩
 have hbW:Below w.heap.size w W:=by rw [hW];exact Below.of_alloc _
 have hWs:W.heap.size=w.heap.size+1:=by rw [hW];simp
 first
  |guard_hyp zT6:Tg 4
   have hWh:W.heap[w.heap.size]? =some (.cells #[.string S,.int .i64 n] 117 (0,0)):=by rw [hW];exact heap_alloc_new _ _
  |guard_hyp zT6:Tg 3
   have hWh:W.heap[w.heap.size]? =some (.cells #[.string S,.int .i64 n] 122 (0,0)):=by rw [hW];exact heap_alloc_new _ _
  |guard_hyp zT6:Tg 2
   have hWh:W.heap[w.heap.size]? =some (.cells #[.slice rA rn rc,.int .i64 a,.int .i64 b] 68 (0,0)):=by rw [hW];exact heap_alloc_new _ _
  |guard_hyp zT6:Tg 1
   have hWh:W.heap[w.heap.size]? =some (.cells #[.string S,.int .i64 n,.bool b] 77 (0,0)):=by rw [hW];exact heap_alloc_new _ _
  |have hWh:W.heap[w.heap.size]? =some (.cells #[.string S,.string Q,.int .i64 a,.int .i64 b,.int .i64 c,.int .i64 d] 109 (0,0)):=by rw [hW];exact heap_alloc_new _ _
 have HW:=hI0 hW
 clear hW
 first
  |guard_hyp zT6:Tg 4
   go_enter Tryz.func56,Tryz.ntmps56
  |guard_hyp zT6:Tg 3
   go_enter Tryz.func58,Tryz.ntmps58
  |guard_hyp zT6:Tg 2
   have HV:=hI0 hx
   have HOK:=hI0 hok
   have HRL:=hI0 hr
   clear hx hok hr
   go_enter Tryz.func155,Tryz.ntmps155
  |guard_hyp zT6:Tg 1
   go_enter Tryz.func150,Tryz.ntmps150
  |go_enter Tryz.func52,Tryz.ntmps52
 go_wp2_with fail
 rw [←HW.out]
 have hA0:BufAt W base B l:=h.below hbW
 have hB0:Below base w W:=hbW.mono hw0
 have hK0:KeepO B w W:=KeepO.of_below hbW
 clear h hbW
 first
  |guard_hyp zT6:Tg 4
  |guard_hyp zT6:Tg 3
  |guard_hyp zT6:Tg 2
   have HVw:Hid (RdV W.drew (·<W.drew.heap.size) (.slice rA rn rc) xs):=hI0 (Rd.wide (Rd.keep HV.out (Keeps.below hB0.drew)) (fun b hb=>by show b<W.heap.size;have hb':b<base:=hb;omega))
  |skip
 refine wp_region_noPanic ?_
 first
  |guard_hyp zT6:Tg 4
   refine wp_region_held_drew (S:=(fun w'=>∀j u,[.string S,.int .i64 n][j]? =some u→w'.cell? ⟨w.heap.size,j,none⟩=some u)) (by kernel_rfl) ?_ (fun hHeld=>?_)
  |guard_hyp zT6:Tg 3
   refine wp_region_held_drew (S:=(fun w'=>∀j u,[.string S,.int .i64 n][j]? =some u→w'.cell? ⟨w.heap.size,j,none⟩=some u)) (by kernel_rfl) ?_ (fun hHeld=>?_)
  |guard_hyp zT6:Tg 2
   refine wp_region_held_drew (S:=(fun w'=>∀j u,[.slice rA rn rc,.int .i64 a,.int .i64 b][j]? =some u→w'.cell? ⟨w.heap.size,j,none⟩=some u)) (by kernel_rfl) ?_ (fun hHeld=>?_)
  |guard_hyp zT6:Tg 1
   refine wp_region_held_drew (S:=(fun w'=>∀j u,[.string S,.int .i64 n,.bool b][j]? =some u→w'.cell? ⟨w.heap.size,j,none⟩=some u)) (by kernel_rfl) ?_ (fun hHeld=>?_)
  |refine wp_region_held_drew (S:=(fun w'=>∀j u,[.string S,.string Q,.int .i64 a,.int .i64 b,.int .i64 c,.int .i64 d][j]? =some u→w'.cell? ⟨w.heap.size,j,none⟩=some u)) (by kernel_rfl) ?_ (fun hHeld=>?_)
 ·exact zq71
 refine hT 0 4 hHeld ?_
 simp only [aP]
 refine hT 1 5 hHeld ?_
 simp only [aP]
 refine hT 2 6 hHeld ?_
 simp only [aP]
 refine hT 3 7 hHeld ?_
 simp only [aP]
 refine hU 4 8 (v:=?_) hHeld ?_ ?_
 rotate_left
 ·intro w' hSw;(try dsimp only at hSw);have q0:=hSw 0 _ rfl;go_simp<;>with_reducible rfl
 simp only [aP]
 refine hC 5 9 ?_
 first
  |guard_hyp zT6:Tg 4
   (with_reducible refine (bufText_any base B (l) S _ hbB hA0.drew hS (by have:=HLn.out;simp only [List.length_append] at this ⊢;omega)).mono ?_)
  |guard_hyp zT6:Tg 3
   (with_reducible refine (bufText_any base B (l) S _ hbB hA0.drew hS (by have:=HLn.out;simp only [List.length_append] at this ⊢;omega)).mono ?_)
  |guard_hyp zT6:Tg 2
   (with_reducible refine (bufRow_any base B (l) _ xs _ hbB hA0.drew HVw.out HOK.out HRL.out (by have:=HLn.out;simp only [List.length_append] at this ⊢;omega)).mono ?_)
  |(with_reducible refine (bufText_any base B (l) S _ hbB hA0.drew hS (by have:=HLn.out;simp only [List.length_append] at this ⊢;omega)).mono ?_)
 rintro _ w1 ⟨rfl,hA1,hb',hk'⟩
 have hB1:Below base w w1:=hB0.trans (Below.undrew hb')
 have hK1:KeepO B w w1:=hK0.trans hk'
 have hWh':=(hk'.2 w.heap.size (by have:W.drew.heap.size=W.heap.size:=rfl;have:=hWs;first|omega|(have:=hsz0;omega)) (by omega) (by intro cur;rw [show W.drew.heap[w.heap.size]? =_ from hWh];simp)).trans (show W.drew.heap[w.heap.size]? =_ from hWh)
 have hsz1:w.heap.size+1≤w1.heap.size:=by have:=hk'.1;have:W.drew.heap.size=W.heap.size:=rfl;first|omega|(have:=hsz0;omega)
 clear hWh hb' hk'
 have hWh:=hWh'
 clear hWh'
 refine ⟨_,rfl,keepAnd ?_ (fun hNew=>?_)⟩
 ·exact zq71
 clear hHeld
 have hHeld:=hNew
 clear hNew
 simp only [aP]
 refine wpAnyH_done (by kernel_rfl) ?_ _
 refine NoPanic.normal ?_
 clear hHeld
 clear hA0 hB0 hK0
 go_wp2_with fail
 refine wp_region_noPanic ?_
 first
  |guard_hyp zT6:Tg 4
   refine wp_region_held_drew (S:=(fun w'=>∀j u,[.string S,.int .i64 n][j]? =some u→w'.cell? ⟨w.heap.size,j,none⟩=some u)) (by kernel_rfl) ?_ (fun hHeld=>?_)
  |guard_hyp zT6:Tg 3
   refine wp_region_held_drew (S:=(fun w'=>∀j u,[.string S,.int .i64 n][j]? =some u→w'.cell? ⟨w.heap.size,j,none⟩=some u)) (by kernel_rfl) ?_ (fun hHeld=>?_)
  |guard_hyp zT6:Tg 2
   refine wp_region_held_drew (S:=(fun w'=>∀j u,[.slice rA rn rc,.int .i64 a,.int .i64 b][j]? =some u→w'.cell? ⟨w.heap.size,j,none⟩=some u)) (by kernel_rfl) ?_ (fun hHeld=>?_)
  |guard_hyp zT6:Tg 1
   refine wp_region_held_drew (S:=(fun w'=>∀j u,[.string S,.int .i64 n,.bool b][j]? =some u→w'.cell? ⟨w.heap.size,j,none⟩=some u)) (by kernel_rfl) ?_ (fun hHeld=>?_)
  |refine wp_region_held_drew (S:=(fun w'=>∀j u,[.string S,.string Q,.int .i64 a,.int .i64 b,.int .i64 c,.int .i64 d][j]? =some u→w'.cell? ⟨w.heap.size,j,none⟩=some u)) (by kernel_rfl) ?_ (fun hHeld=>?_)
 ·exact zq71
 refine hT 0 10 hHeld ?_
 simp only [aP]
 refine hT 1 11 hHeld ?_
 simp only [aP]
 refine hT 2 12 hHeld ?_
 simp only [aP]
 refine hT 3 13 hHeld ?_
 simp only [aP]
 refine hU 4 14 (v:=?_) hHeld ?_ ?_
 rotate_left
 ·first
   |guard_hyp zT6:Tg 4
    intro w' hSw;(try dsimp only at hSw);have q1:=hSw 1 _ rfl;go_simp<;>with_reducible rfl
   |guard_hyp zT6:Tg 3
    intro w' hSw;(try dsimp only at hSw);have q1:=hSw 1 _ rfl;go_simp<;>with_reducible rfl
   |guard_hyp zT6:Tg 2
    intro w' hSw;(try dsimp only at hSw);have q1:=hSw 1 _ rfl;have q2:=hSw 2 _ rfl;go_simp<;>with_reducible rfl
   |intro w' hSw;(try dsimp only at hSw);have q1:=hSw 1 _ rfl;go_simp<;>with_reducible rfl
 simp only [aP]
 refine hC 5 15 ?_
 first
  |guard_hyp zT6:Tg 4
   (with_reducible refine (bufInt_any base B (l++(encI S.size++S.data.toList)) n _ hbB hA1.drew hn1 hn2 (by have:=HLn.out;simp only [List.length_append] at this ⊢;omega)).mono ?_)
  |guard_hyp zT6:Tg 3
   (with_reducible refine (bufInt_any base B (l++(encI S.size++S.data.toList)) n _ hbB hA1.drew hn1 hn2 (by have:=HLn.out;simp only [List.length_append] at this ⊢;omega)).mono ?_)
  |guard_hyp zT6:Tg 2
   (with_reducible refine (bufPeriod_any base B (l++encR xs) a b _ hbB hA1.drew ha1 ha2 hb1 hb2 (by have:=HLn.out;simp only [List.length_append] at this ⊢;omega)).mono ?_)
  |guard_hyp zT6:Tg 1
   (with_reducible refine (bufInt_any base B (l++(encI S.size++S.data.toList)) n _ hbB hA1.drew hn1 hn2 (by have:=HLn.out;simp only [List.length_append] at this ⊢;omega)).mono ?_)
  |(with_reducible refine (bufText_any base B (l++(encI S.size++S.data.toList)) Q _ hbB hA1.drew hQ (by have:=HLn.out;simp only [List.length_append] at this ⊢;omega)).mono ?_)
 rintro _ w2 ⟨rfl,hA2,hb',hk'⟩
 have hB2:Below base w w2:=hB1.trans (Below.undrew hb')
 have hK2:KeepO B w w2:=hK1.trans hk'
 have hWh':=(hk'.2 w.heap.size (by have:w1.drew.heap.size=w1.heap.size:=rfl;have:=hWs;first|omega|(have:=hsz1;omega)) (by omega) (by intro cur;rw [show w1.drew.heap[w.heap.size]? =_ from hWh];simp)).trans (show w1.drew.heap[w.heap.size]? =_ from hWh)
 have hsz2:w.heap.size+1≤w2.heap.size:=by have:=hk'.1;have:w1.drew.heap.size=w1.heap.size:=rfl;first|omega|(have:=hsz1;omega)
 clear hWh hb' hk'
 have hWh:=hWh'
 clear hWh'
 refine ⟨_,rfl,keepAnd ?_ (fun hNew=>?_)⟩
 ·exact zq71
 clear hHeld
 have hHeld:=hNew
 clear hNew
 simp only [aP]
 refine wpAnyH_done (by kernel_rfl) ?_ _
 refine NoPanic.normal ?_
 clear hHeld
 clear hA1 hB1 hK1
 go_wp2_with fail
 first
  |guard_hyp zT6:Tg 4
  |guard_hyp zT6:Tg 3
  |guard_hyp zT6:Tg 2
  |refine wp_region_noPanic ?_
   first
    |guard_hyp zT6:Tg 1
     refine wp_region_held_drew (S:=(fun w'=>∀j u,[.string S,.int .i64 n,.bool b][j]? =some u→w'.cell? ⟨w.heap.size,j,none⟩=some u)) (by kernel_rfl) ?_ (fun hHeld=>?_)
    |refine wp_region_held_drew (S:=(fun w'=>∀j u,[.string S,.string Q,.int .i64 a,.int .i64 b,.int .i64 c,.int .i64 d][j]? =some u→w'.cell? ⟨w.heap.size,j,none⟩=some u)) (by kernel_rfl) ?_ (fun hHeld=>?_)
   ·exact zq71
   refine hT 0 16 hHeld ?_
   simp only [aP]
   refine hT 1 17 hHeld ?_
   simp only [aP]
   refine hT 2 18 hHeld ?_
   simp only [aP]
   refine hT 3 19 hHeld ?_
   simp only [aP]
   first
    |guard_hyp zT6:Tg 1
     refine hU 4 20 (v:=?_) hHeld ?_ ?_
    |refine hT 4 20 hHeld ?_
     simp only [aP]
     refine hU 5 21 (v:=?_) hHeld ?_ ?_
   rotate_left
   ·first
     |guard_hyp zT6:Tg 1
      intro w' hSw;(try dsimp only at hSw);have q2:=hSw 2 _ rfl;go_simp<;>with_reducible rfl
     |intro w' hSw;(try dsimp only at hSw);have q2:=hSw 2 _ rfl;have q3:=hSw 3 _ rfl;go_simp<;>with_reducible rfl
   simp only [aP]
   first
    |guard_hyp zT6:Tg 1
     refine hC 5 21 ?_
     (with_reducible refine (bufBool_any base B (l++(encI S.size++S.data.toList)++encI n) b _ hbB hA2.drew (by have:=HLn.out;simp only [List.length_append] at this ⊢;omega)).mono ?_)
    |refine hC 6 22 ?_
     (with_reducible refine (bufPeriod_any base B (l++(encI S.size++S.data.toList)++(encI Q.size++Q.data.toList)) a b _ hbB hA2.drew ha1 ha2 hb1 hb2 (by have:=HLn.out;simp only [List.length_append] at this ⊢;omega)).mono ?_)
   rintro _ w3 ⟨rfl,hA3,hb',hk'⟩
   have hB3:Below base w w3:=hB2.trans (Below.undrew hb')
   have hK3:KeepO B w w3:=hK2.trans hk'
   have hWh':=(hk'.2 w.heap.size (by have:w2.drew.heap.size=w2.heap.size:=rfl;have:=hWs;first|omega|(have:=hsz2;omega)) (by omega) (by intro cur;rw [show w2.drew.heap[w.heap.size]? =_ from hWh];simp)).trans (show w2.drew.heap[w.heap.size]? =_ from hWh)
   have hsz3:w.heap.size+1≤w3.heap.size:=by have:=hk'.1;have:w2.drew.heap.size=w2.heap.size:=rfl;first|omega|(have:=hsz2;omega)
   clear hWh hb' hk'
   have hWh:=hWh'
   clear hWh'
   refine ⟨_,rfl,keepAnd ?_ (fun hNew=>?_)⟩
   ·exact zq71
   clear hHeld
   have hHeld:=hNew
   clear hNew
   simp only [aP]
   refine wpAnyH_done (by kernel_rfl) ?_ _
   refine NoPanic.normal ?_
   clear hHeld
   clear hA2 hB2 hK2
   go_wp2_with fail
   first
    |guard_hyp zT6:Tg 1
    |refine wp_region_noPanic ?_
     refine wp_region_held_drew (S:=(fun w'=>∀j u,[.string S,.string Q,.int .i64 a,.int .i64 b,.int .i64 c,.int .i64 d][j]? =some u→w'.cell? ⟨w.heap.size,j,none⟩=some u)) (by kernel_rfl) ?_ (fun hHeld=>?_)
     ·exact zq71
     refine hT 0 23 hHeld ?_
     simp only [aP]
     refine hT 1 24 hHeld ?_
     simp only [aP]
     refine hT 2 25 hHeld ?_
     simp only [aP]
     refine hT 3 26 hHeld ?_
     simp only [aP]
     refine hT 4 27 hHeld ?_
     simp only [aP]
     refine hU 5 28 (v:=?_) hHeld ?_ ?_
     rotate_left
     ·intro w' hSw;(try dsimp only at hSw);have q4:=hSw 4 _ rfl;have q5:=hSw 5 _ rfl;go_simp<;>with_reducible rfl
     simp only [aP]
     refine hC 6 29 ?_
     (with_reducible refine (bufPeriod_any base B (l++(encI S.size++S.data.toList)++(encI Q.size++Q.data.toList)++(encI a++encI b)) c d _ hbB hA3.drew hc1 hc2 hd1 hd2 (by have:=HLn.out;simp only [List.length_append] at this ⊢;omega)).mono ?_)
     rintro _ w4 ⟨rfl,hA4,hb',hk'⟩
     have hB4:Below base w w4:=hB3.trans (Below.undrew hb')
     have hK4:KeepO B w w4:=hK3.trans hk'
     have hWh':=(hk'.2 w.heap.size (by have:w3.drew.heap.size=w3.heap.size:=rfl;have:=hWs;first|omega|(have:=hsz3;omega)) (by omega) (by intro cur;rw [show w3.drew.heap[w.heap.size]? =_ from hWh];simp)).trans (show w3.drew.heap[w.heap.size]? =_ from hWh)
     have hsz4:w.heap.size+1≤w4.heap.size:=by have:=hk'.1;have:w3.drew.heap.size=w3.heap.size:=rfl;first|omega|(have:=hsz3;omega)
     clear hWh hb' hk'
     have hWh:=hWh'
     clear hWh'
     refine ⟨_,rfl,keepAnd ?_ (fun hNew=>?_)⟩
     ·exact zq71
     clear hHeld
     have hHeld:=hNew
     clear hNew
     simp only [aP]
     refine wpAnyH_done (by kernel_rfl) ?_ _
     refine NoPanic.normal ?_
     clear hHeld
     clear hA3 hB3 hK3
     go_wp2_with fail
 go_end0
 first
  |guard_hyp zT6:Tg 4
   refine ⟨rfl,?_,hB2,hK2⟩
   have e:l++((encI S.size++S.data.toList)++(encI n))=l++(encI S.size++S.data.toList)++encI n:=by simp only [List.append_assoc]
  |guard_hyp zT6:Tg 3
   refine ⟨rfl,?_,hB2,hK2⟩
   have e:l++((encI S.size++S.data.toList)++(encI n))=l++(encI S.size++S.data.toList)++encI n:=by simp only [List.append_assoc]
  |guard_hyp zT6:Tg 2
   refine ⟨rfl,?_,hB2,hK2⟩
   have e:l++(encR xs++((encI a++encI b)))=l++encR xs++(encI a++encI b):=by simp only [List.append_assoc]
  |guard_hyp zT6:Tg 1
   refine ⟨rfl,?_,hB3,hK3⟩
   have e:l++((encI S.size++S.data.toList)++(encI n++(flagE b)))=l++(encI S.size++S.data.toList)++encI n++flagE b:=by simp only [List.append_assoc]
  |refine ⟨rfl,?_,hB4,hK4⟩
   have e:l++((encI S.size++S.data.toList)++((encI Q.size++Q.data.toList)++((encI a++encI b)++((encI c++encI d)))))=l++(encI S.size++S.data.toList)++(encI Q.size++Q.data.toList)++(encI a++encI b)++(encI c++encI d):=by simp only [List.append_assoc]
 rw [e]
 first
  |guard_hyp zT6:Tg 4
   exact hA2
  |guard_hyp zT6:Tg 3
   exact hA2
  |guard_hyp zT6:Tg 2
   exact hA2
  |guard_hyp zT6:Tg 1
   exact hA3
  |exact hA4) : P := h ⟨⟩
theorem zq52 {P:Prop} (i:Nat) (h:Tg i→P:=by
 intro zT52
 first
  |guard_hyp zT52:Tg 1
   have K:=bufInt_any base B l 1 w hbB h (by omega) (by omega) hl
  |have K:=bufInt_any base B l 0 w hbB h (by omega) (by omega) hl
 go_enter Tryz.func211,Tryz.ntmps211
 go_wp2_with fail
 (with_reducible refine K.mono ?_)
 rintro _ w1 ⟨rfl,h1⟩
 go_wp2_with fail
 go_end0
 exact ⟨rfl,h1⟩) : P := h ⟨⟩
theorem bufValue_any (base B:Nat) (l:List UInt8) (vk vi:Int) (vs:ByteArray) (w:World) (hbB:base≤B) (h:BufAt w base B l) (i1: -9223372036854775808≤vi) (i2:vi≤9223372036854775807) (hs:vs.size≤3000) (he:(encV ⟨vk,vi,vs⟩).length≤4000) (hl:l.length+4000≤140737488300000):
  Calls Tryz.prog 151 #[.pointer (some ⟨B,0,none⟩),.agg #[.int .i64 vk,.int .i64 vi,.string vs]] w (BufOut base B (l++(encV ⟨vk,vi,vs⟩)) w):=by
 have hBl:=h.lt
 obtain ⟨v,hBB,hO⟩:=h
 have hbase:base≤w.heap.size:=by omega
 have HBB:=hI0 hBB
 have HO:=hI0 hO
 obtain ⟨A0,c0,rfl,y1,y2,y3⟩:=Rd.open_ (Rd.of_own hO)
 have k0:w.cell? ⟨B,0,none⟩=some (.slice A0 l.length c0):=cW0 w B 0 _ _ _ hBB
 clear y3 y2 hBB hO
 have HLE:Hid (l.length+(encV ⟨vk,vi,vs⟩).length≤140737488300000):=hI0 (by omega)
 have hbW:Below w.heap.size w (w.alloc (.cells #[.int .i64 vk,.int .i64 vi,.string vs] 79)):=Below.of_alloc _
 have hWs:w.heap.size≤(w.alloc (.cells #[.int .i64 vk,.int .i64 vi,.string vs] 79)).heap.size:=by simp
 have hWl:B<(w.alloc (.cells #[.int .i64 vk,.int .i64 vi,.string vs] 79)).heap.size:=by simp;omega
 have k1:(w.alloc (.cells #[.int .i64 vk,.int .i64 vi,.string vs] 79)).cell? ⟨B,0,none⟩=some (.slice A0 l.length c0):=(World.cell?_of_block (hbW.block B hBl)).trans k0
 have kp0:(w.alloc (.cells #[.int .i64 vk,.int .i64 vi,.string vs] 79)).cell? ⟨w.heap.size,0,none⟩=some (.int .i64 vk):=box_cell w _ _ 0 rfl
 have kp1:(w.alloc (.cells #[.int .i64 vk,.int .i64 vi,.string vs] 79)).cell? ⟨w.heap.size,1,none⟩=some (.int .i64 vi):=box_cell w _ _ 1 rfl
 have kp2:(w.alloc (.cells #[.int .i64 vk,.int .i64 vi,.string vs] 79)).cell? ⟨w.heap.size,2,none⟩=some (.string vs):=box_cell w _ _ 2 rfl
 go_enter Tryz.func151,Tryz.ntmps151
 go_wp2_with fail
 refine wp_region_noPanic ?_
 refine beginT (S:=(fun w'=>w'.cell? ⟨B,0,none⟩=some (.slice A0 l.length c0)∧w'.cell? ⟨w.heap.size,0,none⟩=some (.int .i64 vk)∧w'.cell? ⟨w.heap.size,1,none⟩=some (.int .i64 vi)∧w'.cell? ⟨w.heap.size,2,none⟩=some (.string vs))) 10 (by kernel_rfl) ?_ (fun hHeld=>?_)
 ·exact ⟨k1,kp0,kp1,kp2⟩
 refine tT 0 4 hHeld ?_
 simp only [aP]
 refine tT 1 5 hHeld ?_
 simp only [aP]
 refine tT 2 6 hHeld ?_
 simp only [aP]
 refine tT 3 7 hHeld ?_
 simp only [aP]
 refine tT 4 8 hHeld ?_
 simp only [aP]
 refine tT 5 9 hHeld ?_
 simp only [aP]
 refine cT 6 10 ?_
 (with_reducible refine (putValue_any (.slice none 0 0) [] ⟨vk,vi,vs⟩ _ i1 i2 (RdB.nil _ _) (by simp;omega)).mono ?_)
 rintro e w2 ⟨vd,rfl,hOd,hb2⟩
 obtain ⟨Ad,cd,rfl,j1,j2,j3⟩:=Rd.open_ hOd.rd
 clear j3 j2
 refine ⟨_,rfl,keepAnd ?_ (fun hNew=>?_)⟩
 ·intro _;exact ⟨(World.cell?_of_block (hb2.block B (by have:=hWl;exact this))).trans k1,(World.cell?_of_block (hb2.block w.heap.size (by simp))).trans kp0,(World.cell?_of_block (hb2.block w.heap.size (by simp))).trans kp1,(World.cell?_of_block (hb2.block w.heap.size (by simp))).trans kp2⟩
 have hNew:=hNew (by decide)
 clear hHeld
 have hHeld:=hNew
 clear hNew
 simp only [aP]
 have hbw2:Below w.heap.size w w2:=hbW.trans ((Below.undrew hb2).mono hWs)
 have hO2:OwnB w2 base (.slice A0 l.length c0) l:=own_below HO.out hbw2
 have hB2:w2.heap[B]? =some (.cells #[.slice A0 l.length c0] 97 (0,0)):=(hbw2.block B hBl).trans HBB.out
 have hP2:w2.heap[w.heap.size]? =some (.cells #[.int .i64 vk,.int .i64 vi,.string vs] 79 (0,0)):=(hb2.block w.heap.size (by simp)).trans (heap_alloc_new w _)
 refine opT 7 rfl (by kernel_rfl) (by rfl) ?_
 refine wp_append_b (.tmp 8) (.tmp 10) rfl base (.slice A0 l.length c0) l rfl hO2 (·<w2.heap.size) _ ((encV ⟨vk,vi,vs⟩)) rfl hOd.rd (by have:=HLE.out;omega) (by have:=hbw2.size;omega) ?_
 intro v' w3 hO3 hb3 hg3 hv3
 have hDone:=buf_done hbB HBB.out HO.out hbw2 hO3 hb3 hg3 hv3
 have hB3:w3.heap[B]? =some (.cells #[.slice A0 l.length c0] 97 (0,0)):=(hg3.block B (by have:=hbw2.size;omega) (own_not hO2 hB2 (by decide))).trans hB2
 have kf:w3.frozen? ⟨B,0,none⟩=false:=fW0 w3 B 0 _ _ hB3
 have kc:w3.cell? ⟨B,0,none⟩=some (.slice A0 l.length c0):=cW0 w3 B 0 _ _ _ hB3
 obtain ⟨A3,c3,rfl,z1,z2,z3⟩:=Rd.open_ (Rd.of_own hO3)
 clear z3 z2
 refine keepAnd ?_ (fun hNew=>?_)
 ·intro _;exact ⟨cW0 _ B 0 _ _ _ hB3,(World.cell?_of_block (hg3.block w.heap.size (by have:=hb2.size;simp at this;omega) (own_not hO2 hP2 (by decide)))).trans ((World.cell?_of_block (hb2.block w.heap.size (by simp))).trans kp0),(World.cell?_of_block (hg3.block w.heap.size (by have:=hb2.size;simp at this;omega) (own_not hO2 hP2 (by decide)))).trans ((World.cell?_of_block (hb2.block w.heap.size (by simp))).trans kp1),(World.cell?_of_block (hg3.block w.heap.size (by have:=hb2.size;simp at this;omega) (own_not hO2 hP2 (by decide)))).trans ((World.cell?_of_block (hb2.block w.heap.size (by simp))).trans kp2)⟩
 have hNew:=hNew (by decide)
 clear hHeld
 have hHeld:=hNew
 clear hNew
 simp only [aP]
 refine runT 8 (some 12) (v:=?_) (w':=_) rfl rfl (by kernel_rfl) (by rfl) ?_ (fun _=>hHeld) ?_
 rotate_left
 ·go_simp<;>with_reducible rfl
 simp only [aP]
 refine tT 9 13 hHeld ?_
 simp only [aP]
 refine skipRunT 10 none (w':=w3.setCell ⟨B,0,none⟩ (.slice A3 (l++(encV ⟨vk,vi,vs⟩)).length c3)) rfl rfl (by kernel_rfl) (by rfl) ?_ (fun h=>absurd rfl h) ?_
 ·go_simp<;>with_reducible rfl
 clear hHeld
 simp only [Act.put]
 refine doneT (by kernel_rfl) ?_ _
 refine NoPanic.normal ?_
 go_wp2_with fail
 go_end0
 exact hDone
def flagE (b:Bool):List UInt8:=encI (if b then 1 else 0)
theorem bufBool_any (base B:Nat) (l:List UInt8) (b:Bool) (w:World) (hbB:base≤B) (h:BufAt w base B l) (hl:l.length+4000≤140737488300000):
  Calls Tryz.prog 211 #[.pointer (some ⟨B,0,none⟩),.bool b] w (BufOut base B (l++flagE b) w):=by
 cases b
 ·exact zq52 0
 ·exact zq52 1
theorem wNum_any (base B:Nat) (l:List UInt8) (n:Int) (w:World) (hbB:base≤B) (h:BufAt w base B l) (hn1: -9223372036854775808≤n) (hn2:n≤9223372036854775807) (hl:l.length+4000≤140737488300000):
  Calls Tryz.prog 153 #[.pointer (some ⟨B,0,none⟩),.int .i64 n] w (BufOut base B (l++encI n) w):=by
 have hBl:=h.lt
 have K:=bufInt_any base B l n w hbB h hn1 hn2 hl
 go_enter Tryz.func153,Tryz.ntmps153
 go_wp2_with fail
 (with_reducible refine K.mono ?_)
 rintro _ w1 ⟨rfl,h1⟩
 go_wp2_with fail
 go_end0
 exact ⟨rfl,h1⟩
theorem wName_any (base B:Nat) (l:List UInt8) (S:ByteArray) (w:World) (hbB:base≤B) (h:BufAt w base B l) (hS:S.size≤300) (hl:l.length+4000≤140737488300000):
  Calls Tryz.prog 54 #[.pointer (some ⟨B,0,none⟩),.string S] w (BufOut base B (l++(encI S.size++S.data.toList)) w):=by
 have hBl:=h.lt
 have K:=bufText_any base B l S w hbB h hS hl
 go_enter Tryz.func54,Tryz.ntmps54
 go_wp2_with fail
 (with_reducible refine K.mono ?_)
 rintro _ w1 ⟨rfl,h1⟩
 go_wp2_with fail
 go_end0
 exact ⟨rfl,h1⟩
theorem wCol_any (base B:Nat) (l:List UInt8) (S:ByteArray) (n:Int) (b:Bool) (w:World) (hbB:base≤B) (h:BufAt w base B l) (hS:S.size≤300) (hn1: -9223372036854775808≤n) (hn2:n≤9223372036854775807) (hl:(l++((encI S.size++S.data.toList)++(encI n++(flagE b)))).length+4000≤140737488300000):
  Calls Tryz.prog 150 #[.pointer (some ⟨B,0,none⟩),.agg #[.string S,.int .i64 n,.bool b]] w (BufOut base B (l++((encI S.size++S.data.toList)++(encI n++(flagE b)))) w):=by
 exact zq6 1
theorem wPol_any (base B:Nat) (l:List UInt8) (S:ByteArray) (n:Int) (w:World) (hbB:base≤B) (h:BufAt w base B l) (hS:S.size≤300) (hn1: -9223372036854775808≤n) (hn2:n≤9223372036854775807) (hl:(l++((encI S.size++S.data.toList)++(encI n))).length+4000≤140737488300000):
  Calls Tryz.prog 56 #[.pointer (some ⟨B,0,none⟩),.agg #[.string S,.int .i64 n]] w (BufOut base B (l++((encI S.size++S.data.toList)++(encI n))) w):=by
 exact zq6 4
theorem wHor_any (base B:Nat) (l:List UInt8) (S:ByteArray) (n:Int) (w:World) (hbB:base≤B) (h:BufAt w base B l) (hS:S.size≤300) (hn1: -9223372036854775808≤n) (hn2:n≤9223372036854775807) (hl:(l++((encI S.size++S.data.toList)++(encI n))).length+4000≤140737488300000):
  Calls Tryz.prog 58 #[.pointer (some ⟨B,0,none⟩),.agg #[.string S,.int .i64 n]] w (BufOut base B (l++((encI S.size++S.data.toList)++(encI n))) w):=by
 exact zq6 3
theorem wHld_any (base B:Nat) (l:List UInt8) (S Q:ByteArray) (a b c d:Int) (w:World) (hbB:base≤B) (h:BufAt w base B l) (hS:S.size≤300) (hQ:Q.size≤300) (ha1: -9223372036854775808≤a) (ha2:a≤9223372036854775807) (hb1: -9223372036854775808≤b) (hb2:b≤9223372036854775807) (hc1: -9223372036854775808≤c) (hc2:c≤9223372036854775807) (hd1: -9223372036854775808≤d) (hd2:d≤9223372036854775807) (hl:(l++((encI S.size++S.data.toList)++((encI Q.size++Q.data.toList)++((encI a++encI b)++((encI c++encI d)))))).length+4000≤140737488300000):
  Calls Tryz.prog 52 #[.pointer (some ⟨B,0,none⟩),.agg #[.string S,.string Q,.int .i64 a,.int .i64 b,.int .i64 c,.int .i64 d]] w (BufOut base B (l++((encI S.size++S.data.toList)++((encI Q.size++Q.data.toList)++((encI a++encI b)++((encI c++encI d)))))) w):=by
 exact zq6 0
end Go.Proofs.YtbfdegkickjbpaaGreat
