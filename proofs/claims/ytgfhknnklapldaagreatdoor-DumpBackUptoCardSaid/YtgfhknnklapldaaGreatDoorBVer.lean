/-
 Ver
-/
import Derived.Test.YtgfhknnklapldaaGreatDoorBCodec
import Derived.Sort.LotA
import Derived.Shelf.SlSortCmp.Insertion
namespace Go.Proofs.YtgfhknnklapldaaGreatDoor
open Go.Proofs.Tryz
set_option maxRecDepth 99999
set_option maxHeartbeats 0
open Go.RowKit Go.Lib Go.IntWalk Go.Sort Go.Shelf
theorem zq0 {P:Prop} (i:Nat) (h:Tg i→P:=by
 intro zT0
 have hBl:=h.lt
 first
  |done
  |guard_hyp zT0:Tg 0;obtain ⟨hle,hput,hrl⟩:=encVer_le hval hx.ok
   have hbd:(1≤x.id∧x.id≤1125899906842624)∧(1≤x.by_∧x.by_≤1125899906842624)∧(0≤x.sch∧x.sch≤64)∧(0≤x.vf∧x.vf<x.vt∧x.vt≤1099511627776)∧(0≤x.sf∧x.sf<x.st∧x.st≤1099511627776)∧(0≤x.un∧x.un≤1125899906842624):=by
    have q:=hval
    unfold validVer in50 in64 num50 validP at q
    simp only [Bool.and_eq_true,decide_eq_true_eq] at q
    obtain ⟨q1,q2,q3,_,⟨⟨q4,q5⟩,q6⟩,⟨⟨q7,q8⟩,q9⟩,q10⟩:=q
    exact ⟨q1,q2,q3,⟨q4,q5,q6⟩,⟨q7,q8,q9⟩,q10⟩
   obtain ⟨x1,x2,xA,xn,xc,x3,x4,x5,x6,x7,x8⟩:=r
   obtain ⟨z1,z2,xs,z3,z4,z5,z6,z7,z8⟩:=x
   obtain ⟨h1,h2,h3,h4,h5,h6,h7,h8,hv,hok⟩:=hx
   simp only at h1 h2 h3 h4 h5 h6 h7 h8 hv hok hbd hput hrl
   subst h1;subst h2;subst h3;subst h4;subst h5;subst h6;subst h7;subst h8
   have HV:=hI0 hv
   have HP:=hI0 hput
   have HBD:=hI0 hbd
  |skip
 have hw0:base≤w.heap.size:=by omega
 first
  |guard_hyp zT0:Tg 3;have HLn:=hI0 hl
   clear hl
   obtain ⟨W,hW⟩:=eN0 (w.alloc (.cells #[.int .i64 op,.int .i64 it,.int .i64 vk,.int .i64 vi,.string vs,.string nm,.slice aA args.length ac] 117))
   have hbW:=bN0 hW
   have hWs:=sN0 hW
   have hWh:=hN0 hW
  |guard_hyp zT0:Tg 2;have HLn:=hI0 hl
   clear hl
   obtain ⟨W,hW⟩:=eN0 (w.alloc (.cells #[.int .i64 tm,.string tb,.string nm,.slice colA cols.length colC,.slice keyA key.length keyC,.slice forA fors.length forC,.slice chkA chks.length chkC,.int .i64 0,.string x2,.string x3,.string x4,.int .i64 x5,.bool x6,.int .i64 x7,.int .i64 x8,.string x9] 79))
   have hbW:=bN0 hW
   have hWs:=sN0 hW
   have hWh:=hN0 hW
  |guard_hyp zT0:Tg 1;have HLn:=hI0 hl
   clear hl
   obtain ⟨W,hW⟩:=eN0 (w.alloc (.cells #[.int .i64 tm,.string tb,.string nm,.slice colA cols.length colC,.slice keyA key.length keyC,.slice forA fors.length forC,.slice chkA chks.length chkC,.int .i64 x1,.string x2,.string x3,.string x4,.int .i64 x5,.bool x6,.int .i64 x7,.int .i64 x8,.string x9] 79))
   have hbW:=bN0 hW
   have hWs:=sN0 hW
   have hWh:=hN0 hW
  |have e1:=encI_length x1;have e2:=encI_length x2;have e3:=encI_length x3;have e4:=encI_length x4;have e5:=encI_length x5;have e6:=encI_length x6;have e7:=encI_length x7;have e8:=encI_length x8
   have HE:=hI0 (And.intro e1 (And.intro e2 (And.intro e3 (And.intro e4 (And.intro e5 (And.intro e6 (And.intro e7 e8)))))))
   have HRL:=hI0 hrl
   have HL:=hI0 hl
   clear hv hput hbd hval hle e1 e2 e3 e4 e5 e6 e7 e8 hrl hl hok
   show Calls prog 56 #[.pointer (some ⟨B,0,none⟩),.agg #[.int .i64 x1,.int .i64 x2,.slice xA xn xc,.int .i64 x3,.int .i64 x4,.int .i64 x5,.int .i64 x6,.int .i64 x7,.int .i64 x8]] w _
   obtain ⟨W,hW⟩:=eN0 (w.alloc (.cells #[.int .i64 x1,.int .i64 x2,.slice xA xn xc,.int .i64 x3,.int .i64 x4,.int .i64 x5,.int .i64 x6,.int .i64 x7,.int .i64 x8] 56))
   have hWs:W.heap.size=w.heap.size+1:=by subst hW;simp
   have hbW:Bl w W:=by subst hW;exact Below.of_alloc _
   have hWh:W.heap[w.heap.size]? =some (.cells #[.int .i64 x1,.int .i64 x2,.slice xA xn xc,.int .i64 x3,.int .i64 x4,.int .i64 x5,.int .i64 x6,.int .i64 x7,.int .i64 x8] 56 (0,0)):=by subst hW;exact heap_alloc_new w _
 have HW:=hI0 hW
 clear hW
 first
  |done
  |guard_hyp zT0:Tg 3;have HAR:=hI0 ha
   have HONE:=hI0 hone
   clear ha hone
  |guard_hyp zT0:Tg 2;have HTW:=hI0 ht
   clear ht
  |skip
 go_in
 go_wp2_with fail
 rw [←HW.out]
 have hA0:BufAt W base B l:=h.below hbW
 have hB0:Below base w W:=hbW.mono hw0
 have hK0:KeepO B w W:=KeepO.of_below hbW
 clear h hbW
 first
  |guard_hyp zT0:Tg 3;refine rR0 [.int .i64 op,.int .i64 it,.int .i64 vk,.int .i64 vi,.string vs,.string nm,.slice aA args.length ac] w.heap.size ?_ (fun zh=>?_)
  |guard_hyp zT0:Tg 2;refine rR0 [.int .i64 tm,.string tb,.string nm,.slice colA cols.length colC,.slice keyA key.length keyC,.slice forA fors.length forC,.slice chkA chks.length chkC,.int .i64 0,.string x2,.string x3,.string x4,.int .i64 x5,.bool x6,.int .i64 x7,.int .i64 x8,.string x9] w.heap.size ?_ (fun zh=>?_)
  |guard_hyp zT0:Tg 1;refine rR0 [.int .i64 tm,.string tb,.string nm,.slice colA cols.length colC,.slice keyA key.length keyC,.slice forA fors.length forC,.slice chkA chks.length chkC,.int .i64 x1,.string x2,.string x3,.string x4,.int .i64 x5,.bool x6,.int .i64 x7,.int .i64 x8,.string x9] w.heap.size ?_ (fun zh=>?_)
  |refine rR0 [.int .i64 x1,.int .i64 x2,.slice xA xn xc,.int .i64 x3,.int .i64 x4,.int .i64 x5,.int .i64 x6,.int .i64 x7,.int .i64 x8] w.heap.size ?_ (fun zh=>?_)
 ·exact zq33
 refine hT 0 4 ?_
 refine hT 1 5 ?_
 refine hT 2 6 ?_
 refine hT 3 7 ?_
 refine hU 4 8 (v:=?_) zh ?_ ?_
 rotate_left
 ·first
   |guard_hyp zT0:Tg 0;intro w' hSw;(try dsimp only at hSw);have q:=hSw 0 _ rfl;go_simp<;>with_reducible rfl
   |intro w' hSw;(try dsimp only at hSw);have q0:=hSw 0 _ rfl;go_simp<;>with_reducible rfl
 refine hC 5 9 ?_
 first
  |guard_hyp zT0:Tg 3;(with_reducible refine (bufInt_any base B (l) op _ hbB hA0.drew hop1 hop2 zi0).mono ?_)
  |guard_hyp zT0:Tg 0;(with_reducible refine (bufInt_any base B (l) x1 _ hbB hA0.drew (by have:=HBD.out;omega) (by have:=HBD.out;omega) zi3).mono ?_)
  |(with_reducible refine (bufInt_any base B (l) tm _ hbB hA0.drew htm1 htm2 zi0).mono ?_)
 rintro _ w1 ⟨rfl,hA1,hb',hk'⟩
 have hB1:Below base w w1:=hB0.trans (Below.undrew hb')
 have hK1:KeepO B w w1:=hK0.trans hk'
 have hWh':=(hk'.2 w.heap.size (by have:W.drew.heap.size=W.heap.size:=rfl;have:=hWs;first|omega|(have:=hsz0;omega)) (by omega) zi1).trans (show W.drew.heap[w.heap.size]? =_ from hWh)
 have hsz1:w.heap.size+1≤w1.heap.size:=by have:=hk'.1;have:W.drew.heap.size=W.heap.size:=rfl;first|omega|(have:=hsz0;omega)
 clear hWh hb' hk'
 have hWh:=hWh'
 clear hWh'
 refine ⟨_,rfl,keepAnd (fun j u hj=>(cW0 _ w.heap.size j _ _ _ hWh).trans (by simpa using hj)) ?_⟩
 clear zh
 intro zh
 simp only [aP]
 refine rD0 ?_
 clear zh
 clear hA0 hB0 hK0
 go_wp2_with fail
 first
  |guard_hyp zT0:Tg 3;refine rR0 [.int .i64 op,.int .i64 it,.int .i64 vk,.int .i64 vi,.string vs,.string nm,.slice aA args.length ac] w.heap.size ?_ (fun zh=>?_)
  |guard_hyp zT0:Tg 2;refine rR0 [.int .i64 tm,.string tb,.string nm,.slice colA cols.length colC,.slice keyA key.length keyC,.slice forA fors.length forC,.slice chkA chks.length chkC,.int .i64 0,.string x2,.string x3,.string x4,.int .i64 x5,.bool x6,.int .i64 x7,.int .i64 x8,.string x9] w.heap.size ?_ (fun zh=>?_)
  |guard_hyp zT0:Tg 1;refine rR0 [.int .i64 tm,.string tb,.string nm,.slice colA cols.length colC,.slice keyA key.length keyC,.slice forA fors.length forC,.slice chkA chks.length chkC,.int .i64 x1,.string x2,.string x3,.string x4,.int .i64 x5,.bool x6,.int .i64 x7,.int .i64 x8,.string x9] w.heap.size ?_ (fun zh=>?_)
  |refine rR0 [.int .i64 x1,.int .i64 x2,.slice xA xn xc,.int .i64 x3,.int .i64 x4,.int .i64 x5,.int .i64 x6,.int .i64 x7,.int .i64 x8] w.heap.size ?_ (fun zh=>?_)
 ·exact zq33
 refine hT 0 10 ?_
 refine hT 1 11 ?_
 refine hT 2 12 ?_
 refine hT 3 13 ?_
 refine hU 4 14 (v:=?_) zh ?_ ?_
 rotate_left
 ·first
   |guard_hyp zT0:Tg 0;intro w' hSw;(try dsimp only at hSw);have q:=hSw 1 _ rfl;go_simp<;>with_reducible rfl
   |intro w' hSw;(try dsimp only at hSw);have q1:=hSw 1 _ rfl;go_simp<;>with_reducible rfl
 refine hC 5 15 ?_
 first
  |guard_hyp zT0:Tg 3;(with_reducible refine (bufInt_any base B (l++encI op) it _ hbB hA1.drew hit1 hit2 zi0).mono ?_)
  |guard_hyp zT0:Tg 0;(with_reducible refine (bufInt_any base B (l++encI x1) x2 _ hbB hA1.drew (by have:=HBD.out;omega) (by have:=HBD.out;omega) zi3).mono ?_)
  |(with_reducible refine (bufText_any base B (l++encI tm) tb _ hbB hA1.drew htb zi0).mono ?_)
 rintro _ w2 ⟨rfl,hA2,hb',hk'⟩
 have hB2:Below base w w2:=hB1.trans (Below.undrew hb')
 have hK2:KeepO B w w2:=hK1.trans hk'
 have hWh':=(hk'.2 w.heap.size (by have:w1.drew.heap.size=w1.heap.size:=rfl;have:=hWs;first|omega|(have:=hsz1;omega)) (by omega) zi2).trans (show w1.drew.heap[w.heap.size]? =_ from hWh)
 have hsz2:w.heap.size+1≤w2.heap.size:=by have:=hk'.1;have:w1.drew.heap.size=w1.heap.size:=rfl;first|omega|(have:=hsz1;omega)
 clear hWh hb' hk'
 have hWh:=hWh'
 clear hWh'
 refine ⟨_,rfl,keepAnd (fun j u hj=>(cW0 _ w.heap.size j _ _ _ hWh).trans (by simpa using hj)) ?_⟩
 clear zh
 intro zh
 simp only [aP]
 refine rD0 ?_
 clear zh
 clear hA1 hB1 hK1
 go_wp2_with fail
 first
  |guard_hyp zT0:Tg 3;refine rR0 [.int .i64 op,.int .i64 it,.int .i64 vk,.int .i64 vi,.string vs,.string nm,.slice aA args.length ac] w.heap.size ?_ (fun zh=>?_)
  |guard_hyp zT0:Tg 2;refine rR0 [.int .i64 tm,.string tb,.string nm,.slice colA cols.length colC,.slice keyA key.length keyC,.slice forA fors.length forC,.slice chkA chks.length chkC,.int .i64 0,.string x2,.string x3,.string x4,.int .i64 x5,.bool x6,.int .i64 x7,.int .i64 x8,.string x9] w.heap.size ?_ (fun zh=>?_)
  |guard_hyp zT0:Tg 1;refine rR0 [.int .i64 tm,.string tb,.string nm,.slice colA cols.length colC,.slice keyA key.length keyC,.slice forA fors.length forC,.slice chkA chks.length chkC,.int .i64 x1,.string x2,.string x3,.string x4,.int .i64 x5,.bool x6,.int .i64 x7,.int .i64 x8,.string x9] w.heap.size ?_ (fun zh=>?_)
  |have HVw:Hid (RdV w2.drew (·<w2.drew.heap.size) (.slice xA xn xc) xs):=hI0 (Rd.wide (Rd.keep HV.out (Keeps.below hB2.drew)) (fun b hb=>by show b<w2.heap.size;have hb':b<base:=hb;have:=hK2.1;omega))
   refine rR0 [.int .i64 x1,.int .i64 x2,.slice xA xn xc,.int .i64 x3,.int .i64 x4,.int .i64 x5,.int .i64 x6,.int .i64 x7,.int .i64 x8] w.heap.size ?_ (fun zh=>?_)
 ·exact zq33
 refine hT 0 16 ?_
 refine hT 1 17 ?_
 refine hT 2 18 ?_
 refine hT 3 19 ?_
 first
  |first|guard_hyp zT0:Tg 0|guard_hyp zT0:Tg 3
   refine hU 4 20 (v:=?_) zh ?_ ?_
  |refine hT 4 20 ?_
   refine hU 5 21 (v:=?_) zh ?_ ?_
 rotate_left
 ·first
   |guard_hyp zT0:Tg 3;intro w' hSw;(try dsimp only at hSw);have q2:=hSw 2 _ rfl;have q3:=hSw 3 _ rfl;have q4:=hSw 4 _ rfl;go_simp<;>with_reducible rfl
   |guard_hyp zT0:Tg 0;intro w' hSw;(try dsimp only at hSw);have q:=hSw 2 _ rfl;go_simp<;>with_reducible rfl
   |intro w' hSw;(try dsimp only at hSw);have q7:=hSw 7 _ rfl;go_simp<;>with_reducible rfl
 first
  |guard_hyp zT0:Tg 3;refine hC 5 21 ?_
   (with_reducible refine (bufValue_any base B (l++encI op++encI it) vk vi vs _ hbB hA2.drew hvi1 hvi2 hvs hvvs zi0).mono ?_)
  |guard_hyp zT0:Tg 2;refine hC 6 22 ?_
   (with_reducible refine (bufInt_any base B (l++encI tm++(encI tb.size++tb.data.toList)) 0 _ hbB hA2.drew (by omega) (by omega) zi0).mono ?_)
  |guard_hyp zT0:Tg 1;refine hC 6 22 ?_
   (with_reducible refine (bufInt_any base B (l++encI tm++(encI tb.size++tb.data.toList)) x1 _ hbB hA2.drew hx11 hx12 zi0).mono ?_)
  |refine hC 5 21 ?_
   (with_reducible refine (bufRow_any base B (l++encI x1++encI x2) _ xs _ hbB hA2.drew (HVw.out) HP.out (by have:=HRL.out;omega) zi3).mono ?_)
 rintro _ w3 ⟨rfl,hA3,hb',hk'⟩
 have hB3:Below base w w3:=hB2.trans (Below.undrew hb')
 have hK3:KeepO B w w3:=hK2.trans hk'
 have hWh':=(hk'.2 w.heap.size (by have:w2.drew.heap.size=w2.heap.size:=rfl;have:=hWs;first|omega|(have:=hsz2;omega)) (by omega) zi6).trans (show w2.drew.heap[w.heap.size]? =_ from hWh)
 have hsz3:w.heap.size+1≤w3.heap.size:=by have:=hk'.1;have:w2.drew.heap.size=w2.heap.size:=rfl;first|omega|(have:=hsz2;omega)
 clear hWh hb' hk'
 have hWh:=hWh'
 clear hWh'
 refine ⟨_,rfl,keepAnd (fun j u hj=>(cW0 _ w.heap.size j _ _ _ hWh).trans (by simpa using hj)) ?_⟩
 clear zh
 intro zh
 simp only [aP]
 refine rD0 ?_
 clear zh
 first
  |guard_hyp zT0:Tg 3;clear hA2 hB2 hK2
  |guard_hyp zT0:Tg 2;clear hA2 hB2 hK2
   have KT:Calls prog 112 #[.pointer (some ⟨B,0,none⟩),.agg #[.string nm,.slice colA cols.length colC,.slice keyA key.length keyC,.slice forA fors.length forC,.slice chkA chks.length chkC]] w3 (BufOut base B (l++encI tm++(encI tb.size++tb.data.toList)++encI 0++encTab ⟨nm,colA,colC,cols,keyA,keyC,key,forA,forC,fors,chkA,chkC,chks⟩) w3):=wTab_x base B (l++encI tm++(encI tb.size++tb.data.toList)++encI 0) ⟨nm,colA,colC,cols,keyA,keyC,key,forA,forC,fors,chkA,chkC,chks⟩ w3 hbB hA3 (HTW.out.keep hB3) zi0
   have q7:=cW1 7 hWh rfl
   have q2:=cW1 2 hWh rfl
   have q3:=cW1 3 hWh rfl
   have q4:=cW1 4 hWh rfl
   have q5:=cW1 5 hWh rfl
   have q6:=cW1 6 hWh rfl
  |guard_hyp zT0:Tg 1;clear hA2 hB2 hK2
   have q7:=cW1 7 hWh rfl
  |clear hA2 hB2 hK2 HVw
 go_wp2_with fail
 first
  |guard_hyp zT0:Tg 3;refine rR0 [.int .i64 op,.int .i64 it,.int .i64 vk,.int .i64 vi,.string vs,.string nm,.slice aA args.length ac] w.heap.size ?_ (fun zh=>?_)
   ·exact zq33
   refine hT 0 22 ?_
   refine hT 1 23 ?_
   refine hT 2 24 ?_
   refine hT 3 25 ?_
   refine hU 4 26 (v:=?_) zh ?_ ?_
   rotate_left
   ·intro w' hSw;(try dsimp only at hSw);have q5:=hSw 5 _ rfl;go_simp<;>with_reducible rfl
   refine hC 5 27 ?_
   (with_reducible refine (bufText_any base B (l++encI op++encI it++encV ⟨vk,vi,vs⟩) nm _ hbB hA3.drew hnm zi0).mono ?_)
  |guard_hyp zT0:Tg 2;(with_reducible refine ((show Calls prog 112 #[.pointer (some ⟨B,0,none⟩),.agg #[.string nm,.slice colA cols.length colC,.slice keyA key.length keyC,.slice forA fors.length forC,.slice chkA chks.length chkC]] w3 (BufOut base B (l++encI tm++(encI tb.size++tb.data.toList)++encI 0++encTab ⟨nm,colA,colC,cols,keyA,keyC,key,forA,forC,fors,chkA,chkC,chks⟩) w3) from KT)).mono ?_)
  |first
    |guard_hyp zT0:Tg 1;refine rR0 [.int .i64 tm,.string tb,.string nm,.slice colA cols.length colC,.slice keyA key.length keyC,.slice forA fors.length forC,.slice chkA chks.length chkC,.int .i64 x1,.string x2,.string x3,.string x4,.int .i64 x5,.bool x6,.int .i64 x7,.int .i64 x8,.string x9] w.heap.size ?_ (fun zh=>?_)
    |refine rR0 [.int .i64 x1,.int .i64 x2,.slice xA xn xc,.int .i64 x3,.int .i64 x4,.int .i64 x5,.int .i64 x6,.int .i64 x7,.int .i64 x8] w.heap.size ?_ (fun zh=>?_)
   ·exact zq33
   first
    |guard_hyp zT0:Tg 1;refine hT 0 31 ?_
     refine hT 1 32 ?_
     refine hT 2 33 ?_
     refine hT 3 34 ?_
     refine hT 4 35 ?_
     refine hU 5 36 (v:=?_) zh ?_ ?_
    |refine hT 0 22 ?_
     refine hT 1 23 ?_
     refine hT 2 24 ?_
     refine hT 3 25 ?_
     refine hU 4 26 (v:=?_) zh ?_ ?_
   rotate_left
   ·first
     |guard_hyp zT0:Tg 1;intro w' hSw;(try dsimp only at hSw);have q8:=hSw 8 _ rfl;go_simp<;>with_reducible rfl
     |intro w' hSw;(try dsimp only at hSw);have q:=hSw 3 _ rfl;have q':=hSw 4 _ rfl;go_simp<;>with_reducible rfl
   first
    |guard_hyp zT0:Tg 1;refine hC 6 37 ?_
     (with_reducible refine (bufText_any base B (l++encI tm++(encI tb.size++tb.data.toList)++encI x1) x2 _ hbB hA3.drew hx2 zi0).mono ?_)
    |refine hC 5 27 ?_
     (with_reducible refine (bufPeriod_any base B (l++encI x1++encI x2++encR xs) x3 x4 _ hbB hA3.drew (by have:=HBD.out;omega) (by have:=HBD.out;omega) (by have:=HBD.out;omega) (by have:=HBD.out;omega) zi3).mono ?_)
 rintro _ w4 ⟨rfl,hA4,hb',hk'⟩
 first
  |guard_hyp zT0:Tg 2;have hB4:Below base w w4:=hB3.trans hb'
  |have hB4:Below base w w4:=hB3.trans (Below.undrew hb')
 have hK4:KeepO B w w4:=hK3.trans hk'
 first
  |guard_hyp zT0:Tg 2;have hWh':=(hk'.2 w.heap.size (by have:w3.drew.heap.size=w3.heap.size:=rfl;have:=hWs;first|omega|(have:=hsz3;omega)) (by omega) (by intro cur;rw [show w3.heap[w.heap.size]? =_ from hWh];simp)).trans (show w3.heap[w.heap.size]? =_ from hWh)
  |have hWh':=(hk'.2 w.heap.size (by have:w3.drew.heap.size=w3.heap.size:=rfl;have:=hWs;first|omega|(have:=hsz3;omega)) (by omega) zi7).trans (show w3.drew.heap[w.heap.size]? =_ from hWh)
 have hsz4:w.heap.size+1≤w4.heap.size:=by have:=hk'.1;have:w3.drew.heap.size=w3.heap.size:=rfl;first|omega|(have:=hsz3;omega)
 clear hWh hb' hk'
 have hWh:=hWh'
 clear hWh'
 first
  |guard_hyp zT0:Tg 2;clear q7 q2 q3 q4 q5 q6
  |refine ⟨_,rfl,keepAnd (fun j u hj=>(cW0 _ w.heap.size j _ _ _ hWh).trans (by simpa using hj)) ?_⟩
   clear zh
   intro zh
   simp only [aP]
   refine rD0 ?_
   clear zh
 clear hA3 hB3 hK3
 first
  |done
  |guard_hyp zT0:Tg 3;have q6:=cW1 6 hWh rfl
  |skip
 go_wp2_with fail
 first
  |done
  |guard_hyp zT0:Tg 3;(with_reducible refine (putExp base B (l++encI op++encI it++encV ⟨vk,vi,vs⟩++(encI nm.size++nm.data.toList)) aA ac args encX _ hbB hA4 (HAR.out.keep (Keeps.below hB4)) (fun x hx V m hA hB hK hlm=>HONE.out x hx V m hA (hB4.trans hB) hlm) zi0).mono ?_)
   rintro _ w5 ⟨rfl,hA5,hb',hk'⟩
   have hB5:Below base w w5:=hB4.trans hb'
   have hK5:KeepO B w w5:=hK4.trans hk'
   have hWh':=(hk'.2 w.heap.size (by have:w4.drew.heap.size=w4.heap.size:=rfl;have:=hWs;first|omega|(have:=hsz4;omega)) (by omega) (by intro cur;rw [show w4.heap[w.heap.size]? =_ from hWh];simp)).trans (show w4.heap[w.heap.size]? =_ from hWh)
   have hsz5:w.heap.size+1≤w5.heap.size:=by have:=hk'.1;have:w4.drew.heap.size=w4.heap.size:=rfl;first|omega|(have:=hsz4;omega)
   clear hWh hb' hk'
   have hWh:=hWh'
   clear hWh'
   clear q6
   clear hA4 hB4 hK4
   go_wp2_with fail
  |guard_hyp zT0:Tg 2
  |first
    |guard_hyp zT0:Tg 1;refine rR0 [.int .i64 tm,.string tb,.string nm,.slice colA cols.length colC,.slice keyA key.length keyC,.slice forA fors.length forC,.slice chkA chks.length chkC,.int .i64 x1,.string x2,.string x3,.string x4,.int .i64 x5,.bool x6,.int .i64 x7,.int .i64 x8,.string x9] w.heap.size ?_ (fun zh=>?_)
    |refine rR0 [.int .i64 x1,.int .i64 x2,.slice xA xn xc,.int .i64 x3,.int .i64 x4,.int .i64 x5,.int .i64 x6,.int .i64 x7,.int .i64 x8] w.heap.size ?_ (fun zh=>?_)
   ·exact zq33
   first
    |guard_hyp zT0:Tg 1;refine hT 0 38 ?_
     refine hT 1 39 ?_
     refine hT 2 40 ?_
     refine hT 3 41 ?_
     refine hT 4 42 ?_
     refine hU 5 43 (v:=?_) zh ?_ ?_
    |refine hT 0 28 ?_
     refine hT 1 29 ?_
     refine hT 2 30 ?_
     refine hT 3 31 ?_
     refine hU 4 32 (v:=?_) zh ?_ ?_
   rotate_left
   ·first
     |guard_hyp zT0:Tg 1;intro w' hSw;(try dsimp only at hSw);have q9:=hSw 9 _ rfl;go_simp<;>with_reducible rfl
     |intro w' hSw;(try dsimp only at hSw);have q:=hSw 5 _ rfl;have q':=hSw 6 _ rfl;go_simp<;>with_reducible rfl
   first
    |guard_hyp zT0:Tg 1;refine hC 6 44 ?_
     (with_reducible refine (bufText_any base B (l++encI tm++(encI tb.size++tb.data.toList)++encI x1++(encI x2.size++x2.data.toList)) x3 _ hbB hA4.drew hx3 zi0).mono ?_)
    |refine hC 5 33 ?_
     (with_reducible refine (bufPeriod_any base B (l++encI x1++encI x2++encR xs++(encI x3++encI x4)) x5 x6 _ hbB hA4.drew (by have:=HBD.out;omega) (by have:=HBD.out;omega) (by have:=HBD.out;omega) (by have:=HBD.out;omega) zi3).mono ?_)
   rintro _ w5 ⟨rfl,hA5,hb',hk'⟩
   have hB5:Below base w w5:=hB4.trans (Below.undrew hb')
   have hK5:KeepO B w w5:=hK4.trans hk'
   have hWh':=(hk'.2 w.heap.size (by have:w4.drew.heap.size=w4.heap.size:=rfl;have:=hWs;first|omega|(have:=hsz4;omega)) (by omega) zi13).trans (show w4.drew.heap[w.heap.size]? =_ from hWh)
   have hsz5:w.heap.size+1≤w5.heap.size:=by have:=hk'.1;have:w4.drew.heap.size=w4.heap.size:=rfl;first|omega|(have:=hsz4;omega)
   clear hWh hb' hk'
   have hWh:=hWh'
   clear hWh'
   refine ⟨_,rfl,keepAnd (fun j u hj=>(cW0 _ w.heap.size j _ _ _ hWh).trans (by simpa using hj)) ?_⟩
   clear zh
   intro zh
   simp only [aP]
   refine rD0 ?_
   clear zh
   clear hA4 hB4 hK4
   first
    |done
    |guard_hyp zT0:Tg 1;have q10:=cW1 10 hWh rfl
     have q11:=cW1 11 hWh rfl
     have q12:=cW1 12 hWh rfl
    |skip
   go_wp2_with fail
   first
    |guard_hyp zT0:Tg 1;(with_reducible refine (wCol_any base B (l++encI tm++(encI tb.size++tb.data.toList)++encI x1++(encI x2.size++x2.data.toList)++(encI x3.size++x3.data.toList)) x4 x5 x6 _ hbB hA5 hx4 hx51 hx52 zi0).mono ?_)
    |refine rR0 [.int .i64 x1,.int .i64 x2,.slice xA xn xc,.int .i64 x3,.int .i64 x4,.int .i64 x5,.int .i64 x6,.int .i64 x7,.int .i64 x8] w.heap.size ?_ (fun zh=>?_)
     ·exact zq33
     refine hT 0 34 ?_
     refine hT 1 35 ?_
     refine hT 2 36 ?_
     refine hT 3 37 ?_
     refine hU 4 38 (v:=?_) zh ?_ ?_
     rotate_left
     ·intro w' hSw;(try dsimp only at hSw);have q:=hSw 7 _ rfl;go_simp<;>with_reducible rfl
     refine hC 5 39 ?_
     (with_reducible refine (bufInt_any base B (l++encI x1++encI x2++encR xs++(encI x3++encI x4)++(encI x5++encI x6)) x7 _ hbB hA5.drew (by have:=HBD.out;omega) (by have:=HBD.out;omega) zi3).mono ?_)
   rintro _ w6 ⟨rfl,hA6,hb',hk'⟩
   first
    |guard_hyp zT0:Tg 1;have hB6:Below base w w6:=hB5.trans hb'
    |have hB6:Below base w w6:=hB5.trans (Below.undrew hb')
   have hK6:KeepO B w w6:=hK5.trans hk'
   first
    |guard_hyp zT0:Tg 1;have hWh':=(hk'.2 w.heap.size (by have:w5.drew.heap.size=w5.heap.size:=rfl;have:=hWs;first|omega|(have:=hsz5;omega)) (by omega) (by intro cur;rw [show w5.heap[w.heap.size]? =_ from hWh];simp)).trans (show w5.heap[w.heap.size]? =_ from hWh)
    |have hWh':=(hk'.2 w.heap.size (by have:w5.drew.heap.size=w5.heap.size:=rfl;have:=hWs;first|omega|(have:=hsz5;omega)) (by omega) (by intro cur;rw [show w5.drew.heap[w.heap.size]? =_ from hWh];simp)).trans (show w5.drew.heap[w.heap.size]? =_ from hWh)
   have hsz6:w.heap.size+1≤w6.heap.size:=by have:=hk'.1;have:w5.drew.heap.size=w5.heap.size:=rfl;first|omega|(have:=hsz5;omega)
   clear hWh hb' hk'
   have hWh:=hWh'
   clear hWh'
   first
    |guard_hyp zT0:Tg 1;clear q10 q11 q12
    |refine ⟨_,rfl,keepAnd (fun j u hj=>(cW0 _ w.heap.size j _ _ _ hWh).trans (by simpa using hj)) ?_⟩
     clear zh
     intro zh
     simp only [aP]
     refine rD0 ?_
     clear zh
   clear hA5 hB5 hK5
   go_wp2_with fail
   first
    |guard_hyp zT0:Tg 1;refine rR0 [.int .i64 tm,.string tb,.string nm,.slice colA cols.length colC,.slice keyA key.length keyC,.slice forA fors.length forC,.slice chkA chks.length chkC,.int .i64 x1,.string x2,.string x3,.string x4,.int .i64 x5,.bool x6,.int .i64 x7,.int .i64 x8,.string x9] w.heap.size ?_ (fun zh=>?_)
    |refine rR0 [.int .i64 x1,.int .i64 x2,.slice xA xn xc,.int .i64 x3,.int .i64 x4,.int .i64 x5,.int .i64 x6,.int .i64 x7,.int .i64 x8] w.heap.size ?_ (fun zh=>?_)
   ·exact zq33
   first
    |guard_hyp zT0:Tg 1;refine hT 0 50 ?_
     refine hT 1 51 ?_
     refine hT 2 52 ?_
     refine hT 3 53 ?_
     refine hT 4 54 ?_
     refine hU 5 55 (v:=?_) zh ?_ ?_
    |refine hT 0 40 ?_
     refine hT 1 41 ?_
     refine hT 2 42 ?_
     refine hT 3 43 ?_
     refine hU 4 44 (v:=?_) zh ?_ ?_
   rotate_left
   ·first
     |guard_hyp zT0:Tg 1;intro w' hSw;(try dsimp only at hSw);have q13:=hSw 13 _ rfl;have q14:=hSw 14 _ rfl;have q15:=hSw 15 _ rfl;go_simp<;>with_reducible rfl
     |intro w' hSw;(try dsimp only at hSw);have q:=hSw 8 _ rfl;go_simp<;>with_reducible rfl
   first
    |guard_hyp zT0:Tg 1;refine hC 6 56 ?_
     (with_reducible refine (bufValue_any base B (l++encI tm++(encI tb.size++tb.data.toList)++encI x1++(encI x2.size++x2.data.toList)++(encI x3.size++x3.data.toList)++((encI x4.size++x4.data.toList)++(encI x5++flagE x6))) x7 x8 x9 _ hbB hA6.drew hx81 hx82 hx9 hvx9 zi0).mono ?_)
    |refine hC 5 45 ?_
     (with_reducible refine (bufInt_any base B (l++encI x1++encI x2++encR xs++(encI x3++encI x4)++(encI x5++encI x6)++encI x7) x8 _ hbB hA6.drew (by have:=HBD.out;omega) (by have:=HBD.out;omega) zi3).mono ?_)
   rintro _ w7 ⟨rfl,hA7,hb',hk'⟩
   have hB7:Below base w w7:=hB6.trans (Below.undrew hb')
   have hK7:KeepO B w w7:=hK6.trans hk'
   have hWh':=(hk'.2 w.heap.size (by have:w6.drew.heap.size=w6.heap.size:=rfl;have:=hWs;first|omega|(have:=hsz6;omega)) (by omega) zi14).trans (show w6.drew.heap[w.heap.size]? =_ from hWh)
   have hsz7:w.heap.size+1≤w7.heap.size:=by have:=hk'.1;have:w6.drew.heap.size=w6.heap.size:=rfl;first|omega|(have:=hsz6;omega)
   clear hWh hb' hk'
   have hWh:=hWh'
   clear hWh'
   refine ⟨_,rfl,keepAnd (fun j u hj=>(cW0 _ w.heap.size j _ _ _ hWh).trans (by simpa using hj)) ?_⟩
   clear zh
   intro zh
   simp only [aP]
   refine rD0 ?_
   clear zh
   clear hA6 hB6 hK6
   go_wp2_with fail
 go_end0
 first
  |guard_hyp zT0:Tg 3;refine ⟨rfl,?_,hB5,hK5⟩
   have e:l++(encI op++(encI it++(encV ⟨vk,vi,vs⟩++((encI nm.size++nm.data.toList)++((encI args.length++args.flatMap encX))))))=l++encI op++encI it++encV ⟨vk,vi,vs⟩++(encI nm.size++nm.data.toList)++(encI args.length++args.flatMap encX):=by simp only [List.append_assoc]
  |guard_hyp zT0:Tg 2;refine ⟨rfl,?_,hB4,hK4⟩
   have e:l++(encI tm++((encI tb.size++tb.data.toList)++(encI 0++(encTab ⟨nm,colA,colC,cols,keyA,keyC,key,forA,forC,fors,chkA,chkC,chks⟩))))=l++encI tm++(encI tb.size++tb.data.toList)++encI 0++encTab ⟨nm,colA,colC,cols,keyA,keyC,key,forA,forC,fors,chkA,chkC,chks⟩:=by simp only [List.append_assoc]
  |refine ⟨rfl,?_,hB7,hK7⟩
   first
    |guard_hyp zT0:Tg 1;have e:l++(encI tm++((encI tb.size++tb.data.toList)++(encI x1++((encI x2.size++x2.data.toList)++((encI x3.size++x3.data.toList)++(((encI x4.size++x4.data.toList)++(encI x5++flagE x6))++(encV ⟨x7,x8,x9⟩)))))))=l++encI tm++(encI tb.size++tb.data.toList)++encI x1++(encI x2.size++x2.data.toList)++(encI x3.size++x3.data.toList)++((encI x4.size++x4.data.toList)++(encI x5++flagE x6))++encV ⟨x7,x8,x9⟩:=by simp only [List.append_assoc]
    |have e:l++encVer ⟨x1,x2,xs,x3,x4,x5,x6,x7,x8⟩=l++encI x1++encI x2++encR xs++(encI x3++encI x4)++(encI x5++encI x6)++encI x7++encI x8:=by simp [encVer]
 rw [e]
 first
  |guard_hyp zT0:Tg 3;exact hA5
  |guard_hyp zT0:Tg 2;exact hA4
  |exact hA7) : P := h ⟨⟩
theorem zq4 {P:Prop} (i:Nat) (h:Tg i→P:=by
 intro zT4
 have hBl:=h.lt
 obtain ⟨v,hBB,hO⟩:=h
 have hbase:base≤w.heap.size:=by omega
 have HBB:=hI0 hBB
 have HO:=hI0 hO
 obtain ⟨A0,c0,rfl,y1,y2,y3⟩:=Rd.open_ (Rd.of_own hO)
 have k0:=cW1 0 hBB rfl
 clear y3 y2 hBB hO
 first
  |guard_hyp zT4:Tg 3;have HLE:Hid (l.length+(encI n).length≤140737488300000):=hI0 (by have:=encI_length n;omega)
   have hbW:Bl w w:=Below.refl _ _
   have hWs:w.heap.size≤w.heap.size:=Nat.le_refl _
   have hWl:B<w.heap.size:=hBl
   have k1:=k0
  |guard_hyp zT4:Tg 2;have HLE:Hid (l.length+(encR xs).length≤140737488300000∧(encR xs).length≤4000):=hI0 ⟨by omega,hr⟩
   have hbW:Bl w w:=Below.refl _ _
   have hWs:w.heap.size≤w.heap.size:=Nat.le_refl _
   have hWl:B<w.heap.size:=hBl
   have k1:=k0
  |guard_hyp zT4:Tg 1;have HLE:Hid (l.length+((encI S.size++S.data.toList)).length≤140737488300000):=hI0 (by have:=encI_length S.size;rw [List.length_append,show S.data.toList.length=S.size from rfl];omega)
   have hbW:Bl w w:=Below.refl _ _
   have hWs:w.heap.size≤w.heap.size:=Nat.le_refl _
   have hWl:B<w.heap.size:=hBl
   have k1:=k0
  |have HLE:Hid (l.length+(encI f++encI t).length≤140737488300000):=hI0 (by have:=encI_length f;have:=encI_length t;simp only [List.length_append];omega)
   have hbW:Bl w (w.alloc (.cells #[.int .i64 f,.int .i64 t] 54)):=Below.of_alloc _
   have hWs:w.heap.size≤(w.alloc (.cells #[.int .i64 f,.int .i64 t] 54)).heap.size:=by simp
   have hWl:B<(w.alloc (.cells #[.int .i64 f,.int .i64 t] 54)).heap.size:=by simp;omega
   have k1:(w.alloc (.cells #[.int .i64 f,.int .i64 t] 54)).cell? ⟨B,0,none⟩=some (.slice A0 l.length c0):=(World.cell?_of_block (hbW.block B hBl)).trans k0
   have kp0:(w.alloc (.cells #[.int .i64 f,.int .i64 t] 54)).cell? ⟨w.heap.size,0,none⟩=some (.int .i64 f):=box_cell w _ _ 0 rfl
   have kp1:(w.alloc (.cells #[.int .i64 f,.int .i64 t] 54)).cell? ⟨w.heap.size,1,none⟩=some (.int .i64 t):=box_cell w _ _ 1 rfl
 go_in
 go_wp2_with fail
 refine wp_region_noPanic ?_
 first
  |guard_hyp zT4:Tg 0;refine beginT (S:=(fun w'=>w'.cell? ⟨B,0,none⟩=some (.slice A0 l.length c0)∧w'.cell? ⟨w.heap.size,0,none⟩=some (.int .i64 f)∧w'.cell? ⟨w.heap.size,1,none⟩=some (.int .i64 t))) 10 (by kernel_rfl) ?_ (fun zh=>?_)
  |refine beginT (S:=(fun w'=>w'.cell? ⟨B,0,none⟩=some (.slice A0 l.length c0))) 10 (by kernel_rfl) ?_ (fun zh=>?_)
 ·first
   |guard_hyp zT4:Tg 0;exact ⟨k1,kp0,kp1⟩
   |exact k1
 refine tT 0 4 ?_
 refine tT 1 5 ?_
 refine tT 2 6 ?_
 refine tT 3 7 ?_
 refine tT 4 8 ?_
 refine tT 5 9 ?_
 refine cT 6 10 ?_
 first
  |guard_hyp zT4:Tg 3;(with_reducible refine (putInt_any (.slice none 0 0) [] n _ h1 h2 (RdB.nil _ _) (by simp)).mono ?_)
  |guard_hyp zT4:Tg 2;(with_reducible refine (putRow_any (.slice none 0 0) u [] xs _ (RdB.nil _ _) (RdV.below hu (Below.refl _ _).drew) hok (by have:=HLE.out;simp;omega)).mono ?_)
  |guard_hyp zT4:Tg 1;(with_reducible refine (putText_any (.slice none 0 0) [] S _ (RdB.nil _ _) (by simp;omega)).mono ?_)
  |(with_reducible refine (putPeriod_any (.slice none 0 0) [] f t _ f1 f2 t1 t2 (RdB.nil _ _) (by simp)).mono ?_)
 rintro e w2 ⟨vd,rfl,hOd,hb2⟩
 obtain ⟨Ad,cd,rfl,j1,j2,j3⟩:=Rd.open_ hOd.rd
 clear j3 j2
 refine ⟨_,rfl,keepAnd ?_ (fun hNew=>?_)⟩
 ·first
   |guard_hyp zT4:Tg 0;intro _;exact ⟨(World.cell?_of_block (hb2.block B (by have:=hWl;exact this))).trans k1,(World.cell?_of_block (hb2.block w.heap.size (by simp))).trans kp0,(World.cell?_of_block (hb2.block w.heap.size (by simp))).trans kp1⟩
   |intro _;exact (World.cell?_of_block (hb2.block B (by have:=hWl;exact this))).trans k1
 have hNew:=hNew (by decide)
 clear zh
 have zh:=hNew
 clear hNew
 simp only [aP]
 have hbw2:Bl w w2:=hbW.trans ((Below.undrew hb2).mono hWs)
 have hO2:OwnB w2 base (.slice A0 l.length c0) l:=own_below HO.out hbw2
 have hB2:w2.heap[B]? =some (.cells #[.slice A0 l.length c0] 123 (0,0)):=(hbw2.block B hBl).trans HBB.out
 first
  |done
  |guard_hyp zT4:Tg 0;have hP2:w2.heap[w.heap.size]? =some (.cells #[.int .i64 f,.int .i64 t] 54 (0,0)):=(hb2.block w.heap.size (by simp)).trans (heap_alloc_new w _)
  |skip
 refine opT 7 rfl (by kernel_rfl) (by rfl) ?_
 first
  |guard_hyp zT4:Tg 3;refine wp_append_b (.tmp 8) (.tmp 10) rfl base (.slice A0 l.length c0) l rfl hO2 (ltw w2) _ (encI n) rfl hOd.rd (by have:=HLE.out;omega) (by have:=hbw2.size;omega) ?_
  |guard_hyp zT4:Tg 2;refine wp_append_b (.tmp 8) (.tmp 10) rfl base (.slice A0 l.length c0) l rfl hO2 (ltw w2) _ (encR xs) rfl hOd.rd (by have:=HLE.out;omega) (by have:=hbw2.size;omega) ?_
  |guard_hyp zT4:Tg 1;refine wp_append_b (.tmp 8) (.tmp 10) rfl base (.slice A0 l.length c0) l rfl hO2 (ltw w2) _ ((encI S.size++S.data.toList)) rfl hOd.rd (by have:=HLE.out;omega) (by have:=hbw2.size;omega) ?_
  |refine wp_append_b (.tmp 8) (.tmp 10) rfl base (.slice A0 l.length c0) l rfl hO2 (ltw w2) _ ((encI f++encI t)) rfl hOd.rd (by have:=HLE.out;omega) (by have:=hbw2.size;omega) ?_
 intro v' w3 hO3 hb3 hg3 hv3
 have hDone:=buf_done hbB HBB.out HO.out hbw2 hO3 hb3 hg3 hv3
 have hB3:w3.heap[B]? =some (.cells #[.slice A0 l.length c0] 123 (0,0)):=(hg3.block B (by have:=hbw2.size;omega) (own_not hO2 hB2 (by decide))).trans hB2
 have kf:=fW0 w3 B 0 _ _ hB3
 have kc:=cW1 0 hB3 rfl
 obtain ⟨A3,c3,rfl,z1,z2,z3⟩:=Rd.open_ (Rd.of_own hO3)
 clear z3 z2
 first
  |guard_hyp zT4:Tg 0;refine keepAnd ?_ (fun hNew=>?_)
   ·intro _;exact ⟨cW0 _ B 0 _ _ _ hB3,(World.cell?_of_block (hg3.block w.heap.size zi10 (own_not hO2 hP2 (by decide)))).trans ((World.cell?_of_block (hb2.block w.heap.size (by simp))).trans kp0),(World.cell?_of_block (hg3.block w.heap.size zi10 (own_not hO2 hP2 (by decide)))).trans ((World.cell?_of_block (hb2.block w.heap.size (by simp))).trans kp1)⟩
   have hNew:=hNew (by decide)
  |refine rA0 (cW0 _ B 0 _ _ _ hB3) ?_
 clear zh
 first
  |guard_hyp zT4:Tg 0;have zh:=hNew
   clear hNew
  |intro zh
 simp only [aP]
 refine runT 8 (some 12) (v:=?_) (w':=_) rfl rfl (by kernel_rfl) (by rfl) ?_ (fun _=>zh) ?_
 rotate_left
 ·go_simp<;>with_reducible rfl
 simp only [aP]
 refine tT 9 13 ?_
 first
  |guard_hyp zT4:Tg 3;refine skipRunT 10 none (w':=w3.setCell ⟨B,0,none⟩ (.slice A3 (l++encI n).length c3)) rfl rfl (by kernel_rfl) (by rfl) ?_ (fun h=>absurd rfl h) ?_
  |guard_hyp zT4:Tg 2;refine skipRunT 10 none (w':=w3.setCell ⟨B,0,none⟩ (.slice A3 (l++encR xs).length c3)) rfl rfl (by kernel_rfl) (by rfl) ?_ (fun h=>absurd rfl h) ?_
  |guard_hyp zT4:Tg 1;refine skipRunT 10 none (w':=w3.setCell ⟨B,0,none⟩ (.slice A3 (l++(encI S.size++S.data.toList)).length c3)) rfl rfl (by kernel_rfl) (by rfl) ?_ (fun h=>absurd rfl h) ?_
  |refine skipRunT 10 none (w':=w3.setCell ⟨B,0,none⟩ (.slice A3 (l++(encI f++encI t)).length c3)) rfl rfl (by kernel_rfl) (by rfl) ?_ (fun h=>absurd rfl h) ?_
 ·go_simp<;>with_reducible rfl
 clear zh
 simp only [Act.put]
 refine doneT (by kernel_rfl) ?_ _
 refine NoPanic.normal ?_
 go_wp2_with fail
 go_end0
 exact hDone) : P := h ⟨⟩
theorem zq29 {P:Prop} (h:P:=by
 go_wp2_with fail
 all_goals go_ret
 all_goals exact ⟨ret_bool (by first|(simp;done)|(simp;intros;omega)),hbW.trans (hB.mono (by omega))⟩) : P := h
theorem zq33 {P:Prop} (h:P:=by
 exact fun j u hj=>(cW0 _ w.heap.size j _ _ _ hWh).trans (by simpa using hj)) : P := h
theorem zi1 {P:Prop} (h:P:=by intro cur;rw [show W.drew.heap[w.heap.size]? =_ from hWh];simp):P:=h
theorem zi2 {P:Prop} (h:P:=by intro cur;rw [show w1.drew.heap[w.heap.size]? =_ from hWh];simp):P:=h
theorem zi3 {P:Prop} (h:P:=by have:=HL.out;have:=HE.out;have:=HRL.out;(try simp only [List.length_append]);omega):P:=h
theorem zi5 {P:Prop} (h:P:=by rw [HSN.out,←List.append_assoc];exact hA2):P:=h
theorem zi6 {P:Prop} (h:P:=by intro cur;rw [show w2.drew.heap[w.heap.size]? =_ from hWh];simp):P:=h
theorem zi7 {P:Prop} (h:P:=by intro cur;rw [show w3.drew.heap[w.heap.size]? =_ from hWh];simp):P:=h
theorem zi10 {P:Prop} (h:P:=by have:=hb2.size;simp at this;omega):P:=h
theorem zi13 {P:Prop} (h:P:=by intro cur;rw [show w4.drew.heap[w.heap.size]? =_ from hWh];simp):P:=h
theorem zi14 {P:Prop} (h:P:=by intro cur;rw [show w6.drew.heap[w.heap.size]? =_ from hWh];simp):P:=h
section
open Go.RowKit Go.Lib
variable {P:Program} {ops:Array Oper} {Q:Exit→Act→World→Prop} {md:Region.Mode} {S:World→Prop} {fuel:Nat} {listed:Array Bool} {a:Act} {w:World}
theorem rB0 {id:Nat} (X:World) (h:Bl X X.drew→wpAnyH P .any ops (NoPanic Q) (fun w'=>Bl X w') ops.size (Array.replicate ops.size false) a X.drew) (hm:P.follows .mixedOrders=true:=by kernel_rfl):(Code.region id ops true).wp P Q a X:=
  wp_region_noPanic (wp_region_held_drew (S:=fun w'=>Bl X w') hm (Below.refl _ _).drew h)
theorem rR0 {id:Nat} (cs:List Value) (T:Nat) (h0:∀j u,cs[j]? =some u→w.drew.cell? ⟨T,j,none⟩=some u) (h:(∀j u,cs[j]? =some u→w.drew.cell? ⟨T,j,none⟩=some u)→wpAnyH P .any ops (NoPanic Q) (fun w'=>∀j u,cs[j]? =some u→w'.cell? ⟨T,j,none⟩=some u) ops.size (Array.replicate ops.size false) a w.drew) (hm:P.follows .mixedOrders=true:=by kernel_rfl):(Code.region id ops true).wp P Q a w:=
  wp_region_noPanic (wp_region_held_drew (S:=fun w'=>∀j u,cs[j]? =some u→w'.cell? ⟨T,j,none⟩=some u) hm h0 h)
theorem rD0 (h:Q .normal a w) (hr:Region.ready md ops listed=[]:=by kernel_rfl):wpAnyH P md ops (NoPanic Q) S fuel listed a w:=
  wpAnyH_done hr (NoPanic.normal h) _
theorem rA0 {r q p:Prop} (hk:q) (h:q→p):(r→q)∧p:=⟨fun _=>hk,h hk⟩
end
structure RV where
 id:Int
 sch:Int
 rA:Option Addr
 rn:Nat
 rc:Nat
 vf:Int
 vt:Int
 sf:Int
 st:Int
 by_:Int
 un:Int
deriving Inhabited
def RV.enc (x:RV):List Value:=[.int .i64 x.id,.int .i64 x.sch,.slice x.rA x.rn x.rc,.int .i64 x.vf,.int .i64 x.vt,.int .i64 x.sf,.int .i64 x.st,.int .i64 x.by_,.int .i64 x.un]
theorem RV.enc_length (x:RV):x.enc.length=9:=rfl
def cmpI (a b:Int):Int:=if a<b then -1 else if b<a then 1 else 0
def or3 (a b c:Int):Int:=if a≠0 then a else if b≠0 then b else c
def cmpV (x y:RV):Int:=or3 (cmpI x.id y.id) (cmpI x.sf y.sf) (cmpI x.vf y.vf)
def lexV (x y:RV):Prop:=x.id<y.id∨(x.id=y.id∧(x.sf<y.sf∨(x.sf=y.sf∧x.vf<y.vf)))
theorem cmpV_neg (x y:RV):cmpV x y<0↔lexV x y:=by
 unfold cmpV or3 cmpI lexV
 constructor
 ·intro h;split at h<;>repeat (first|omega|split at h)
 ·intro h;repeat (first|omega|split)
theorem ltOf_cmpV (x y:RV):ltOf cmpV x y=true↔lexV x y:=by rw [ltOf,decide_eq_true_eq,cmpV_neg]
theorem boxCell {w:World} {cs:List Value} {e:TypeId} {W w':World} (hW:Below (w.heap.size+1) (w.alloc (.cells cs.toArray e)) W) (hWs:w.heap.size<W.heap.size) (h:Bl W w') (j:Nat) (u:Value) (hj:cs[j]? =some u):w'.cell? ⟨w.heap.size,j,none⟩=some u:=by
 have h1:W.cell? ⟨w.heap.size,j,none⟩=(w.alloc (.cells cs.toArray e)).cell? ⟨w.heap.size,j,none⟩:=World.cell?_of_block (hW.block _ (by simp))
 have h2:w'.cell? ⟨w.heap.size,j,none⟩=W.cell? ⟨w.heap.size,j,none⟩:=World.cell?_of_block (h.block _ hWs)
 rw [h2,h1]
 exact box_cell w _ _ j (by simpa using hj)
structure Ver where
 id:Int
 sch:Int
 row:List Val
 vf:Int
 vt:Int
 sf:Int
 st:Int
 by_:Int
 un:Int
deriving Inhabited
def validRowF (xs:List Val):Bool:=xs.all validV&&decide (xs.length≤12)
def num50 (n:Int):Bool:=decide (0≤n∧n≤1125899906842624)
def in50 (n:Int):Bool:=decide (1≤n∧n≤1125899906842624)
def in64 (n:Int):Bool:=decide (0≤n∧n≤64)
def validVer (x:Ver):Bool:=in50 x.id&&(in50 x.by_&&(in64 x.sch&&(validRowF x.row&&(validP x.vf x.vt&&(validP x.sf x.st&&num50 x.un)))))
structure VerIs (w:World) (F:Nat→Prop) (r:RV) (x:Ver):Prop where
 id:r.id=x.id
 sch:r.sch=x.sch
 vf:r.vf=x.vf
 vt:r.vt=x.vt
 sf:r.sf=x.sf
 st:r.st=x.st
 by_:r.by_=x.by_
 un:r.un=x.un
 row:RdV w F (.slice r.rA r.rn r.rc) x.row
 ok:∀v∈x.row,goV v
theorem VerIs.keep {w w':World} {F:Nat→Prop} {r:RV} {x:Ver} (h:VerIs w F r x) (hk:Keeps F w w'):VerIs w' F r x:=⟨h.id,h.sch,h.vf,h.vt,h.sf,h.st,h.by_,h.un,Rd.keep h.row hk,h.ok⟩
theorem VerIs.wide {w:World} {F G:Nat→Prop} {r:RV} {x:Ver} (h:VerIs w F r x) (hk:∀b,F b→G b):VerIs w G r x:=⟨h.id,h.sch,h.vf,h.vt,h.sf,h.st,h.by_,h.un,Rd.wide h.row hk,h.ok⟩
theorem within_any (n a b:Int) (w:World):Calls prog 105 #[.int .i64 n,.int .i64 a,.int .i64 b] w fun e w'=>e=.returned (.bool (decide (a≤n∧n≤b)))∧w'=w:=by
 go_in
 go_wp2
 all_goals
  go_ret
  refine ⟨ret_bool (by first|(symm;rw [decide_eq_false_iff_not];omega)|(symm;rw [decide_eq_true_eq];omega)|(rw [Bool.eq_iff_iff];simp;omega)),rfl⟩
theorem inv1_any (k i:Int) (s:ByteArray) (w:World) (hs:s.size≤maxLen):
  Calls prog 217 #[.agg #[.int .i64 k,.int .i64 i,.string s]] w fun e w'=>e=.returned (.bool (!validV ⟨k,i,s⟩))∧Bl w w':=by
 go_in
 go_wp2_with fail
 (with_reducible refine (validValue_any k i s _ hs).mono ?_)
 rintro _ _ ⟨rfl,rfl⟩
 go_wp2_with fail
 go_ret
 exact ⟨rfl,(Below.of_alloc _).alloc (by simp) _⟩
theorem index_any (v:Value) (xs:List Val) (w:World) (hv:RdV w (ltw w) v xs) (hok:∀x∈xs,goV x):
  Calls prog 230 #[v,.func (.func 217) #[] #[]] w fun e w'=>∃m:Int,e=.returned (.int .i64 m)∧(decide (0≤m))=(!xs.all validV)∧Bl w w':=by
 obtain ⟨A,c,rfl,hc1,hc2,hc3⟩:=hv.open_
 unfold maxLen at hc2
 have HO:=hI0 hok
 clear hok
 go_in
 go_wp2_with fail
 go_loopw [8] (fun i wr=>AllRel w xs i wr) (fun i _=>xs.length-(intOf i).toNat)
 case atStart=>exact ⟨0,Nat.zero_le _,rfl,rfl,Below.refl _ _⟩
 obtain ⟨k,hk,rfl,hall,hB⟩:=hrel
 obtain ⟨wo,rfl⟩:=eN0 wr
 have HA:=hI0 hall
 clear hall
 have hsz:=hB.size
 by_cases hlt:k<xs.length
 ·obtain ⟨bb,off,rfl,hF,g0,g1,g2⟩:=RdV.at_ (Rd.below hv hB) hlt
  have hx:=HO.out xs[k] (List.getElem_mem hlt)
  have hs:=all_snoc hlt
  have hn:=all_no hlt
  generalize xs[k]=x at *
  obtain ⟨kd,n,s⟩:=x
  obtain ⟨_,_,x3⟩:=hx
  simp only at g0 g1 g2 x3
  have HS:=hI0 hs
  have HN:=hI0 hn
  clear hs hn
  go_wp2_with fail
  have hc:=inv1_any kd n s wo x3
  cases hval:validV ⟨kd,n,s⟩
  ·rw [hval] at hc
   have HV:=hI0 hval
   clear hval
   (with_reducible refine hc.mono ?_)
   rintro e w2 ⟨rfl,hb2⟩
   go_wp2_with fail
   go_ret
   exact ⟨k,rfl,by rw [HN.out HV.out];simp,hB.trans (hb2.mono hsz)⟩
  ·rw [hval] at hc
   have HV:=hI0 hval
   clear hval
   (with_reducible refine hc.mono ?_)
   rintro e w2 ⟨rfl,hb2⟩
   go_wp2_with fail
   go_roundw
   case rel=>exact ⟨k+1,by omega,by go_num,by rw [HS.out,HA.out,HV.out];rfl,hB.trans (hb2.mono hsz)⟩
   case measure=>simp [intOf];omega
 ·have hke:k=xs.length:=by omega
  subst hke
  go_wp2_with fail
  go_ret
  have h:=HA.out
  rw [List.take_length] at h
  exact ⟨-1,rfl,by rw [h];rfl,hB⟩
theorem containsV_any (v:Value) (xs:List Val) (w:World) (hv:RdV w (ltw w) v xs) (hok:∀x∈xs,goV x):
  Calls prog 216 #[v,.func (.func 217) #[] #[]] w fun e w'=>e=.returned (.bool (!xs.all validV))∧Bl w w':=by
 go_in
 go_wp2_with fail
 (with_reducible refine (index_any v xs _ hv hok).mono ?_)
 rintro _ w2 ⟨m,rfl,hm,hb⟩
 have HM:=hI0 hm
 clear hm
 go_wp2_with fail
 all_goals
  go_ret
  exact ⟨ret_bool (by rw [←HM.out]),hb⟩
theorem validRow_any (v:Value) (xs:List Val) (w:World) (hv:RdV w (ltw w) v xs) (hok:∀x∈xs,goV x):
  Calls prog 194 #[v] w fun e w'=>e=.returned (.bool (validRowF xs))∧Bl w w':=by
 obtain ⟨A,c,rfl,hc1,hc2,hc3⟩:=hv.open_
 have hc:=containsV_any _ xs w hv hok
 have HE:Hid (validRowF xs=(xs.all validV&&decide (xs.length≤12))):=hI0 rfl
 generalize validRowF xs=r at *
 generalize xs.all validV=b at *
 by_cases h:xs.length≤12
 ·have hz:(xs.length:Int)≤12:=by omega
  have HR:Hid (r=b):=hI0 (by rw [HE.out];simp [h])
  clear HE
  go_in
  go_wp2_with fail
  (with_reducible refine hc.mono ?_)
  rintro _ w2 ⟨rfl,hb⟩
  cases b
  ·go_wp2_with fail
   go_ret
   exact ⟨ret_bool HR.out.symm,hb⟩
  ·go_wp2_with fail
   go_ret
   exact ⟨ret_bool HR.out.symm,hb⟩
 ·have hz:¬(xs.length:Int)≤12:=by omega
  have HR:Hid (r=false):=hI0 (by rw [HE.out];simp [h])
  clear HE
  go_in
  go_wp2_with fail
  go_ret
  exact ⟨ret_bool HR.out.symm,Below.refl _ _⟩
theorem follows_any (x y:RV) (w:World):Calls prog 133 #[.agg x.enc.toArray,.agg y.enc.toArray] w fun e w'=>e=.returned (.bool (ltOf cmpV x y))∧Bl w w':=by
 obtain ⟨x1,x2,xA,xn,xc,x3,x4,x5,x6,x7,x8⟩:=x
 obtain ⟨y1,y2,yA,yn,yc,y3,y4,y5,y6,y7,y8⟩:=y
 obtain ⟨r,hr⟩:=eN0 (ltOf cmpV (⟨x1,x2,xA,xn,xc,x3,x4,x5,x6,x7,x8⟩:RV) ⟨y1,y2,yA,yn,yc,y3,y4,y5,y6,y7,y8⟩)
 rw [←hr]
 have HR:Hid (r=decide (x1<y1∨(x1=y1∧(x5<y5∨(x5=y5∧x3<y3))))):=hI0 (by rw [hr,Bool.eq_iff_iff,ltOf_cmpV];simp [lexV])
 clear hr
 show Calls prog 133 #[.agg #[.int .i64 x1,.int .i64 x2,.slice xA xn xc,.int .i64 x3,.int .i64 x4,.int .i64 x5,.int .i64 x6,.int .i64 x7,.int .i64 x8],.agg #[.int .i64 y1,.int .i64 y2,.slice yA yn yc,.int .i64 y3,.int .i64 y4,.int .i64 y5,.int .i64 y6,.int .i64 y7,.int .i64 y8]] w _
 go_in
 go_wp2_with fail
 all_goals
  go_ret
  refine ⟨ret_bool (by rw [HR.out];first|(symm;rw [decide_eq_false_iff_not];simp_all;omega)|(symm;rw [decide_eq_true_eq];simp_all;omega)|(rw [Bool.eq_iff_iff];simp_all)|(rw [Bool.eq_iff_iff];simp_all;omega)),(Below.of_alloc _).alloc (by simp) _⟩
theorem validVersion_any (r:RV) (x:Ver) (w:World) (h:VerIs w (ltw w) r x):Calls prog 132 #[.agg r.enc.toArray] w fun e w'=>e=.returned (.bool (validVer x))∧Bl w w':=by
 obtain ⟨x1,x2,xA,xn,xc,x3,x4,x5,x6,x7,x8⟩:=r
 obtain ⟨z1,z2,xs,z3,z4,z5,z6,z7,z8⟩:=x
 obtain ⟨h1,h2,h3,h4,h5,h6,h7,h8,hv,hok⟩:=h
 simp only at h1 h2 h3 h4 h5 h6 h7 h8 hv hok
 subst h1;subst h2;subst h3;subst h4;subst h5;subst h6;subst h7;subst h8
 show Calls prog 132 #[.agg #[.int .i64 x1,.int .i64 x2,.slice xA xn xc,.int .i64 x3,.int .i64 x4,.int .i64 x5,.int .i64 x6,.int .i64 x7,.int .i64 x8]] w _
 obtain ⟨W,hW⟩:=eN0 ((w.alloc (.cells #[.int .i64 x1,.int .i64 x2,.slice xA xn xc,.int .i64 x3,.int .i64 x4,.int .i64 x5,.int .i64 x6,.int .i64 x7,.int .i64 x8] 56)))
 have hs:W.heap.size=w.heap.size+1:=by subst hW;simp
 have hbW:Bl w W:=by subst hW;exact Below.of_alloc _
 have CX:Hid (∀w',Below (w.heap.size+1) W w'→∀j u,[.int .i64 x1,.int .i64 x2,.slice xA xn xc,.int .i64 x3,.int .i64 x4,.int .i64 x5,.int .i64 x6,.int .i64 x7,.int .i64 x8][j]? =some u→w'.cell? ⟨w.heap.size,j,none⟩=some u):=hI0 (fun w' h j u hj=>boxCell (cs:=[.int .i64 x1,.int .i64 x2,.slice xA xn xc,.int .i64 x3,.int .i64 x4,.int .i64 x5,.int .i64 x6,.int .i64 x7,.int .i64 x8]) (e:=56) (W:=W) (by subst hW;exact Below.refl _ _) (by omega) (by show Go.RowKit.Below W.heap.size W w';rw [hs];exact h) j u hj)
 have HW:=hI0 hW
 simp only [validVer,in50,in64,num50]
 have K0:=fun W=>within_any x1 1 1125899906842624 W
 have K1:=fun W=>within_any x7 1 1125899906842624 W
 have K2:=fun W=>within_any x2 0 64 W
 have K3:=fun W (hb:Bl w W)=>validRow_any _ xs W (RdV.below hv hb) hok
 have K4:=fun W=>periodValid_any x3 x4 W
 have K5:=fun W=>periodValid_any x5 x6 W
 have K6:=fun W=>within_any x8 0 1125899906842624 W
 obtain ⟨b0,hb0⟩:=eN0 (decide (1≤x1∧x1≤1125899906842624))
 simp only [←hb0] at K0 ⊢
 clear hb0
 obtain ⟨b1,hb1⟩:=eN0 (decide (1≤x7∧x7≤1125899906842624))
 simp only [←hb1] at K1 ⊢
 clear hb1
 obtain ⟨b2,hb2⟩:=eN0 (decide (0≤x2∧x2≤64))
 simp only [←hb2] at K2 ⊢
 clear hb2
 obtain ⟨b3,hb3⟩:=eN0 (validRowF xs)
 simp only [←hb3] at K3 ⊢
 clear hb3
 obtain ⟨b4,hb4⟩:=eN0 (validP x3 x4)
 simp only [←hb4] at K4 ⊢
 clear hb4
 obtain ⟨b5,hb5⟩:=eN0 (validP x5 x6)
 simp only [←hb5] at K5 ⊢
 clear hb5
 obtain ⟨b6,hb6⟩:=eN0 (decide (0≤x8∧x8≤1125899906842624))
 simp only [←hb6] at K6 ⊢
 clear hb6
 clear hW
 have hB:Below (w.heap.size+1) W W:=Below.refl _ _
 go_in
 go_wp2_with fail
 try rw [←HW.out]
 have q0:=CX.out W hB 0 _ rfl
 have q1:=CX.out W hB 1 _ rfl
 have q2:=CX.out W hB 2 _ rfl
 have q3:=CX.out W hB 3 _ rfl
 have q4:=CX.out W hB 4 _ rfl
 have q5:=CX.out W hB 5 _ rfl
 have q6:=CX.out W hB 6 _ rfl
 have q7:=CX.out W hB 7 _ rfl
 have q8:=CX.out W hB 8 _ rfl
 (with_reducible refine (K0 W).mono ?_)
 rintro _ w9 ⟨rfl,hw9⟩
 rw [hw9]
 clear hw9 w9
 cases b0
 case false=>
  exact zq29
 go_wp2_with fail
 (with_reducible refine (K1 W).mono ?_)
 rintro _ w9 ⟨rfl,hw9⟩
 rw [hw9]
 clear hw9 w9
 cases b1
 case false=>
  exact zq29
 go_wp2_with fail
 (with_reducible refine (K2 W).mono ?_)
 rintro _ w9 ⟨rfl,hw9⟩
 rw [hw9]
 clear hw9 w9
 cases b2
 case false=>
  exact zq29
 go_wp2_with fail
 (with_reducible refine (K3 W (hbW.trans (hB.mono (by omega)))).mono ?_)
 rintro _ w3 ⟨rfl,hb3⟩
 have hB':Below (w.heap.size+1) W w3:=hB.trans (hb3.mono (by have:=hB.size;omega))
 clear hB
 have hB:=hB'
 clear hB'
 have q0:=CX.out w3 hB 0 _ rfl
 have q1:=CX.out w3 hB 1 _ rfl
 have q2:=CX.out w3 hB 2 _ rfl
 have q3:=CX.out w3 hB 3 _ rfl
 have q4:=CX.out w3 hB 4 _ rfl
 have q5:=CX.out w3 hB 5 _ rfl
 have q6:=CX.out w3 hB 6 _ rfl
 have q7:=CX.out w3 hB 7 _ rfl
 have q8:=CX.out w3 hB 8 _ rfl
 cases b3
 case false=>
  exact zq29
 go_wp2_with fail
 (with_reducible refine (K4 _).mono ?_)
 rintro _ w4 ⟨rfl,ha4⟩
 have hB':Below (w.heap.size+1) W w4:=by rw [←ha4];exact hB.alloc (by have:=hB.size;omega) _
 clear hB
 have hB:=hB'
 clear hB' ha4
 have q0:=CX.out w4 hB 0 _ rfl
 have q1:=CX.out w4 hB 1 _ rfl
 have q2:=CX.out w4 hB 2 _ rfl
 have q3:=CX.out w4 hB 3 _ rfl
 have q4:=CX.out w4 hB 4 _ rfl
 have q5:=CX.out w4 hB 5 _ rfl
 have q6:=CX.out w4 hB 6 _ rfl
 have q7:=CX.out w4 hB 7 _ rfl
 have q8:=CX.out w4 hB 8 _ rfl
 cases b4
 case false=>
  exact zq29
 go_wp2_with fail
 (with_reducible refine (K5 _).mono ?_)
 rintro _ w5 ⟨rfl,ha5⟩
 have hB':Below (w.heap.size+1) W w5:=by rw [←ha5];exact hB.alloc (by have:=hB.size;omega) _
 clear hB
 have hB:=hB'
 clear hB' ha5
 have q0:=CX.out w5 hB 0 _ rfl
 have q1:=CX.out w5 hB 1 _ rfl
 have q2:=CX.out w5 hB 2 _ rfl
 have q3:=CX.out w5 hB 3 _ rfl
 have q4:=CX.out w5 hB 4 _ rfl
 have q5:=CX.out w5 hB 5 _ rfl
 have q6:=CX.out w5 hB 6 _ rfl
 have q7:=CX.out w5 hB 7 _ rfl
 have q8:=CX.out w5 hB 8 _ rfl
 cases b5
 case false=>
  exact zq29
 go_wp2_with fail
 (with_reducible refine (K6 w5).mono ?_)
 rintro _ w9 ⟨rfl,hw9⟩
 rw [hw9]
 clear hw9 w9
 cases b6
 case false=>
  exact zq29
 go_wp2_with fail
 all_goals go_ret
 all_goals exact ⟨ret_bool (by first|(simp;done)|(simp;intros;omega)),hbW.trans (hB.mono (by omega))⟩
theorem own_setCell {w:World} {base:Nat} {e:TypeId} {size n:Nat} {v:Value} {cs:List Value} (h:w.ownsRow base e size v n cs) {p:Addr} (hp:v.ownBlock≠some p.block) (u:Value):(w.setCell p u).ownsRow base e size v n cs:=
 World.ownsRow.kept (row:=some p.block) h ⟨rfl,rfl,rfl,by simp [World.setCell],fun k _ hne=>Below.heap_setCell _ _ _ _ (fun e=>hne (by rw [e]))⟩ (.inr hp)
theorem own_below {w w':World} {base:Nat} {e:TypeId} {size n:Nat} {v:Value} {cs:List Value} (h:w.ownsRow base e size v n cs) (hb:Bl w w'):w'.ownsRow base e size v n cs:=
 World.ownsRow.kept (row:=none) h ⟨hb.os,hb.tape,hb.output,hb.size,fun k hk _=>hb.block k hk⟩ (by cases v.ownBlock<;>simp)
theorem own_block {w:World} {base:Nat} {e:TypeId} {size n:Nat} {v:Value} {cs:List Value} (h:w.ownsRow base e size v n cs) {b:Nat} (hb:some b=v.ownBlock):base≤b∧∃cur,w.heap[b]? =some (.cells cur e (0,0)):=by
 rcases h.2 with ⟨rfl,h0⟩|⟨g,cap,cur,rfl,hB,hg,hnc,hcm,hcs,htake⟩
 ·cases hb
 ·simp only [Value.ownBlock,Option.some.injEq] at hb
  subst hb
  exact ⟨hB,cur,hg⟩
theorem own_not {w:World} {base B:Nat} {e f:TypeId} {size n:Nat} {v:Value} {cs:List Value} (h:w.ownsRow base e size v n cs) {xs:Array Value} (hB:w.heap[B]? =some (.cells xs f (0,0))) (hef:e≠f):some B≠v.ownBlock:=by
 intro e1
 obtain ⟨_,cur,hc⟩:=own_block h e1
 rw [hB] at hc
 simp only [Option.some.injEq,Obj.cells.injEq] at hc
 exact hef hc.2.1.symm
def BufAt (w:World) (base B:Nat) (l:List UInt8):Prop:=∃v,w.heap[B]? =some (.cells #[v] 123 (0,0))∧OwnB w base v l
def KeepO (B:Nat) (w0 w:World):Prop:=w0.heap.size≤w.heap.size∧∀b,b<w0.heap.size→b≠B→(∀cur,w0.heap[b]? ≠some (.cells cur 5 (0,0)))→w.heap[b]? =w0.heap[b]?
theorem KeepO.refl (B:Nat) (w:World):KeepO B w w:=⟨Nat.le_refl _,fun _ _ _ _=>rfl⟩
theorem KeepO.trans {B:Nat} {a b c:World} (h:KeepO B a b) (k:KeepO B b c):KeepO B a c:=
 ⟨Nat.le_trans h.1 k.1,fun i h1 h2 h3=>by
  have e:=h.2 i h1 h2 h3
  rw [k.2 i (Nat.lt_of_lt_of_le h1 h.1) h2 (fun cur=>by rw [e];exact h3 cur),e]⟩
theorem KeepO.of_below {B:Nat} {a b:World} (h:Bl a b):KeepO B a b:=⟨h.size,fun i h1 _ _=>h.block i h1⟩
theorem KeepO.drew {B:Nat} {a b:World} (h:KeepO B a b):KeepO B a b.drew:=h
def BufOut (base B:Nat) (l:List UInt8) (w0:World) (e:Ending) (w:World):Prop:=e=.returned (.tuple #[])∧BufAt w base B l∧Below base w0 w∧KeepO B w0 w
theorem BufAt.drew {w:World} {base B:Nat} {l:List UInt8} (h:BufAt w base B l):BufAt w.drew base B l:=h
theorem BufAt.lt {w:World} {base B:Nat} {l:List UInt8} (h:BufAt w base B l):B<w.heap.size:=by
 obtain ⟨v,hB,_⟩:=h
 exact (Array.getElem?_eq_some_iff.1 hB).1
theorem BufAt.below {w w':World} {base B:Nat} {l:List UInt8} (h:BufAt w base B l) (hb:Bl w w'):BufAt w' base B l:=by
 have hl:=h.lt
 obtain ⟨v,hB,hO⟩:=h
 exact ⟨v,(hb.block B hl).trans hB,own_below hO hb⟩
theorem buf_done {w w2 w3:World} {base B:Nat} {v v':Value} {l m:List UInt8} (hbase:base≤B) (hB:w.heap[B]? =some (.cells #[v] 123 (0,0))) (hO:OwnB w base v l) (hb2:Bl w w2)
  (hO3:OwnB w3 base v' (l++m)) (hb3:Below base w2 w3) (hg3:w2.grownBy w3 v.ownBlock) (hv:v'.ownBlock=v.ownBlock∨v'.ownBlock=some w2.heap.size):
  BufOut base B (l++m) w (.returned (.tuple #[])) (w3.setCell ⟨B,0,none⟩ v'):=by
 have hb2s:=hb2.size
 have hg3s:=hg3.size
 have hl:=(Array.getElem?_eq_some_iff.1 hB).1
 have hn:=own_not hO hB (by decide)
 have hB2:=(hb2.block B hl).trans hB
 have hB3:=(hg3.block B (by have:=hb2.size;omega) hn).trans hB2
 refine ⟨rfl,⟨v',?_,own_setCell hO3 ?_ _⟩,?_,by simp [World.setCell];omega,fun b g1 g2 g3=>?_⟩
 ·have:=heap_setCell_same w3 B 0 _ _ v' hB3
  simpa using this
 ·intro e
  rcases hv with hv|hv
  ·exact hn (by rw [←hv];exact e.symm)
  ·rw [hv] at e;injection e with e;have e:w2.heap.size=B:=e;have:=hb2.size;omega
 ·exact ((hb2.mono (by omega)).trans hb3).setCell (p:=⟨B,0,none⟩) hbase v'
 ·have e1:(w3.setCell ⟨B,0,none⟩ v').heap[b]? =w3.heap[b]? :=Below.heap_setCell _ _ _ _ g2
  have e2:w3.heap[b]? =w2.heap[b]? :=hg3.block b (by omega) (fun e=>by
   obtain ⟨_,cur,hc⟩:=own_block hO e
   exact g3 cur hc)
  rw [e1,e2,hb2.block b g1]
theorem bufInt_any (base B:Nat) (l:List UInt8) (n:Int) (w:World) (hbB:base≤B) (h:BufAt w base B l) (h1: -9223372036854775808≤n) (h2:n≤9223372036854775807) (hl:l.length+4000≤140737488300000):
  Calls prog 47 #[.pointer (some ⟨B,0,none⟩),.int .i64 n] w (BufOut base B (l++encI n) w):=by
 exact zq4 3
theorem bufRow_any (base B:Nat) (l:List UInt8) (u:Value) (xs:List Val) (w:World) (hbB:base≤B) (h:BufAt w base B l) (hu:RdV w (ltw w) u xs) (hok:∀x∈xs,putV x) (hr:(encR xs).length≤4000) (hl:l.length+4000≤140737488300000):
  Calls prog 116 #[.pointer (some ⟨B,0,none⟩),u] w (BufOut base B (l++encR xs) w):=by
 exact zq4 2
theorem bufPeriod_any (base B:Nat) (l:List UInt8) (f t:Int) (w:World) (hbB:base≤B) (h:BufAt w base B l) (f1: -9223372036854775808≤f) (f2:f≤9223372036854775807) (t1: -9223372036854775808≤t) (t2:t≤9223372036854775807) (hl:l.length+4000≤140737488300000):
  Calls prog 117 #[.pointer (some ⟨B,0,none⟩),.agg #[.int .i64 f,.int .i64 t]] w (BufOut base B (l++(encI f++encI t)) w):=by
 exact zq4 0
theorem encI_two {n:Nat} (h:n≤200):(encI (n:Int)).length≤2:=by
 have hz:zz (n:Int)=2*n:=by unfold zz;rw [if_neg (by omega)];omega
 unfold encI
 rw [hz]
 by_cases h1:2*n<128
 ·rw [vl_small _ h1];simp
 ·rw [vl_big _ (by omega),vl_small _ (by omega)];simp
theorem valid_parts {x:Val} (h:validV x=true):(x.kind=3→x.int=0∨x.int=1)∧x.text.size≤200∧(encV x).length≤203:=by
 obtain ⟨kd,i,s⟩:=x
 have e:s.data.toList=[]→s.size=0:=fun h=>by rw [←str_len,h];rfl
 have e1:(encI i).length≤10:=encI_length i
 unfold validV at h
 unfold encV
 simp only at h ⊢
 split at h
 ·rename_i h0;subst h0;simp at h;have:=e (by simpa using h.2);simp;omega
 ·split at h
  ·rename_i h0;subst h0;simp at h;have:=e (by simpa using h.2);simp;omega
  ·split at h
   ·rename_i h0
    subst h0
    simp at h
    have hs:s.size≤200:=h.1.2
    have e2:(encI s.size).length≤2:=encI_two hs
    have e3:s.data.size=s.size:=rfl
    simp
    omega
   ·split at h
    ·rename_i h0;subst h0;simp at h;have:=e (by simpa using h.2);simp;omega
    ·cases h
theorem valid_all {xs:List Val} (h:(xs.all validV&&decide (xs.length≤12))=true) (hok:∀x∈xs,goV x):(∀x∈xs,putV x)∧(encR xs).length≤2446:=by
 rw [Bool.and_eq_true,List.all_eq_true,decide_eq_true_eq] at h
 refine ⟨fun x hx=>?_,?_⟩
 ·have hv:=valid_parts (h.1 x hx)
  obtain ⟨a,b,_⟩:=hok x hx
  exact ⟨a,b,hv.2.1,hv.1⟩
 ·have hle:(encVs xs).length≤203*xs.length:=by
   have:∀ys:List Val,(∀y∈ys,validV y=true)→(encVs ys).length≤203*ys.length:=by
    intro ys
    induction ys with
    |nil=>intro _;simp [encVs]
    |cons y ys ih=>
     intro hy
     have h1:=(valid_parts (hy y (List.mem_cons_self ..))).2.2
     have h2:=ih fun z hz=>hy z (List.mem_cons_of_mem _ hz)
     unfold encVs at h2 ⊢
     rw [List.flatMap_cons,List.length_append,List.length_cons]
     omega
   exact this xs h.1
  have:=encI_length xs.length
  unfold encR
  rw [List.length_append]
  omega
def encVer (x:Ver):List UInt8:=encI x.id++encI x.sch++encR x.row++(encI x.vf++encI x.vt)++(encI x.sf++encI x.st)++encI x.by_++encI x.un
theorem encVer_le {x:Ver} (h:validVer x=true) (hok:∀v∈x.row,goV v):(encVer x).length≤2600∧(∀v∈x.row,putV v)∧(encR x.row).length≤2446:=by
 have hr:validRowF x.row=true:=by
  unfold validVer at h
  simp only [Bool.and_eq_true] at h
  exact h.2.2.2.1
 obtain ⟨a,b⟩:=valid_all hr hok
 refine ⟨?_,a,b⟩
 unfold encVer
 simp only [List.length_append]
 have:=encI_length x.id;have:=encI_length x.sch;have:=encI_length x.vf;have:=encI_length x.vt;have:=encI_length x.sf;have:=encI_length x.st;have:=encI_length x.by_;have:=encI_length x.un
 omega
theorem version_any (base B:Nat) (l:List UInt8) (r:RV) (x:Ver) (w:World) (hbB:base≤B) (h:BufAt w base B l) (hx:VerIs w (·<base) r x) (hval:validVer x=true) (hl:l.length+12000≤140737488300000):
  Calls prog 56 #[.pointer (some ⟨B,0,none⟩),.agg r.enc.toArray] w (BufOut base B (l++encVer x) w):=by
 exact zq0 0
theorem flat_getC {α β:Type} (n:Nat) (ps:List α) (f:α→List β) (hf:∀x∈ps,(f x).length=n) (k j:Nat) (hj:j<n) (x:α) (hx:ps[k]? =some x):(ps.flatMap f)[k*n+j]? =(f x)[j]? :=by
 induction ps generalizing k with
 |nil=>simp at hx
 |cons p ps ih=>
  have hp:=hf p (List.mem_cons_self ..)
  cases k with
  |zero=>
   simp only [List.getElem?_cons_zero,Option.some.injEq] at hx
   subst hx
   rw [List.flatMap_cons,Nat.zero_mul,Nat.zero_add,List.getElem?_append_left (by rw [hp];exact hj)]
  |succ k=>
   simp only [List.getElem?_cons_succ] at hx
   rw [List.flatMap_cons,List.getElem?_append_right (by rw [hp,Nat.succ_mul];omega),hp,show (k+1)*n+j-n=k*n+j by rw [Nat.succ_mul];omega]
   exact ih (fun x hx=>hf x (List.mem_cons_of_mem _ hx)) k hx
theorem flat_lenC {α β:Type} (n:Nat) (ps:List α) (f:α→List β) (hf:∀x∈ps,(f x).length=n):(ps.flatMap f).length=ps.length*n:=by
 induction ps with
 |nil=>simp
 |cons p ps ih=>rw [List.flatMap_cons,List.length_append,hf p (List.mem_cons_self ..),ih (fun x hx=>hf x (List.mem_cons_of_mem _ hx)),List.length_cons,Nat.succ_mul];omega
def ltV (x y:Ver):Bool:=decide (x.id<y.id∨(x.id=y.id∧(x.sf<y.sf∨(x.sf=y.sf∧x.vf<y.vf))))
theorem VerIs.lt {w w':World} {F G:Nat→Prop} {r s:RV} {x y:Ver} (h:VerIs w F r x) (k:VerIs w' G s y):ltOf cmpV r s=ltV x y:=by
 rw [Bool.eq_iff_iff,ltOf_cmpV,ltV,decide_eq_true_eq,lexV,h.id,h.sf,h.vf,k.id,k.sf,k.vf]
def okPrev (p:Option Ver) (x:Ver):Bool:=match p with|some y=>ltV y x|none=>true
def chkFrom:Option Ver→List Ver→Int
 |_,[]=>0
 |p,x::r=>if validVer x=true then (if okPrev p x=true then chkFrom (some x) r else 9) else 8
theorem chkFrom_cons (p:Option Ver) (x:Ver) (r:List Ver):chkFrom p (x::r)=if validVer x=true then (if okPrev p x=true then chkFrom (some x) r else 9) else 8:=by cases p<;>rfl
theorem ret_int {a b:Int} (h:a=b):Ending.returned (.int .i64 a)=.returned (.int .i64 b):=by rw [h]
def prevV (xs:List Ver) (k:Nat):Option Ver:=if k=0 then none else xs[k-1]?
theorem chk_step {xs:List Ver} {k:Nat} (hk:k<xs.length):chkFrom (prevV xs k) (xs.drop k)=if validVer xs[k]=true then (if okPrev (prevV xs k) xs[k]=true then chkFrom (prevV xs (k+1)) (xs.drop (k+1)) else 9) else 8:=by
 have e:prevV xs (k+1)=some xs[k]:=by unfold prevV;rw [if_neg (by omega),Nat.add_sub_cancel,List.getElem?_eq_getElem hk]
 rw [List.drop_eq_getElem_cons hk,chkFrom_cons,e]
theorem chk_end {xs:List Ver} {k:Nat} (hk:k=xs.length):chkFrom (prevV xs k) (xs.drop k)=0:=by subst hk;rw [List.drop_length];rfl
theorem chkFrom_valid {p:Option Ver} {xs:List Ver} (h:chkFrom p xs=0):∀x∈xs,validVer x=true:=by
 induction xs generalizing p with
 |nil=>intro x hx;cases hx
 |cons x r ih=>
  rw [chkFrom_cons] at h
  split at h
  ·rename_i hv
   split at h
   ·intro y hy
    rcases List.mem_cons.1 hy with rfl|hy
    ·exact hv
    ·exact ih h y hy
   ·cases h
  ·cases h
abbrev VP:=RV×Ver
def RdVs (w:World) (F:Nat→Prop) (v:Value) (ps:List VP):Prop:=Rd w F 9 v ps.length (ps.flatMap fun p=>p.1.enc)∧∀p∈ps,VerIs w F p.1 p.2
theorem RdVs.keep {w w':World} {F:Nat→Prop} {v:Value} {ps:List VP} (h:RdVs w F v ps) (hk:Keeps F w w'):RdVs w' F v ps:=⟨h.1.keep hk,fun p hp=>(h.2 p hp).keep hk⟩
theorem RdVs.wide {w:World} {F G:Nat→Prop} {v:Value} {ps:List VP} (h:RdVs w F v ps) (hk:∀b,F b→G b):RdVs w G v ps:=⟨h.1.wide hk,fun p hp=>(h.2 p hp).wide hk⟩
theorem RdVs.below {w w':World} {v:Value} {ps:List VP} (h:RdVs w (ltw w) v ps) (hb:Bl w w'):RdVs w' (ltw w') v ps:=
 (h.keep (Keeps.below hb)).wide fun _ h=>Nat.lt_of_lt_of_le h hb.size
theorem RdVs.at_ {w:World} {F:Nat→Prop} {A:Option Addr} {c:Nat} {ps:List VP} (h:RdVs w F (.slice A ps.length c) ps) {k:Nat} (hk:k<ps.length):
  ∃b off,A=some ⟨b,off,none⟩∧F b∧(∀j u,j<9→ps[k].1.enc[j]? =some u→w.cell? ⟨b,off+k*9+j,none⟩=some u)∧VerIs w F ps[k].1 ps[k].2:=by
 obtain ⟨b,off,rfl,hF,hc⟩:=Rd.plain h.1 (by omega) (by omega)
 refine ⟨b,off,rfl,hF,fun j u hj hu=>?_,h.2 _ (List.getElem_mem hk)⟩
 rw [Nat.add_assoc]
 exact hc (k*9+j) u (by rw [flat_getC 9 ps (fun p=>p.1.enc) (fun _ _=>rfl) k j hj _ (List.getElem?_eq_getElem hk)];exact hu)
theorem checkVersions_any (v:Value) (ps:List VP) (w:World) (hv:RdVs w (ltw w) v ps):
  Calls prog 87 #[v] w fun e w'=>e=.returned (.int .i64 (chkFrom none (ps.map (·.2))))∧Bl w w':=by
 obtain ⟨A,c,rfl,hc1,hc2,hc3⟩:=hv.1.open_
 unfold maxLen at hc2
 have HVS:=hI0 hv
 clear hv
 obtain ⟨res,hres⟩:=eN0 (chkFrom none (ps.map (·.2)))
 rw [←hres]
 have HRES:=hI0 hres
 clear hres
 go_in
 go_wp2_with fail
 go_loopw [7] (fun i wr=>∃k:Nat,i=.int .i64 (k:Int)∧k≤ps.length∧Hid (chkFrom (prevV (ps.map (·.2)) k) ((ps.map (·.2)).drop k)=res)∧Bl w wr) (fun i _=>ps.length-(intOf i).toNat)
 case atStart=>exact ⟨0,rfl,Nat.zero_le _,hI0 HRES.out.symm,Below.refl _ _⟩
 obtain ⟨k,rfl,hk,HI,hB⟩:=hrel
 obtain ⟨wo,rfl⟩:=eN0 wr
 have hsz:=hB.size
 by_cases hlt:k<ps.length
 case neg=>
  have hke:k=ps.length:=by omega
  have HZ:Hid (res=0):=hI0 (by rw [←HI.out];exact chk_end (by rw [List.length_map];exact hke))
  subst hke
  go_wp2_with fail
  go_ret
  exact ⟨ret_int HZ.out.symm,hB⟩
 obtain ⟨b,off,rfl,hF,hcl,hx⟩:=RdVs.at_ (HVS.out.below hB) hlt
 have hst:=chk_step (xs:=ps.map (·.2)) (k:=k) (by rw [List.length_map];exact hlt)
 rw [HI.out,List.getElem_map] at hst
 have hpv:0<k→∃q:VP,prevV (ps.map (·.2)) k=some q.2∧VerIs wo (ltw wo) q.1 q.2∧∀j u,j<9→q.1.enc[j]? =some u→wo.cell? ⟨b,off+(k-1)*9+j,none⟩=some u:=fun h0=>by
  obtain ⟨b',off',e,_,hcl',hx'⟩:=RdVs.at_ (HVS.out.below hB) (k:=k-1) (by omega)
  injection e with e;injection e with e1 e2;subst e1;subst e2
  refine ⟨ps[k-1],?_,hx',hcl'⟩
  unfold prevV
  rw [if_neg (by omega),List.getElem?_map,List.getElem?_eq_getElem (by omega)];rfl
 have HPV:=hI0 hpv
 have HST:=hI0 hst
 clear hst hpv
 generalize ps[k]=p at *
 obtain ⟨⟨x1,x2,xA,xn,xc,x3,x4,x5,x6,x7,x8⟩,x⟩:=p
 simp only at hcl hx HST
 obtain ⟨g0,g1,g2,g3,g4,g5,g6,g7,g8⟩:=cK9 hcl (show _=[.int .i64 x1,.int .i64 x2,.slice xA xn xc,.int .i64 x3,.int .i64 x4,.int .i64 x5,.int .i64 x6,.int .i64 x7,.int .i64 x8] from rfl)
 have HX:=hI0 hx
 clear hcl hx
 go_wp2_with fail
 obtain ⟨W1,hW1⟩:=eN0 (wo.alloc (.cells #[.int .i64 x1,.int .i64 x2,.slice xA xn xc,.int .i64 x3,.int .i64 x4,.int .i64 x5,.int .i64 x6,.int .i64 x7,.int .i64 x8] 56))
 have hWs:W1.heap.size=wo.heap.size+1:=by subst hW1;simp
 have hbW:Bl wo W1:=by subst hW1;exact Below.of_alloc _
 have hWh:W1.heap[wo.heap.size]? =some (.cells #[.int .i64 x1,.int .i64 x2,.slice xA xn xc,.int .i64 x3,.int .i64 x4,.int .i64 x5,.int .i64 x6,.int .i64 x7,.int .i64 x8] 56 (0,0)):=by subst hW1;exact heap_alloc_new wo _
 rw [←hW1]
 clear hW1
 have HX1:Hid (VerIs W1 (ltw W1) (⟨x1,x2,xA,xn,xc,x3,x4,x5,x6,x7,x8⟩:RV) x):=hI0 ((HX.out.keep (Keeps.below hbW)).wide (fun b' (h:b'<wo.heap.size)=>by show b'<W1.heap.size;omega))
 have KV:Calls prog 132 #[.agg #[.int .i64 x1,.int .i64 x2,.slice xA xn xc,.int .i64 x3,.int .i64 x4,.int .i64 x5,.int .i64 x6,.int .i64 x7,.int .i64 x8]] W1 (fun e w'=>e=.returned (.bool (validVer x))∧Bl W1 w'):=validVersion_any (⟨x1,x2,xA,xn,xc,x3,x4,x5,x6,x7,x8⟩:RV) x W1 HX1.out
 (with_reducible refine KV.mono ?_)
 rintro _ w2 ⟨rfl,hb2⟩
 by_cases hval:validVer x=true
 case neg=>
  have HVL:=hI0 (show validVer x=false by simpa using hval)
  rw [HVL.out]
  go_wp2_with fail
  go_ret
  exact ⟨ret_int (by rw [HST.out,if_neg (by rw [HVL.out];decide)]),hB.trans ((hbW.trans (hb2.mono (by omega))).mono hsz)⟩
 have HVL:=hI0 hval
 clear hval
 rw [HVL.out]
 have hB2:Bl w w2:=hB.trans ((hbW.trans (hb2.mono (by omega))).mono hsz)
 have hWh2:w2.heap[wo.heap.size]? =some (.cells #[.int .i64 x1,.int .i64 x2,.slice xA xn xc,.int .i64 x3,.int .i64 x4,.int .i64 x5,.int .i64 x6,.int .i64 x7,.int .i64 x8] 56 (0,0)):=(hb2.block _ (by omega)).trans hWh
 have hbo:Bl wo w2:=hbW.trans (hb2.mono (by omega))
 have hs2:wo.heap.size+1≤w2.heap.size:=by have:=hb2.size;omega
 have LB:Hid (∀w',Bl w2 w'→∀j u,[.int .i64 x1,.int .i64 x2,.slice xA xn xc,.int .i64 x3,.int .i64 x4,.int .i64 x5,.int .i64 x6,.int .i64 x7,.int .i64 x8][j]? =some u→w'.cell? ⟨wo.heap.size,j,none⟩=some u):=hI0 (fun w' h j u hj=>(cW0 _ wo.heap.size j _ _ _ ((h.block _ (by omega)).trans hWh2)).trans (by simpa using hj))
 clear hWh hWh2 HX1
 by_cases h0:k=0
 case pos=>
  subst h0
  have HN:Hid (res=chkFrom (prevV (ps.map (·.2)) (0+1)) ((ps.map (·.2)).drop (0+1))):=hI0 (by rw [HST.out,if_pos HVL.out];exact if_pos rfl)
  go_wp2_with fail
  refine rB0 w2 (fun zh=>?_)
  refine hT 0 15 ?_
  refine hT 1 16 ?_
  refine hT 2 17 ?_
  refine hK 3 18 ?_
  refine hK 4 19 ?_
  refine hK 5 20 ?_
  refine hK 6 21 ?_
  refine hK 7 22 ?_
  refine hK 8 23 ?_
  refine hK 9 24 ?_
  refine hK 10 25 ?_
  refine hT 11 26 ?_
  refine rD0 ?_
  clear zh
  go_wp2_with fail
  go_roundw
  case rel=>exact ⟨1,rfl,by omega,hI0 HN.out.symm,hB2.drew⟩
  case measure=>simp [intOf];omega
 obtain ⟨q,hq1,hq2,hq3⟩:=HPV.out (by omega)
 obtain ⟨i,rfl⟩:∃i,k=i+1:=⟨k-1,by omega⟩
 rw [Nat.add_sub_cancel] at hq3
 obtain ⟨⟨y1,y2,yA,yn,yc,y3,y4,y5,y6,y7,y8⟩,y⟩:=q
 simp only at hq1 hq2 hq3
 have HST2:=HST.out
 rw [if_pos HVL.out,hq1] at HST2
 have eo:okPrev (some y) x=ltV y x:=rfl
 rw [eo] at HST2
 have hlv:=hq2.lt HX.out
 obtain ⟨lb,hlb⟩:=eN0 (ltV y x)
 rw [←hlb] at hlv HST2
 have HS2:=hI0 HST2
 clear HST2 hq1 hlb HPV
 have PC:Hid (∀w',Bl w2 w'→∀j u,j<9→[.int .i64 y1,.int .i64 y2,.slice yA yn yc,.int .i64 y3,.int .i64 y4,.int .i64 y5,.int .i64 y6,.int .i64 y7,.int .i64 y8][j]? =some u→w'.cell? ⟨b,off+i*9+j,none⟩=some u):=hI0 (fun w' h j u hj hu=>(World.cell?_of_block ((h.block b (by omega)).trans (hbo.block b (by omega)))).trans (hq3 j u hj hu))
 clear hq3 hq2
 have ew:IntKind.i64.wrap (((i+1:Nat):Int)-1)=((i:Nat):Int):=by rw [IntKind.wrap_i64];omega
 have ew2:IntKind.i64.wrap (((i+1:Nat):Int)+1)=((i+1+1:Nat):Int):=by rw [IntKind.wrap_i64];omega
 have hil:(i:Int)<(ps.length:Int):=by omega
 have hip:(0:Int)<((i+1:Nat):Int):=by omega
 have KC:∀W,Calls prog 133 #[.agg #[.int .i64 y1,.int .i64 y2,.slice yA yn yc,.int .i64 y3,.int .i64 y4,.int .i64 y5,.int .i64 y6,.int .i64 y7,.int .i64 y8],.agg #[.int .i64 x1,.int .i64 x2,.slice xA xn xc,.int .i64 x3,.int .i64 x4,.int .i64 x5,.int .i64 x6,.int .i64 x7,.int .i64 x8]] W fun e w'=>e=.returned (.bool lb)∧Bl W w':=fun W=>by rw [←hlv];exact follows_any (⟨y1,y2,yA,yn,yc,y3,y4,y5,y6,y7,y8⟩:RV) (⟨x1,x2,xA,xn,xc,x3,x4,x5,x6,x7,x8⟩:RV) W
 have EW:=hI0 ew2
 clear ew2 hlv
 obtain ⟨z,hz⟩:=eN0 (i+1)
 have HZ:=hI0 hz
 rw [←hz] at ew hip hlt HS2 HI ⊢
 have EW2:Hid (IntKind.i64.wrap ((z:Int)+1)=((z+1:Nat):Int)):=hI0 (by rw [HZ.out];exact EW.out)
 have hz0:0<z:=by omega
 have HLT:=hI0 (And.intro hlt (show i+1≤ps.length from hk))
 clear hz
 go_wp2_with fail
 refine rB0 w2 (fun zh=>?_)
 refine hT 0 15 ?_
 refine hT 1 16 ?_
 refine hT 2 17 ?_
 refine hT 3 18 ?_
 refine hT 4 19 ?_
 refine hT 5 20 ?_
 refine hT 6 21 ?_
 refine hU 7 22 (v:=?_) zh ?_ ?_
 rotate_left
 ·intro w' hSw;(try dsimp only at hSw);have c0:w'.cell? ⟨b,off+i*9,none⟩=some (.int .i64 y1):=PC.out w' hSw 0 _ (by decide) rfl;have c1:w'.cell? ⟨b,off+i*9+1,none⟩=some (.int .i64 y2):=PC.out w' hSw 1 _ (by decide) rfl;have c2:w'.cell? ⟨b,off+i*9+2,none⟩=some (.slice yA yn yc):=PC.out w' hSw 2 _ (by decide) rfl;have c3:w'.cell? ⟨b,off+i*9+3,none⟩=some (.int .i64 y3):=PC.out w' hSw 3 _ (by decide) rfl;have c4:w'.cell? ⟨b,off+i*9+4,none⟩=some (.int .i64 y4):=PC.out w' hSw 4 _ (by decide) rfl;have c5:w'.cell? ⟨b,off+i*9+5,none⟩=some (.int .i64 y5):=PC.out w' hSw 5 _ (by decide) rfl;have c6:w'.cell? ⟨b,off+i*9+6,none⟩=some (.int .i64 y6):=PC.out w' hSw 6 _ (by decide) rfl;have c7:w'.cell? ⟨b,off+i*9+7,none⟩=some (.int .i64 y7):=PC.out w' hSw 7 _ (by decide) rfl;have c8:w'.cell? ⟨b,off+i*9+8,none⟩=some (.int .i64 y8):=PC.out w' hSw 8 _ (by decide) rfl;go_simp<;>with_reducible rfl
 refine hU 8 23 (v:=?_) zh ?_ ?_
 rotate_left
 ·intro w' hSw;(try dsimp only at hSw);have c0:w'.cell? ⟨wo.heap.size,0,none⟩=some (.int .i64 x1):=LB.out w' hSw 0 _ rfl;have c1:w'.cell? ⟨wo.heap.size,1,none⟩=some (.int .i64 x2):=LB.out w' hSw 1 _ rfl;have c2:w'.cell? ⟨wo.heap.size,2,none⟩=some (.slice xA xn xc):=LB.out w' hSw 2 _ rfl;have c3:w'.cell? ⟨wo.heap.size,3,none⟩=some (.int .i64 x3):=LB.out w' hSw 3 _ rfl;have c4:w'.cell? ⟨wo.heap.size,4,none⟩=some (.int .i64 x4):=LB.out w' hSw 4 _ rfl;have c5:w'.cell? ⟨wo.heap.size,5,none⟩=some (.int .i64 x5):=LB.out w' hSw 5 _ rfl;have c6:w'.cell? ⟨wo.heap.size,6,none⟩=some (.int .i64 x6):=LB.out w' hSw 6 _ rfl;have c7:w'.cell? ⟨wo.heap.size,7,none⟩=some (.int .i64 x7):=LB.out w' hSw 7 _ rfl;have c8:w'.cell? ⟨wo.heap.size,8,none⟩=some (.int .i64 x8):=LB.out w' hSw 8 _ rfl;go_simp<;>with_reducible rfl
 refine hC 9 24 ?_
 (with_reducible refine (KC _).mono ?_)
 rintro _ w3 ⟨rfl,hb3'⟩
 have hb3:Bl w2 w3:=(Below.undrew hb3')
 refine ⟨_,rfl,keepAnd hb3 ?_⟩
 clear zh
 intro zh
 simp only [aP]
 refine hT 10 25 ?_
 refine hT 11 26 ?_
 refine rD0 ?_
 clear zh
 have hB3:Bl w w3:=hB2.trans (hb3.mono (by have:=hB2.size;omega))
 cases lb
 case false=>
  have HN:Hid (res=9):=hI0 (by rw [HS2.out];exact if_neg (by decide))
  go_wp2_with fail
  go_ret
  exact ⟨ret_int HN.out.symm,hB3⟩
 have HN:Hid (res=chkFrom (prevV (ps.map (·.2)) (z+1)) ((ps.map (·.2)).drop (z+1))):=hI0 (by rw [HS2.out];exact if_pos rfl)
 go_wp2_with fail
 go_roundw
 case rel=>exact ⟨z+1,by go_num,by have:=HLT.out.1;omega,hI0 HN.out.symm,hB3⟩
 case measure=>have q1:=HLT.out.1;have q2:=HZ.out;simp [intOf];omega
def encVers (xs:List Ver):List UInt8:=xs.flatMap encVer
def encVsB (xs:List Ver):List UInt8:=encI xs.length++encVers xs
def encVsE (xs:List Ver):Int:=if 4096<xs.length then 5 else if chkFrom none xs≠0 then chkFrom none xs else if 1048576<(encVsB xs).length then 5 else 0
theorem encVers_snoc {xs:List Ver} {k:Nat} (hk:k<xs.length):encVers (xs.take (k+1))=encVers (xs.take k)++encVer xs[k]:=by
 unfold encVers
 rw [List.take_succ_eq_append_getElem hk,List.flatMap_append,List.flatMap_singleton]
theorem encVers_le (xs:List Ver) (h:∀x∈xs,(encVer x).length≤2600) (k:Nat):(encVers (xs.take k)).length≤2600*k:=by
 induction k with
 |zero=>simp [encVers]
 |succ k ih=>
  by_cases hk:k<xs.length
  ·rw [encVers_snoc hk,List.length_append]
   have:=h xs[k] (List.getElem_mem hk)
   omega
  ·rw [List.take_of_length_le (by omega)] at ih ⊢;omega
theorem put_any' (base B:Nat) (l:List UInt8) (v:Value) (ps:List VP) (w:World) (hbB:base≤B) (h:BufAt w base B l) (hv:RdVs w (·<base) v ps) (hval:∀p∈ps,validVer p.2=true) (hn:ps.length≤1048576) (hl:l.length+3000000000≤140737488300000):
  Calls prog 55 #[.pointer (some ⟨B,0,none⟩),v,.func (.func 56) #[] #[]] w (BufOut base B (l++encVsB (ps.map (·.2))) w):=by
 obtain ⟨A,c,rfl,hc1,hc2,hc3⟩:=hv.1.open_
 unfold maxLen at hc2
 have hBl:=h.lt
 have HVS:=hI0 hv
 have HVL:=hI0 hval
 clear hv hval
 have KI:=bufInt_any base B l ps.length w hbB h (by omega) (by omega) (by omega)
 have HLE:=hI0 (encVers_le (ps.map (·.2)) (fun x hx=>by
  obtain ⟨p,hp,rfl⟩:=List.mem_map.1 hx
  exact (encVer_le (HVL.out p hp) (HVS.out.2 p hp).ok).1))
 have e0:=encI_length ps.length
 have HE0:=hI0 e0
 clear e0
 go_in
 go_wp2_with fail
 (with_reducible refine KI.mono ?_)
 rintro _ w1 ⟨rfl,hA1,hb1,hk1⟩
 have hs1:w.heap.size≤w1.heap.size:=hk1.1
 have HK1:=hI0 hk1
 clear hk1 KI
 go_wp2_with fail
 go_loopw [16] (fun i wr=>∃k:Nat,i=.int .i64 (k:Int)∧k≤ps.length∧Hid (BufAt wr base B (l++encI ps.length++encVers ((ps.map (·.2)).take k)))∧Below base w wr∧Hid (KeepO B w wr)) (fun i _=>ps.length-(intOf i).toNat)
 case atStart=>exact ⟨0,rfl,Nat.zero_le _,hI0 (by simpa [encVers] using hA1),hb1,HK1⟩
 obtain ⟨k,rfl,hk,HI,hB,HKO⟩:=hrel
 obtain ⟨wo,rfl⟩:=eN0 wr
 have hBo:=HI.out.lt
 by_cases hlt:k<ps.length
 case neg=>
  have hke:k=ps.length:=by omega
  go_wp2_with fail
  go_end0
  refine ⟨rfl,?_,hB,HKO.out⟩
  have hA:=HI.out
  rw [hke,List.take_of_length_le (by simp)] at hA
  unfold encVsB
  rw [List.length_map,←List.append_assoc]
  exact hA
 obtain ⟨b,off,rfl,hF,hcl,hx⟩:=RdVs.at_ (HVS.out.keep (Keeps.below hB)) hlt
 have hsn:=encVers_snoc (xs:=ps.map (·.2)) (k:=k) (by rw [List.length_map];exact hlt)
 rw [List.getElem_map] at hsn
 have hvl:=HVL.out ps[k] (List.getElem_mem hlt)
 have HSN:=hI0 hsn
 have hle:=HLE.out k
 clear hsn
 generalize ps[k]=p at *
 obtain ⟨⟨x1,x2,xA,xn,xc,x3,x4,x5,x6,x7,x8⟩,x⟩:=p
 simp only at hcl hx HSN hvl
 obtain ⟨g0,g1,g2,g3,g4,g5,g6,g7,g8⟩:=cK9 hcl (show _=[.int .i64 x1,.int .i64 x2,.slice xA xn xc,.int .i64 x3,.int .i64 x4,.int .i64 x5,.int .i64 x6,.int .i64 x7,.int .i64 x8] from rfl)
 have HX:=hI0 hx
 have HL2:Hid ((l++encI ps.length++encVers ((ps.map (·.2)).take k)).length+12000≤140737488300000):=hI0 (by
  simp only [List.length_append]
  have:=HE0.out
  omega)
 have HW:=hI0 hvl
 clear hcl hx hle hvl
 go_wp2_with fail
 obtain ⟨W1,hW1⟩:=eN0 (wo.alloc (.cells #[.int .i64 x1,.int .i64 x2,.slice xA xn xc,.int .i64 x3,.int .i64 x4,.int .i64 x5,.int .i64 x6,.int .i64 x7,.int .i64 x8] 56))
 have hbW:Bl wo W1:=by subst hW1;exact Below.of_alloc _
 rw [←hW1]
 clear hW1
 have KV:Calls prog 56 #[.pointer (some ⟨B,0,none⟩),.agg #[.int .i64 x1,.int .i64 x2,.slice xA xn xc,.int .i64 x3,.int .i64 x4,.int .i64 x5,.int .i64 x6,.int .i64 x7,.int .i64 x8]] W1 (BufOut base B (l++encI ps.length++encVers ((ps.map (·.2)).take k)++encVer x) W1):=version_any base B _ (⟨x1,x2,xA,xn,xc,x3,x4,x5,x6,x7,x8⟩:RV) x W1 hbB (HI.out.below hbW) (HX.out.keep ((Keeps.below hbW).mono (fun b' (h:b'<base)=>by omega))) HW.out HL2.out
 (with_reducible refine KV.mono ?_)
 rintro _ w2 ⟨rfl,hA2,hb2,hk2⟩
 have hB2:Below base w w2:=hB.trans ((hbW.mono (by omega)).trans hb2)
 have HKO2:Hid (KeepO B w w2):=hI0 ((HKO.out.trans (KeepO.of_below hbW)).trans hk2)
 have hA2':Hid (BufAt w2 base B (l++encI ps.length++encVers ((ps.map (·.2)).take (k+1)))):=hI0 zi5
 clear hk2 KV hA2
 go_wp2_with fail
 go_roundw
 case rel=>exact ⟨k+1,by go_num,by omega,hA2',hB2,HKO2⟩
 case measure=>simp [intOf];omega
def EncVOut (ps:List VP) (w0:World) (e:Ending) (w:World):Prop:=
 ∃u,e=.returned (.tuple #[u,.int .i64 (encVsE (ps.map (·.2)))])∧Bl w0 w∧(encVsE (ps.map (·.2))=0→OwnB w w0.heap.size u (encVsB (ps.map (·.2))))∧(encVsE (ps.map (·.2))≠0→u=.slice none 0 0)
theorem EncVOut.bad {ps:List VP} {w0 w:World} {e:Ending} {r:Int} (h:encVsE (ps.map (·.2))=r) (h0:r≠0) (he:e=.returned (.tuple #[.slice none 0 0,.int .i64 r])) (hb:Bl w0 w):EncVOut ps w0 e w:=
 ⟨_,by rw [h];exact he,hb,fun h1=>absurd (h.symm.trans h1) h0,fun _=>rfl⟩
theorem encodeVersions_any (v:Value) (ps:List VP) (w:World) (hv:RdVs w (ltw w) v ps):
  Calls prog 31 #[v] w (EncVOut ps w):=by
 obtain ⟨A,c,rfl,hc1,hc2,hc3⟩:=hv.1.open_
 unfold maxLen at hc2
 have KC:=checkVersions_any _ ps w hv
 have HVS:=hI0 hv
 clear hv
 by_cases hn:4096<ps.length
 case pos=>
  have HE:Hid (encVsE (ps.map (·.2))=5):=hI0 (by unfold encVsE;rw [if_pos (by simpa using hn)])
  have hz:(4096:Int)<(ps.length:Int):=by omega
  go_in
  go_wp2_with fail
  go_ret2
  exact EncVOut.bad HE.out (by decide) rfl (Below.refl _ _)
 have hz:¬(4096:Int)<(ps.length:Int):=by omega
 obtain ⟨ce,hce⟩:=eN0 (chkFrom none (ps.map (·.2)))
 rw [←hce] at KC
 have HCE:=hI0 hce
 have HN:=hI0 hn
 clear hce hn
 by_cases h0:ce=0
 case neg=>
  have HE:Hid (encVsE (ps.map (·.2))=ce):=hI0 (by unfold encVsE;rw [if_neg (by simpa using HN.out),←HCE.out,if_pos h0])
  have H0:=hI0 h0
  go_in
  go_wp2_with fail
  (with_reducible refine KC.mono ?_)
  rintro _ w1 ⟨rfl,hb1⟩
  go_wp2_with fail
  all_goals first|(exfalso;exact H0.out (by assumption))|skip
  go_ret2
  exact EncVOut.bad HE.out H0.out rfl hb1
 subst h0
 have hval:∀p∈ps,validVer p.2=true:=fun p hp=>chkFrom_valid HCE.out.symm _ (List.mem_map.2 ⟨p,hp,rfl⟩)
 have HVL:=hI0 hval
 clear hval
 go_in
 go_wp2_with fail
 (with_reducible refine KC.mono ?_)
 rintro _ w1 ⟨rfl,hb1⟩
 go_wp2_with fail
 obtain ⟨W1,hW1⟩:=eN0 (w1.alloc (.cells #[.slice none 0 0] 123))
 have hbW:Bl w1 W1:=by subst hW1;exact Below.of_alloc _
 have hWs:W1.heap.size=w1.heap.size+1:=by subst hW1;simp
 have hA:BufAt W1 w1.heap.size w1.heap.size []:=⟨_,by subst hW1;exact heap_alloc_new w1 _,World.ownsRow_nil _ _ _ _⟩
 have hs1:=hb1.size
 rw [←hW1]
 clear hW1
 have hbw:Bl w W1:=hb1.trans (hbW.mono hs1)
 have KP:=put_any' w1.heap.size w1.heap.size [] _ ps W1 (Nat.le_refl _) hA ((HVS.out.keep (Keeps.below hbw)).wide (fun b (h:b<w.heap.size)=>by show b<w1.heap.size;omega)) HVL.out (by have:=HN.out;omega) (by simp)
 (with_reducible refine KP.mono ?_)
 rintro _ w2 ⟨rfl,hA2,hb2,_⟩
 rw [List.nil_append] at hA2
 have hB2:Bl w w2:=hbw.trans (hb2.mono hs1)
 obtain ⟨vb,hvb,hO⟩:=hA2
 have hO':OwnB w2 w.heap.size vb (encVsB (ps.map (·.2))):=own_baseC hO hs1
 have kc:w2.cell? ⟨w1.heap.size,0,none⟩=some vb:=cW0 w2 w1.heap.size 0 _ _ _ hvb
 obtain ⟨Ab,cb,rfl,j1,j2,j3⟩:=Rd.open_ hO'.rd
 have HO:=hI0 hO'
 have HEB:Hid (encVsE (ps.map (·.2))=if 1048576<(encVsB (ps.map (·.2))).length then 5 else 0):=hI0 (by unfold encVsE;rw [if_neg (by simpa using HN.out),←HCE.out,if_neg (by simp)])
 clear hvb hO hO' j3 j2 KP hA
 generalize hm:(encVsB (ps.map (·.2))).length=m at *
 have HM:=hI0 hm
 clear hm
 by_cases hbig:1048576<m
 case pos=>
  have HE:Hid (encVsE (ps.map (·.2))=5):=hI0 (by rw [HEB.out,if_pos hbig])
  have hbz:(1048576:Int)<(m:Int):=by omega
  go_wp2_with fail
  go_ret2
  exact EncVOut.bad HE.out (by decide) rfl hB2
 have HE:Hid (encVsE (ps.map (·.2))=0):=hI0 (by rw [HEB.out,if_neg hbig])
 have hbz:¬(1048576:Int)<(m:Int):=by omega
 go_wp2_with fail
 go_ret2
 refine ⟨.slice Ab m cb,?_,hB2,fun _=>HO.out,fun h=>absurd HE.out h⟩
 show Ending.returned (.tuple #[.slice Ab m cb,.int .i64 0])=_
 rw [HE.out]
theorem encVsE_one (x:Ver) (hok:∀v∈x.row,goV v):encVsE [x]=if validVer x=true then 0 else 8:=by
 have hc:chkFrom none [x]=if validVer x=true then 0 else 8:=by rw [chkFrom_cons];rfl
 unfold encVsE
 rw [if_neg (by simp),hc]
 by_cases h:validVer x=true
 ·rw [if_pos h,if_neg (by simp)]
  have:=(encVer_le h hok).1
  have e:=encI_length ([x].length:Nat)
  rw [if_neg]
  unfold encVsB encVers
  simp only [List.flatMap_singleton,List.length_append]
  omega
 ·rw [if_neg h,if_pos (by decide)]
theorem infoVer:(prog.info? 56).map (fun i=>(i.zero,i.size,i.bytes))=some (some (.agg #[.int .i64 0,.int .i64 0,.slice none 0 0,.int .i64 0,.int .i64 0,.int .i64 0,.int .i64 0,.int .i64 0,.int .i64 0]),9,88):=by kernel_rfl
end Go.Proofs.YtgfhknnklapldaaGreatDoor
