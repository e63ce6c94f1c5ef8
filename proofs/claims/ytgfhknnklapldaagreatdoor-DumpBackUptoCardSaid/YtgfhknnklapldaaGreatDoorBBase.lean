/-
 Base
-/
import Derived.WalkKit
import Derived.WalkSpells
import Derived.Maps.AppendAt
import Derived.ArgAppend
import Derived.Lib.AppendStr
import Derived.Lib.Hide
import Derived.Deep.Draws
import Derived.Laws.BitsAllLaws
import Derived.Laws.BitsLemmas
import Derived.Test.YtgfhknnklapldaaGreatDoorChecked
import Derived.Laws.BytesArg
import Derived.Lib.ConvBytes
import Derived.WalkLawsBesides
import Derived.Deep.RegionHeld3
namespace Go.Proofs.YtgfhknnklapldaaGreatDoor
open Go.Proofs.Tryz
inductive Tg (n:Nat):Prop|mk
theorem zq9 {P:Prop} (i:Nat) (h:Tg i→P:=by
 intro zT9
 first
  |guard_hyp zT9:Tg 1;have hx:a &&& b<2 ^ 8:=Nat.and_lt_two_pow _ (by omega)
  |have hx:a ||| b<2 ^ 8:=Nat.or_lt_two_pow (by omega) (by omega)
 have e:∀c:Nat,c<256→(BitVec.ofInt 8 (c:Int)).toNat=c:=fun c hc=>by
  rw [BitVec.ofInt_natCast,BitVec.toNat_ofNat];exact Nat.mod_eq_of_lt (by omega)
 first
  |guard_hyp zT9:Tg 1;show IntKind.u8.wrap ((BitVec.ofInt 8 (a:Int) &&& BitVec.ofInt 8 (b:Int)).toNat:Int)=_
   rw [BitVec.toNat_and,e a ha,e b hb]
  |show IntKind.u8.wrap ((BitVec.ofInt 8 (a:Int) ||| BitVec.ofInt 8 (b:Int)).toNat:Int)=_
   rw [BitVec.toNat_or,e a ha,e b hb]
 simp only [IntKind.wrap,IntKind.signed,IntKind.bits]
 simp
 omega) : P := h ⟨⟩
theorem zq10 {P:Prop} (i:Nat) (h:Tg i→P:=by
 intro zT10
 refine ⟨h.1,?_⟩
 rcases h.2 with ⟨rfl,rfl⟩|⟨g,cap,cur,rfl,hb,hg,hnc,hcm,hcs,htake⟩
 ·exact ⟨none,0,rfl,Nat.le_refl _,Nat.zero_le _,fun _=>rfl,fun h=>absurd h (by omega)⟩
 ·first
   |guard_hyp zT10:Tg 1;exact ⟨_,cap,rfl,hnc,hcm,fun h=>(Option.some_ne_none _ h).elim,fun _=>⟨_,rfl,rfl,h.cells (g:=g) rfl⟩⟩
   |exact ⟨_,cap,rfl,hnc,hcm,fun h=>(Option.some_ne_none _ h).elim,fun _=>⟨_,rfl,⟨hb,(Array.getElem?_eq_some_iff.1 hg).1⟩,h.cells (g:=g) rfl⟩⟩) : P := h ⟨⟩
theorem zq11 {P:Prop} (i:Nat) (h:Tg i→P:=by
 intro zT11
 subst hd
 simp only [Bool.and_eq_true,bne_iff_ne] at hwt
 have hi':ops[i]? =some oi:=by rw [←Array.getElem?_toList];exact hi
 first
  |guard_hyp zT11:Tg 3;exact wpAnyU_first hi' (Region.noSelect_spec hs) hQ hwt.1 hwt.2 fuel listed a w (Region.free_spec hi' hf) (by simpa using hr) (.inl ⟨hw,hy⟩) hS h
  |guard_hyp zT11:Tg 2;exact wpAnyT_first hi' (Region.noSelect_spec hs) hQ hwt.1 hwt.2 fuel listed a w (Region.free_spec hi' hf) (by simpa using hr) (.inl ⟨hw,hy⟩) hS h
  |guard_hyp zT11:Tg 1;exact wpAnyU_first hi' (Region.noSelect_spec hs) hQ hwt.1 hwt.2 fuel listed a w (Region.free_spec hi' hf) (by simpa using hr) (.inr ⟨hw,rfl⟩) hS h
  |exact wpAnyT_first hi' (Region.noSelect_spec hs) hQ hwt.1 hwt.2 fuel listed a w (Region.free_spec hi' hf) (by simpa using hr) (.inr ⟨hw,rfl⟩) hS h) : P := h ⟨⟩
theorem zq12 {P:Prop} (h:P:=by
 refine ⟨fun h0=>(by rw [hr] at h0;cases h0),fun j hj=>?_⟩
 rw [hr,List.mem_singleton] at hj
 subst hj
 have hi':ops[j]? =some oi:=by rw [←Array.getElem?_toList];exact hi
 unfold wpOp
 simp only [hi',hw,if_true]
 exact .inl h) : P := h
theorem zq17 {P:Prop} (i:Nat) (h:Tg i→P:=by
 intro zT17
 first
  |guard_hyp zT17:Tg 1;rw [if_pos h,h]
   have e:(BitVec.ofInt 64 (-((1:Nat):Int))).toNat=18446744073709551615:=by decide
   rw [e]
  |have e1:IntKind.u64.wrap (IntKind.u64.wrap n*2)=(((2*n+18446744073709551616).toNat:Nat):Int):=by rw [ew,ew];omega
   have e2:IntKind.u64.wrap (n / 9223372036854775808)=((18446744073709551615:Nat):Int):=by rw [ew];omega
   rw [e1,e2,u64_xor_nat _ _ (by omega) (by omega)]
   have h64:(2*n+18446744073709551616).toNat<2 ^ 64:=by omega
 have key:∀a:Nat,a<2 ^ 64→a ^^^ 18446744073709551615=18446744073709551615-a:=by
  intro a ha
  have:=BitVec.toNat_not (x:=BitVec.ofNat 64 a)
  have e3:(BitVec.ofNat 64 a).toNat=a:=by rw [BitVec.toNat_ofNat];exact Nat.mod_eq_of_lt ha
  rw [BitVec.not_def,BitVec.toNat_xor,e3] at this
  simpa [Nat.xor_comm] using this
 first
  |guard_hyp zT17:Tg 1;rw [key _ (by omega)]
  |rw [key _ h64]
   unfold zz
   rw [if_pos hn]
 omega) : P := h ⟨⟩
theorem zi9 {P:Prop} (h:P:=by simp only [maxLen];omega):P:=h
theorem cW1 {w:World} {g:Nat} {cs:Array Value} {t:TypeId} {fr:Nat×Nat} {v:Value} (j:Nat) (h:w.heap[g]? =some (.cells cs t fr)) (hv:cs[j]? =some v):w.cell? ⟨g,j,none⟩=some v:=(Go.cell_of_row w g j cs t fr h).trans hv
theorem hN0 {w W:World} {o:Obj} (h:W=w.alloc o):W.heap[w.heap.size]? =some o:=by rw [h];exact heap_alloc_new _ _
theorem bN0 {w W:World} {o:Obj} (h:W=w.alloc o):Go.RowKit.Below w.heap.size w W:=by rw [h];exact (Go.RowKit.Below.refl _ _).alloc (Nat.le_refl _) o
theorem sN0 {w W:World} {o:Obj} (h:W=w.alloc o):W.heap.size=w.heap.size+1:=by rw [h];simp
theorem eN0 {α:Sort _} (x:α):∃y,y=x:=⟨_,rfl⟩
theorem cX2 {w:World} {g:Nat} {t:TypeId} {fr:Nat×Nat} {a0 a1:Value} (h:w.heap[g]? =some (.cells #[a0,a1] t fr)):w.cell? ⟨g,0,none⟩=some a0∧w.cell? ⟨g,1,none⟩=some a1:=⟨cW1 0 h rfl,cW1 1 h rfl⟩
theorem cX5 {w:World} {g:Nat} {t:TypeId} {fr:Nat×Nat} {a0 a1 a2 a3 a4:Value} (h:w.heap[g]? =some (.cells #[a0,a1,a2,a3,a4] t fr)):w.cell? ⟨g,0,none⟩=some a0∧w.cell? ⟨g,1,none⟩=some a1∧w.cell? ⟨g,2,none⟩=some a2∧w.cell? ⟨g,3,none⟩=some a3∧w.cell? ⟨g,4,none⟩=some a4:=⟨cW1 0 h rfl,cW1 1 h rfl,cW1 2 h rfl,cW1 3 h rfl,cW1 4 h rfl⟩
theorem cX6 {w:World} {g:Nat} {t:TypeId} {fr:Nat×Nat} {a0 a1 a2 a3 a4 a5:Value} (h:w.heap[g]? =some (.cells #[a0,a1,a2,a3,a4,a5] t fr)):w.cell? ⟨g,0,none⟩=some a0∧w.cell? ⟨g,1,none⟩=some a1∧w.cell? ⟨g,2,none⟩=some a2∧w.cell? ⟨g,3,none⟩=some a3∧w.cell? ⟨g,4,none⟩=some a4∧w.cell? ⟨g,5,none⟩=some a5:=⟨cW1 0 h rfl,cW1 1 h rfl,cW1 2 h rfl,cW1 3 h rfl,cW1 4 h rfl,cW1 5 h rfl⟩
theorem cX7 {w:World} {g:Nat} {t:TypeId} {fr:Nat×Nat} {a0 a1 a2 a3 a4 a5 a6:Value} (h:w.heap[g]? =some (.cells #[a0,a1,a2,a3,a4,a5,a6] t fr)):w.cell? ⟨g,0,none⟩=some a0∧w.cell? ⟨g,1,none⟩=some a1∧w.cell? ⟨g,2,none⟩=some a2∧w.cell? ⟨g,3,none⟩=some a3∧w.cell? ⟨g,4,none⟩=some a4∧w.cell? ⟨g,5,none⟩=some a5∧w.cell? ⟨g,6,none⟩=some a6:=⟨cW1 0 h rfl,cW1 1 h rfl,cW1 2 h rfl,cW1 3 h rfl,cW1 4 h rfl,cW1 5 h rfl,cW1 6 h rfl⟩
theorem cX9 {w:World} {g:Nat} {t:TypeId} {fr:Nat×Nat} {a0 a1 a2 a3 a4 a5 a6 a7 a8:Value} (h:w.heap[g]? =some (.cells #[a0,a1,a2,a3,a4,a5,a6,a7,a8] t fr)):w.cell? ⟨g,0,none⟩=some a0∧w.cell? ⟨g,1,none⟩=some a1∧w.cell? ⟨g,2,none⟩=some a2∧w.cell? ⟨g,3,none⟩=some a3∧w.cell? ⟨g,4,none⟩=some a4∧w.cell? ⟨g,5,none⟩=some a5∧w.cell? ⟨g,6,none⟩=some a6∧w.cell? ⟨g,7,none⟩=some a7∧w.cell? ⟨g,8,none⟩=some a8:=⟨cW1 0 h rfl,cW1 1 h rfl,cW1 2 h rfl,cW1 3 h rfl,cW1 4 h rfl,cW1 5 h rfl,cW1 6 h rfl,cW1 7 h rfl,cW1 8 h rfl⟩
theorem cX10 {w:World} {g:Nat} {t:TypeId} {fr:Nat×Nat} {a0 a1 a2 a3 a4 a5 a6 a7 a8 a9:Value} (h:w.heap[g]? =some (.cells #[a0,a1,a2,a3,a4,a5,a6,a7,a8,a9] t fr)):w.cell? ⟨g,0,none⟩=some a0∧w.cell? ⟨g,1,none⟩=some a1∧w.cell? ⟨g,2,none⟩=some a2∧w.cell? ⟨g,3,none⟩=some a3∧w.cell? ⟨g,4,none⟩=some a4∧w.cell? ⟨g,5,none⟩=some a5∧w.cell? ⟨g,6,none⟩=some a6∧w.cell? ⟨g,7,none⟩=some a7∧w.cell? ⟨g,8,none⟩=some a8∧w.cell? ⟨g,9,none⟩=some a9:=⟨cW1 0 h rfl,cW1 1 h rfl,cW1 2 h rfl,cW1 3 h rfl,cW1 4 h rfl,cW1 5 h rfl,cW1 6 h rfl,cW1 7 h rfl,cW1 8 h rfl,cW1 9 h rfl⟩
theorem cX16 {w:World} {g:Nat} {t:TypeId} {fr:Nat×Nat} {a0 a1 a2 a3 a4 a5 a6 a7 a8 a9 a10 a11 a12 a13 a14 a15:Value} (h:w.heap[g]? =some (.cells #[a0,a1,a2,a3,a4,a5,a6,a7,a8,a9,a10,a11,a12,a13,a14,a15] t fr)):w.cell? ⟨g,0,none⟩=some a0∧w.cell? ⟨g,1,none⟩=some a1∧w.cell? ⟨g,2,none⟩=some a2∧w.cell? ⟨g,3,none⟩=some a3∧w.cell? ⟨g,4,none⟩=some a4∧w.cell? ⟨g,5,none⟩=some a5∧w.cell? ⟨g,6,none⟩=some a6∧w.cell? ⟨g,7,none⟩=some a7∧w.cell? ⟨g,8,none⟩=some a8∧w.cell? ⟨g,9,none⟩=some a9∧w.cell? ⟨g,10,none⟩=some a10∧w.cell? ⟨g,11,none⟩=some a11∧w.cell? ⟨g,12,none⟩=some a12∧w.cell? ⟨g,13,none⟩=some a13∧w.cell? ⟨g,14,none⟩=some a14∧w.cell? ⟨g,15,none⟩=some a15:=⟨cW1 0 h rfl,cW1 1 h rfl,cW1 2 h rfl,cW1 3 h rfl,cW1 4 h rfl,cW1 5 h rfl,cW1 6 h rfl,cW1 7 h rfl,cW1 8 h rfl,cW1 9 h rfl,cW1 10 h rfl,cW1 11 h rfl,cW1 12 h rfl,cW1 13 h rfl,cW1 14 h rfl,cW1 15 h rfl⟩
theorem cK2 {w:World} {b o k:Nat} {l:List Value} {a0 a1:Value} (h:∀j u,j<2→l[j]? =some u→w.cell? ⟨b,o+k*2+j,none⟩=some u) (hl:l=[a0,a1]):w.cell? ⟨b,o+k*2,none⟩=some a0∧w.cell? ⟨b,o+k*2+1,none⟩=some a1:=by subst hl;exact ⟨h 0 _ (by decide) rfl,h 1 _ (by decide) rfl⟩
theorem cK3 {w:World} {b o k:Nat} {l:List Value} {a0 a1 a2:Value} (h:∀j u,j<3→l[j]? =some u→w.cell? ⟨b,o+k*3+j,none⟩=some u) (hl:l=[a0,a1,a2]):w.cell? ⟨b,o+k*3,none⟩=some a0∧w.cell? ⟨b,o+k*3+1,none⟩=some a1∧w.cell? ⟨b,o+k*3+2,none⟩=some a2:=by subst hl;exact ⟨h 0 _ (by decide) rfl,h 1 _ (by decide) rfl,h 2 _ (by decide) rfl⟩
theorem cK6 {w:World} {b o k:Nat} {l:List Value} {a0 a1 a2 a3 a4 a5:Value} (h:∀j u,j<6→l[j]? =some u→w.cell? ⟨b,o+k*6+j,none⟩=some u) (hl:l=[a0,a1,a2,a3,a4,a5]):w.cell? ⟨b,o+k*6,none⟩=some a0∧w.cell? ⟨b,o+k*6+1,none⟩=some a1∧w.cell? ⟨b,o+k*6+2,none⟩=some a2∧w.cell? ⟨b,o+k*6+3,none⟩=some a3∧w.cell? ⟨b,o+k*6+4,none⟩=some a4∧w.cell? ⟨b,o+k*6+5,none⟩=some a5:=by subst hl;exact ⟨h 0 _ (by decide) rfl,h 1 _ (by decide) rfl,h 2 _ (by decide) rfl,h 3 _ (by decide) rfl,h 4 _ (by decide) rfl,h 5 _ (by decide) rfl⟩
theorem cK7 {w:World} {b o k:Nat} {l:List Value} {a0 a1 a2 a3 a4 a5 a6:Value} (h:∀j u,j<7→l[j]? =some u→w.cell? ⟨b,o+k*7+j,none⟩=some u) (hl:l=[a0,a1,a2,a3,a4,a5,a6]):w.cell? ⟨b,o+k*7,none⟩=some a0∧w.cell? ⟨b,o+k*7+1,none⟩=some a1∧w.cell? ⟨b,o+k*7+2,none⟩=some a2∧w.cell? ⟨b,o+k*7+3,none⟩=some a3∧w.cell? ⟨b,o+k*7+4,none⟩=some a4∧w.cell? ⟨b,o+k*7+5,none⟩=some a5∧w.cell? ⟨b,o+k*7+6,none⟩=some a6:=by subst hl;exact ⟨h 0 _ (by decide) rfl,h 1 _ (by decide) rfl,h 2 _ (by decide) rfl,h 3 _ (by decide) rfl,h 4 _ (by decide) rfl,h 5 _ (by decide) rfl,h 6 _ (by decide) rfl⟩
theorem cK9 {w:World} {b o k:Nat} {l:List Value} {a0 a1 a2 a3 a4 a5 a6 a7 a8:Value} (h:∀j u,j<9→l[j]? =some u→w.cell? ⟨b,o+k*9+j,none⟩=some u) (hl:l=[a0,a1,a2,a3,a4,a5,a6,a7,a8]):w.cell? ⟨b,o+k*9,none⟩=some a0∧w.cell? ⟨b,o+k*9+1,none⟩=some a1∧w.cell? ⟨b,o+k*9+2,none⟩=some a2∧w.cell? ⟨b,o+k*9+3,none⟩=some a3∧w.cell? ⟨b,o+k*9+4,none⟩=some a4∧w.cell? ⟨b,o+k*9+5,none⟩=some a5∧w.cell? ⟨b,o+k*9+6,none⟩=some a6∧w.cell? ⟨b,o+k*9+7,none⟩=some a7∧w.cell? ⟨b,o+k*9+8,none⟩=some a8:=by subst hl;exact ⟨h 0 _ (by decide) rfl,h 1 _ (by decide) rfl,h 2 _ (by decide) rfl,h 3 _ (by decide) rfl,h 4 _ (by decide) rfl,h 5 _ (by decide) rfl,h 6 _ (by decide) rfl,h 7 _ (by decide) rfl,h 8 _ (by decide) rfl⟩
theorem cK16 {w:World} {b o k:Nat} {l:List Value} {a0 a1 a2 a3 a4 a5 a6 a7 a8 a9 a10 a11 a12 a13 a14 a15:Value} (h:∀j u,j<16→l[j]? =some u→w.cell? ⟨b,o+k*16+j,none⟩=some u) (hl:l=[a0,a1,a2,a3,a4,a5,a6,a7,a8,a9,a10,a11,a12,a13,a14,a15]):w.cell? ⟨b,o+k*16,none⟩=some a0∧w.cell? ⟨b,o+k*16+1,none⟩=some a1∧w.cell? ⟨b,o+k*16+2,none⟩=some a2∧w.cell? ⟨b,o+k*16+3,none⟩=some a3∧w.cell? ⟨b,o+k*16+4,none⟩=some a4∧w.cell? ⟨b,o+k*16+5,none⟩=some a5∧w.cell? ⟨b,o+k*16+6,none⟩=some a6∧w.cell? ⟨b,o+k*16+7,none⟩=some a7∧w.cell? ⟨b,o+k*16+8,none⟩=some a8∧w.cell? ⟨b,o+k*16+9,none⟩=some a9∧w.cell? ⟨b,o+k*16+10,none⟩=some a10∧w.cell? ⟨b,o+k*16+11,none⟩=some a11∧w.cell? ⟨b,o+k*16+12,none⟩=some a12∧w.cell? ⟨b,o+k*16+13,none⟩=some a13∧w.cell? ⟨b,o+k*16+14,none⟩=some a14∧w.cell? ⟨b,o+k*16+15,none⟩=some a15:=by subst hl;exact ⟨h 0 _ (by decide) rfl,h 1 _ (by decide) rfl,h 2 _ (by decide) rfl,h 3 _ (by decide) rfl,h 4 _ (by decide) rfl,h 5 _ (by decide) rfl,h 6 _ (by decide) rfl,h 7 _ (by decide) rfl,h 8 _ (by decide) rfl,h 9 _ (by decide) rfl,h 10 _ (by decide) rfl,h 11 _ (by decide) rfl,h 12 _ (by decide) rfl,h 13 _ (by decide) rfl,h 14 _ (by decide) rfl,h 15 _ (by decide) rfl⟩
abbrev Bl (w w':World):Prop:=Go.RowKit.Below w.heap.size w w'
theorem bU0 {w y z:World} (h:Go.RowKit.Hid (Bl w y)) (k:Bl y z):Bl w z:=h.out.trans (k.mono h.out.size)
theorem bT0 {w y z:World} (h:Go.RowKit.Hid (Bl w y)) (k:Bl y z):Go.RowKit.Hid (Bl w z):=Go.Lib.hid (bU0 h k)
abbrev ltw (w:World):Nat→Prop:=(·<w.heap.size)
abbrev cZ0:Array Value:=#[.int .i64 0,.int .i64 0,.int .i64 0,.int .i64 0,.slice none 0 0,.slice none 0 0,.slice none 0 0,.slice none 0 0,.slice none 0 0,.slice none 0 0]
theorem gL0 {w:World} {g:Nat} {o:Obj} (h:w.heap[g]? =some o):g<w.heap.size:=(Array.getElem?_eq_some_iff.1 h).1
theorem rL0 {a b c:List UInt8} {N:Nat} (h:c=a++b) (hl:c.length≤N):a.length≤N:=by rw [h,List.length_append] at hl;omega
theorem hI0 {p:Prop} (h:p):RowKit.Hid p:=Go.Lib.hid h
theorem cW0 (w:World) (g j:Nat) (cs:Array Value) (t:TypeId) (fr:Nat×Nat) (hg:w.heap[g]? =some (.cells cs t fr)):w.cell? ⟨g,j,none⟩=cs[j]? :=Go.cell_of_row w g j cs t fr hg
theorem fW0 (w:World) (g j:Nat) (cs:Array Value) (t:TypeId) (hg:w.heap[g]? =some (.cells cs t (0,0))):w.frozen? ⟨g,j,none⟩=false:=Go.frozen_of_row w g j cs t hg
set_option maxRecDepth 99999
set_option maxHeartbeats 0
section
open Go.RowKit
theorem block_add (a:Addr) (n:Nat):(a.add n).block=a.block:=by unfold Addr.add;split<;>rfl
theorem add_add' (a:Addr) (i j:Nat):(a.add i).add j=a.add (i+j):=by
 unfold Addr.add
 by_cases hi:i=0<;>by_cases hj:j=0<;>simp [hi,hj,Nat.add_assoc]
theorem add_zero' (a:Addr):a.add 0=a:=by simp [Addr.add]
def Rd (w:World) (F:Nat→Prop) (size:Nat) (v:Value) (n:Nat) (cs:List Value):Prop:=
 cs.length=n*size∧∃A c,v=.slice A n c∧n≤c∧c≤maxLen∧(A=none→c=0)∧
  (0<n→∃ad:Addr,A=some ad∧F ad.block∧∀j u,cs[j]? =some u→w.cell? (ad.add j)=some u)
def Keeps (F:Nat→Prop) (w w':World):Prop:=∀b,F b→w'.heap[b]? =w.heap[b]?
theorem Keeps.refl (F:Nat→Prop) (w:World):Keeps F w w:=fun _ _=>rfl
theorem Keeps.trans {F:Nat→Prop} {a b c:World} (h:Keeps F a b) (k:Keeps F b c):Keeps F a c:=fun i hi=>(k i hi).trans (h i hi)
theorem Keeps.mono {F G:Nat→Prop} {a b:World} (h:Keeps F a b) (k:∀i,G i→F i):Keeps G a b:=fun i hi=>h i (k i hi)
theorem Keeps.below {B:Nat} {w w':World} (h:Below B w w'):Keeps (·<B) w w':=fun b hb=>h.block b hb
section
variable {w w':World} {F G:Nat→Prop} {size n:Nat} {v:Value} {cs:List Value}
theorem Rd.len (h:Rd w F size v n cs):cs.length=n*size:=h.1
theorem Rd.keep (h:Rd w F size v n cs) (hk:Keeps F w w'):Rd w' F size v n cs:=by
 obtain ⟨h1,A,c,hv,h2,h3,h4,h5⟩:=h
 refine ⟨h1,A,c,hv,h2,h3,h4,fun hn=>?_⟩
 obtain ⟨ad,e,hb,hc⟩:=h5 hn
 exact ⟨ad,e,hb,fun j u hu=>(World.cell?_of_block (w:=w) (hk _ (by rw [block_add];exact hb))).trans (hc j u hu)⟩
theorem Rd.wide (h:Rd w F size v n cs) (hk:∀b,F b→G b):Rd w G size v n cs:=by
 obtain ⟨h1,A,c,hv,h2,h3,h4,h5⟩:=h
 refine ⟨h1,A,c,hv,h2,h3,h4,fun hn=>?_⟩
 obtain ⟨ad,e,hb,hc⟩:=h5 hn
 exact ⟨ad,e,hk _ hb,hc⟩
theorem Rd.below {B:Nat} (h:Rd w (·<B) size v n cs) (hb:Below B w w'):Rd w' (·<B) size v n cs:=h.keep (Keeps.below hb)
theorem Rd.nil (w:World) (F:Nat→Prop) (size:Nat):Rd w F size (.slice none 0 0) 0 []:=
 ⟨by simp,none,0,rfl,Nat.le_refl _,Nat.zero_le _,fun _=>rfl,fun h=>absurd h (by omega)⟩
theorem Rd.nonneg (h:Rd w F size v n cs):n≤maxLen:=by
 obtain ⟨h1,A,c,hv,h2,h3,h4,h5⟩:=h;omega
theorem Rd.open_ (h:Rd w F size v n cs):∃A c,v=.slice A n c∧n≤c∧c≤maxLen∧(A=none→c=0):=by
 obtain ⟨h1,A,c,hv,h2,h3,h4,h5⟩:=h;exact ⟨A,c,hv,h2,h3,h4⟩
theorem Rd.at_ {A:Option Addr} {c:Nat} (h:Rd w F size (.slice A n c) n cs) (hn:0<n):∃ad:Addr,A=some ad∧F ad.block∧∀j u,cs[j]? =some u→w.cell? (ad.add j)=some u:=by
 obtain ⟨h1,A',c',hv,h2,h3,h4,h5⟩:=h
 injection hv with e1 e2 e3
 subst e1
 exact h5 hn
theorem Rd.of_own {base:Nat} {e:TypeId} (h:w.ownsRow base e size v n cs):Rd w (fun b=>base≤b∧b<w.heap.size) size v n cs:=by
 exact zq10 0
theorem Rd.of_own' {base:Nat} {e:TypeId} (h:w.ownsRow base e size v n cs):Rd w (fun b=>v.ownBlock=some b) size v n cs:=by
 exact zq10 1
theorem Rd.cut {A:Option Addr} {c l h m:Nat} (hr:Rd w F size (.slice A n c) n cs) (h1:l≤h) (h2:h≤n) (h3:h≤m) (h4:m≤c):
  Rd w F size (.slice (if m=l then A else A.map (·.add (l*size))) (h-l) (m-l)) (h-l) ((cs.drop (l*size)).take ((h-l)*size)):=by
 obtain ⟨e1,A',c',hv,hc,hm,hA,hcell⟩:=hr
 injection hv with q1 q2 q3
 subst q1;subst q3
 refine ⟨?_,_,_,rfl,by omega,by omega,?_,fun hn=>?_⟩
 ·rw [List.length_take,List.length_drop,e1]
  have:(h-l)*size≤n*size-l*size:=by rw [←Nat.sub_mul];exact Nat.mul_le_mul_right _ (by omega)
  omega
 ·intro hnone
  by_cases hml:m=l
  ·omega
  ·rw [if_neg hml] at hnone
   have:=hA (by simpa using hnone)
   omega
 ·obtain ⟨ad,rfl,hb,hx⟩:=hcell (by omega)
  rw [if_neg (by omega)]
  refine ⟨ad.add (l*size),rfl,by rw [block_add];exact hb,fun j u hu=>?_⟩
  rw [add_add']
  rw [List.getElem?_take] at hu
  split at hu
  ·rw [List.getElem?_drop] at hu
   exact hx _ u hu
  ·cases hu
end
def App (w:World) (base:Nat) (e:TypeId) (size:Nat) (v:Value) (n:Nat) (cs:List Value):Prop:=
 w.ownsRow base e size v n cs∨(Rd w (·<base) size v n cs∧∃A,v=.slice A n n)
theorem App.rd {w:World} {base:Nat} {e:TypeId} {size n:Nat} {v:Value} {cs:List Value} (h:App w base e size v n cs) (hb:base≤w.heap.size):Rd w (ltw w) size v n cs:=by
 rcases h with h|⟨h,_⟩
 ·exact (Rd.of_own h).wide fun b hb=>hb.2
 ·exact h.wide fun b h'=>by omega
section
variable {P:Program} (w:World)
theorem run_append_zero (t ty e:TypeId) (i:TypeInfo) (ht:P.underlying t=some (.slice e)) (hi:P.info? e=some i)
  (A X:Option Addr) (n cap c:Nat) (hnc:n≤cap):(Builtin.append_ #[t,t] ty #[.slice A n cap,.slice X 0 c]).run P w=.ok (.slice A n cap) w:=by
 cases A<;>cases X<;>simp [Builtin.append_,run_underlying ht,sizeOf,typeInfo,hi,Builtin.lenOf,Builtin.firstCells,hnc,storeCells,loadCells,loadCellsFrom]
theorem run_append_app (base:Nat) (t ty e:TypeId) (i:TypeInfo) (z:Value) (size bytes:Nat) (ht:P.underlying t=some (.slice e)) (hi:P.info? e=some i) (hz:i.zero=some z)
  (hsize:i.size=size) (hby:i.bytes=bytes) (hzs:z.cells.size=size) (hsz:0<size)
  (v:Value) (n:Nat) (cs:List Value) (hd:App w base e size v n cs)
  (F:Nat→Prop) (x:Value) (m:Nat) (news:List Value) (hr:Rd w F size x m news) (h1:∀u∈news,u.oneCell'=true)
  (h63:n+m≤maxLen) (hbytes:(n+m)*bytes≤140737488355328) (hbase:base≤w.heap.size):
  ∃v' w',(Builtin.append_ #[t,t] ty #[v,x]).run P w=.ok v' w'∧App w' base e size v' (n+m) (cs++news)∧(0<m∨w.ownsRow base e size v n cs→w'.ownsRow base e size v' (n+m) (cs++news))∧
   w.grownBy w' v.ownBlock∧Below base w w'∧(v'.ownBlock=v.ownBlock∨v'.ownBlock=some w.heap.size):=by
 obtain ⟨hl,X,c,rfl,hmc,hcm,hX,hcell⟩:=hr
 rcases Nat.eq_zero_or_pos m with h0|h0
 ·subst h0
  have hn:news=[]:=List.eq_nil_of_length_eq_zero (by simpa using hl)
  subst hn
  have hvform:∃A cap,v=.slice A n cap∧n≤cap:=by
   rcases hd with hd|⟨_,A,hA⟩
   ·rcases hd.2 with ⟨rfl,rfl⟩|⟨g,cap,cur,rfl,_,_,hnc,_⟩
    ·exact ⟨_,_,rfl,Nat.le_refl _⟩
    ·exact ⟨_,_,rfl,hnc⟩
   ·exact ⟨A,n,hA,Nat.le_refl _⟩
  obtain ⟨A,cap,rfl,hnc⟩:=hvform
  exact ⟨_,w,run_append_zero w t ty e i ht hi A X n cap c hnc,by simpa using hd,fun h=>by rcases h with h|h;(exact absurd h (by omega));simpa using h,World.grownBy.refl w _,Below.refl _ _,.inl rfl⟩
 ·obtain ⟨ad,rfl,hF,hnews⟩:=hcell h0
  rcases hd with hd|⟨hd,A,hA⟩
  ·obtain ⟨v',w',hrun,h2,h3,_,h5⟩:=run_append_own_at (P:=P) w base t ty e i z size bytes ht hi hz hsize hby hzs hsz v n cs hd ad m c news hl hnews h1 h63 hbytes hbase
   exact ⟨v',w',hrun,.inl h2,fun _=>h2,h3,(Below.refl _ _).grown h3 hbase (fun k hk=>(hd.lt k hk).1),h5⟩
  ·subst hA
   obtain ⟨hlo,A',c',hv,_,_,hA0,hold⟩:=hd
   injection hv with q1 q2 q3
   subst q1;subst q3
   subst hsize;subst hby
   have hge:=grownCap_ge w (n+m) n e
   have hcm':grownCap w (n+m) n e≤maxLen:=grownCap_le_maxLen w (n+m) n e h63
   have hlen:(cs++news).length=(n+m)*i.size:=by rw [List.length_append,hlo,hl,Nat.add_mul]
   have hnext:Builtin.nextslicecap (n+m) n*i.bytes≤281474976710656:=by
    have hh:Builtin.nextslicecap (n+m) n≤2*(n+m):=by
     unfold Builtin.nextslicecap
     split
     ·omega
     ·split
      ·omega
      ·simp only [Builtin.growBy]
       repeat' split
       all_goals omega
    calc Builtin.nextslicecap (n+m) n*i.bytes≤(2*(n+m))*i.bytes:=Nat.mul_le_mul_right _ hh
     _=2*((n+m)*i.bytes):=by rw [Nat.mul_assoc]
     _≤281474976710656:=by omega
   have hrun:(Builtin.append_ #[t,t] ty #[.slice A n n,.slice (some ad) m c]).run P w=
     .ok (.slice (some ⟨w.heap.size,0,none⟩) (n+m) (grownCap w (n+m) n e)) (w.drew.alloc (.cells (cs.toArray++news.toArray++Builtin.zeroCells z.cells (grownCap w (n+m) n e-(n+m))) e)):=by
    cases A with
    |none=>
     have hn0:n=0:=hA0 rfl
     subst hn0
     have hc0:cs=[]:=List.eq_nil_of_length_eq_zero (by simpa using hlo)
     subst hc0
     have:=run_append_nil (P:=P) w t ty e i z ht hi hz ad m c news hl hnews h0 (by simp only [maxLen] at h63;omega) (by rw [Nat.zero_add] at hbytes;omega)
     simpa using this
    |some b=>
     refine run_append_grow (P:=P) w t ty e i z ht hi hz b n n cs hlo ?_ ad m c news hl hnews (by omega) (by simp only [maxLen] at h63;omega) hnext
     intro j u hu
     have hn:0<n:=by
      rcases Nat.eq_zero_or_pos n with h|h
      ·subst h
       have hc0:cs=[]:=List.eq_nil_of_length_eq_zero (by simpa using hlo)
       subst hc0
       simp at hu
      ·exact h
     obtain ⟨b',hb',_,hh⟩:=hold hn
     injection hb' with hb'
     subst hb'
     exact hh j u hu
   have ho:(w.drew.alloc (.cells (cs.toArray++news.toArray++Builtin.zeroCells z.cells (grownCap w (n+m) n e-(n+m))) e)).ownsRow base e i.size (.slice (some ⟨w.heap.size,0,none⟩) (n+m) (grownCap w (n+m) n e)) (n+m) (cs++news):=by
    refine ⟨hlen,.inr ⟨w.heap.size,_,_,rfl,hbase,heap_alloc_new w.drew _,hge,hcm',?_,?_⟩⟩
    ·simp only [Array.size_append,List.size_toArray,size_zeroCells,hzs,hlo,hl,←Nat.add_mul]
     congr 1
     omega
    ·simp only [Array.toList_append,List.append_assoc]
     rw [←List.append_assoc,←hlen]
     exact List.take_left
   exact ⟨_,_,hrun,.inl ho,fun _=>ho,⟨rfl,rfl,rfl,by simp,fun k hk _=>Below.heap_alloc w.drew _ k hk⟩,⟨rfl,rfl,rfl,by simp,fun k hk=>Below.heap_alloc w.drew _ k (show k<w.heap.size by omega)⟩,.inr rfl⟩
end
def cutA (A:Option Addr) (m l size:Nat):Option Addr:=if m=l then A else A.map (·.add (l*size))
theorem Rd.cut' {w:World} {F:Nat→Prop} {size n:Nat} {cs:List Value} {A:Option Addr} {c l h m:Nat} (hr:Rd w F size (.slice A n c) n cs) (h1:l≤h) (h2:h≤n) (h3:h≤m) (h4:m≤c):
  Rd w F size (.slice (cutA A m l size) (h-l) (m-l)) (h-l) ((cs.drop (l*size)).take ((h-l)*size)):=hr.cut h1 h2 h3 h4
section
variable {P:Program} {t e:TypeId} {i:TypeInfo} {size:Nat}
theorem run_slice_lo (ht:P.underlying t=some (.slice e)) (hi:P.info? e=some i) (hs:i.size=size) (A:Option Addr) (n c l:Nat) (h1:l≤n) (w:World):
  (Instr.slice t (.slice A n c) (some (.int .i64 (l:Int))) none none).run P w=.ok (.slice (cutA A c l size) (n-l) (c-l)) w:=by
 simp [Instr.slice,run_underlying ht,Instr.sliceBounds,Instr.sliceBound,asIntOf,sizeOf,typeInfo,hi,hs,h1,cutA]
theorem run_slice_hi (ht:P.underlying t=some (.slice e)) (hi:P.info? e=some i) (A:Option Addr) (n c h:Nat) (h1:h≤c) (w:World):
  (Instr.slice t (.slice A n c) none (some (.int .i64 (h:Int))) none).run P w=.ok (.slice A h c) w:=by
 simp [Instr.slice,run_underlying ht,Instr.sliceBounds,Instr.sliceBound,asIntOf,sizeOf,typeInfo,hi,h1,add_zero']
theorem run_slice_lohi (ht:P.underlying t=some (.slice e)) (hi:P.info? e=some i) (hs:i.size=size) (A:Option Addr) (n c l h:Nat) (h1:l≤h) (h2:h≤c) (w:World):
  (Instr.slice t (.slice A n c) (some (.int .i64 (l:Int))) (some (.int .i64 (h:Int))) none).run P w=.ok (.slice (cutA A c l size) (h-l) (c-l)) w:=by
 simp [Instr.slice,run_underlying ht,Instr.sliceBounds,Instr.sliceBound,asIntOf,sizeOf,typeInfo,hi,hs,h1,h2,cutA]
end
section
variable {P:Program} (w:World)
theorem wp_append_app {o:Oper} {a:Act} {K:Act→World→Prop} {Q:Exit→Act→World→Prop} (s x:Operand) (t:TypeId)
  (ho:o.op=.call { callee:=.builtin .append,args:=#[s,x],argTypes:=#[t,t] })
  (base:Nat) (e:TypeId) (i:TypeInfo) (z:Value) (size bytes:Nat) (ht:P.underlying t=some (.slice e)) (hi:P.info? e=some i) (hz:i.zero=some z)
  (hsize:i.size=size) (hby:i.bytes=bytes) (hzs:z.cells.size=size) (hsz:0<size)
  (v:Value) (n:Nat) (cs:List Value) (hs:a.eval s=v) (hd:App w base e size v n cs)
  (F:Nat→Prop) (xv:Value) (m:Nat) (news:List Value) (hx:a.eval x=xv) (hr:Rd w F size xv m news) (h1:∀u∈news,u.oneCell'=true)
  (h63:n+m≤maxLen) (hbytes:(n+m)*bytes≤140737488355328) (hbase:base≤w.heap.size)
  (h:∀v' w',App w' base e size v' (n+m) (cs++news)→(0<m∨w.ownsRow base e size v n cs→w'.ownsRow base e size v' (n+m) (cs++news))→w.grownBy w' v.ownBlock→Below base w w'→
   (v'.ownBlock=v.ownBlock∨v'.ownBlock=some w.heap.size)→K (a.put o.dst v') w'):o.wp P a w K Q:=by
 obtain ⟨v',w',hrun,h2,h3,h4,h5,h6⟩:=run_append_app (P:=P) w base t o.type e i z size bytes ht hi hz hsize hby hzs hsz v n cs hd F xv m news hr h1 h63 hbytes hbase
 unfold Oper.wp execOp
 simp only [ho,resolve,invoke,builtin,Sem.run_bind,Sem.run_pure,Result.andThen_ok,List.map_toArray,List.map_cons,List.map_nil,hs,hx,hrun]
 exact h v' w' h2 h3 h4 h5 h6
theorem wpList_append_app {ops:Array Oper} {rest:List Oper} {o:Oper} {a:Act} {Q:Exit→Act→World→Prop} (hgd:o.guard=none) (s x:Operand) (t:TypeId)
  (ho:o.op=.call { callee:=.builtin .append,args:=#[s,x],argTypes:=#[t,t] })
  (base:Nat) (e:TypeId) (i:TypeInfo) (z:Value) (size bytes:Nat) (ht:P.underlying t=some (.slice e)) (hi:P.info? e=some i) (hz:i.zero=some z)
  (hsize:i.size=size) (hby:i.bytes=bytes) (hzs:z.cells.size=size) (hsz:0<size)
  (v:Value) (n:Nat) (cs:List Value) (hs:a.eval s=v) (hd:App w base e size v n cs)
  (F:Nat→Prop) (xv:Value) (m:Nat) (news:List Value) (hx:a.eval x=xv) (hr:Rd w F size xv m news) (h1:∀u∈news,u.oneCell'=true)
  (h63:n+m≤maxLen) (hbytes:(n+m)*bytes≤140737488355328) (hbase:base≤w.heap.size)
  (h:∀v' w',App w' base e size v' (n+m) (cs++news)→(0<m∨w.ownsRow base e size v n cs→w'.ownsRow base e size v' (n+m) (cs++news))→w.grownBy w' v.ownBlock→Below base w w'→
   (v'.ownBlock=v.ownBlock∨v'.ownBlock=some w.heap.size)→wpList P ops Q rest (a.put o.dst v') w'):wpList P ops Q (o::rest) a w:=
 wpList_plain hgd fun _ hK=>wp_append_app w s x t ho base e i z size bytes ht hi hz hsize hby hzs hsz v n cs hs hd F xv m news hx hr h1 h63 hbytes hbase fun v' w' h2 h3 h4 h5 h6=>hK _ _ (h v' w' h2 h3 h4 h5 h6)
end
section
variable {w w':World} {base:Nat} {e:TypeId} {size n:Nat} {v:Value} {cs:List Value}
theorem App.alloc (h:App w base e size v n cs) (hb:base≤w.heap.size) (o:Obj):App (w.alloc o) base e size v n cs:=by
 rcases h with h|⟨h,hA⟩
 ·exact .inl (h.alloc o)
 ·exact .inr ⟨h.keep fun b hb'=>Below.heap_alloc w o b (by omega),hA⟩
theorem App.below (h:App w base e size v n cs) (hb:base≤w.heap.size) (hx:Bl w w'):App w' base e size v n cs:=by
 rcases h with h|⟨h,hA⟩
 ·exact .inl (h.kept (row:=none) ⟨hx.os,hx.tape,hx.output,hx.size,fun k hk _=>hx.block k hk⟩ (by cases v.ownBlock<;>simp))
 ·exact .inr ⟨h.keep fun b hb'=>hx.block b (by omega),hA⟩
theorem App.len (h:App w base e size v n cs):cs.length=n*size:=by
 rcases h with h|⟨h,_⟩
 ·exact h.1
 ·exact h.1
theorem Rd.new (w:World) (l:List Value) (e:TypeId) (size n:Nat) (hl:l.length=n*size) (hn:n≤maxLen):Rd (w.alloc (.cells l.toArray e)) (·=w.heap.size) size (.slice (some ⟨w.heap.size,0,none⟩) n n) n l:=by
 refine ⟨hl,_,n,rfl,Nat.le_refl _,hn,fun h=>(Option.some_ne_none _ h).elim,fun _=>⟨_,rfl,rfl,fun j u hu=>?_⟩⟩
 have hadd:(⟨w.heap.size,0,none⟩:Addr).add j=⟨w.heap.size,j,none⟩:=by unfold Addr.add;split<;>simp_all
 rw [hadd,cW0 (w.alloc (.cells l.toArray e)) w.heap.size j l.toArray e (0,0) (heap_alloc_new w _)]
 simpa using hu
end
structure Grew (base:Nat) (v0:Value) (w0:World) (v:Value) (w:World):Prop where
 below:Below base w0 w
 grown:w0.grownBy w v0.ownBlock
 at_:v.ownBlock=v0.ownBlock∨∃g,v.ownBlock=some g∧w0.heap.size≤g
theorem Grew.refl (base:Nat) (v:Value) (w:World):Grew base v w v w:=⟨Below.refl _ _,World.grownBy.refl _ _,.inl rfl⟩
theorem Grew.alloc {base:Nat} {v0 v:Value} {w0 w:World} (h:Grew base v0 w0 v w) (hb:base≤w0.heap.size) (o:Obj):Grew base v0 w0 v (w.alloc o):=
 ⟨h.below.alloc (Nat.le_trans hb h.below.size) o,⟨h.grown.os,h.grown.tape,h.grown.output,Nat.le_trans h.grown.size (by simp),fun k hk hne=>(Below.heap_alloc w o k (Nat.lt_of_lt_of_le hk h.grown.size)).trans (h.grown.block k hk hne)⟩,h.at_⟩
theorem Grew.drew {base:Nat} {v0 v:Value} {w0 w:World} (h:Grew base v0 w0 v w):Grew base v0 w0 v w.drew:=
 ⟨h.below.drew,⟨h.grown.os,h.grown.tape,h.grown.output,h.grown.size,h.grown.block⟩,h.at_⟩
theorem Grew.trans {base:Nat} {v0 v v':Value} {w0 w w':World} (h:Grew base v0 w0 v w) (k:Grew base v w v' w'):Grew base v0 w0 v' w':=by
 refine ⟨h.below.trans k.below,⟨k.grown.os.trans h.grown.os,k.grown.tape.trans h.grown.tape,k.grown.output.trans h.grown.output,Nat.le_trans h.grown.size k.grown.size,fun i hi hne=>?_⟩,?_⟩
 ·refine (k.grown.block i (Nat.lt_of_lt_of_le hi h.grown.size) ?_).trans (h.grown.block i hi hne)
  rcases h.at_ with e|⟨g,e,hg⟩
  ·rw [e];exact hne
  ·rw [e];intro h';injection h' with h';omega
 ·rcases k.at_ with e|⟨g,e,hg⟩
  ·rw [e];exact h.at_
  ·exact .inr ⟨g,e,Nat.le_trans h.grown.size hg⟩
theorem Grew.step {base:Nat} {v v':Value} {w w':World} (hg:w.grownBy w' v.ownBlock) (hb:Below base w w') (ha:v'.ownBlock=v.ownBlock∨v'.ownBlock=some w.heap.size):Grew base v w v' w':=
 ⟨hb,hg,ha.imp id fun h=>⟨_,h,Nat.le_refl _⟩⟩
theorem Grew.size {base:Nat} {v0 v:Value} {w0 w:World} (h:Grew base v0 w0 v w):w0.heap.size≤w.heap.size:=h.below.size
theorem one_one {v:Value} (h:v.oneCell'=true):∀u∈[v],u.oneCell'=true:=by
 intro u hu
 rw [List.mem_singleton] at hu
 rw [hu]
 exact h
theorem own_empty (w:World) (base:Nat) (e:TypeId) (size:Nat) (hb:base≤w.heap.size):(w.alloc (.cells #[] e)).ownsRow base e size (.slice (some ⟨w.heap.size,0,none⟩) 0 0) 0 []:=
 World.ownsRow_made (size:=size) w #[] 0 hb (Nat.zero_le _) (by simp)
theorem Rd.alloc {w:World} {size n:Nat} {v:Value} {cs:List Value} {B:Nat} (h:Rd w (·<B) size v n cs) (hB:B≤w.heap.size) (o:Obj):Rd (w.alloc o) (·<B) size v n cs:=
 h.keep fun b hb=>Below.heap_alloc w o b (by omega)
theorem Rd.alloc' {w:World} {size n:Nat} {v:Value} {cs:List Value} (h:Rd w (ltw w) size v n cs) (o:Obj):Rd (w.alloc o) (·<(w.alloc o).heap.size) size v n cs:=
 (h.alloc (Nat.le_refl _) o).wide fun b hb=>by simp;omega
theorem Rd.below' {w w':World} {size n:Nat} {v:Value} {cs:List Value} (h:Rd w (ltw w) size v n cs) (hb:Bl w w'):Rd w' (ltw w') size v n cs:=
 (h.below hb).wide fun _ hb'=>Nat.lt_of_lt_of_le hb' hb.size
theorem Below.of_alloc {w:World} (o:Obj):Bl w (w.alloc o):=(Below.refl _ _).alloc (Nat.le_refl _) o
theorem Below.undrew {B:Nat} {w w':World} (h:Below B w.drew w'):Below B w w':=⟨h.os,h.tape,h.output,h.size,h.block⟩
end
section
open Go.RowKit Go.IntWalk
def bv (l:List UInt8):List Value:=l.map fun b=>.int .u8 b.toNat
theorem bv_length (l:List UInt8):(bv l).length=l.length:=by simp [bv]
theorem bv_append (a b:List UInt8):bv (a++b)=bv a++bv b:=by simp [bv]
theorem bv_one (l:List UInt8):∀u∈bv l,u.oneCell'=true:=by
 intro u hu
 simp only [bv,List.mem_map] at hu
 obtain ⟨b,_,rfl⟩:=hu
 rfl
theorem bv_get {l:List UInt8} {k:Nat} (h:k<l.length):(bv l)[k]? =some (.int .u8 (l[k].toNat)):=by
 simp [bv,h]
def zz (n:Int):Nat:=if n<0 then (2*(-(n+1))+1).toNat else (2*n).toNat
def unzz (z:Nat):Int:=if z % 2=1 then -((z / 2:Nat):Int)-1 else ((z / 2:Nat):Int)
theorem unzz_zz (n:Int):unzz (zz n)=n:=by unfold zz unzz;split<;>split<;>omega
theorem zz_unzz (z:Nat):zz (unzz z)=z:=by unfold zz unzz;split<;>split<;>omega
theorem zz_lt {n:Int} (h1: -9223372036854775808≤n) (h2:n≤9223372036854775807):zz n<18446744073709551616:=by unfold zz;split<;>omega
theorem unzz_bd {z:Nat} (h:z<18446744073709551616): -9223372036854775808≤unzz z∧unzz z≤9223372036854775807:=by unfold unzz;split<;>omega
def vl:Nat→Nat→List UInt8
 |0,u=>[UInt8.ofNat u]
 |f+1,u=>if u<128 then [UInt8.ofNat u] else UInt8.ofNat (u % 128+128)::vl f (u / 128)
def encI (n:Int):List UInt8:=vl 9 (zz n)
theorem vl_small (f:Nat) {u:Nat} (h:u<128):vl f u=[UInt8.ofNat u]:=by cases f<;>simp [vl,h]
theorem vl_big (f:Nat) {u:Nat} (h:128≤u):vl (f+1) u=UInt8.ofNat (u % 128+128)::vl f (u / 128):=by
 rw [vl,if_neg (by omega)]
theorem vl_length (f u:Nat):(vl f u).length≤f+1:=by
 induction f generalizing u with
 |zero=>simp [vl]
 |succ f ih=>
  rw [vl]
  split
  ·simp
  ·simp only [List.length_cons];have:=ih (u / 128);omega
theorem encI_length (n:Int):(encI n).length≤10:=vl_length 9 _
theorem vl_pos (f u:Nat):0<(vl f u).length:=by cases f<;>simp [vl];split<;>simp
theorem encI_pos (n:Int):0<(encI n).length:=vl_pos _ _
def decL (at_:Int):List UInt8→Nat→Nat→Int×Int×Int
 |[],_,_=>(0,0,2)
 |c::l,i,z=>
  if (i=9∧1<c.toNat)∨(0<i∧c.toNat=0) then (0,0,1)
  else if c.toNat<128 then (unzz (z+c.toNat % 128*128 ^ i),at_+i+1,0) else decL at_ l (i+1) (z+c.toNat % 128*128 ^ i)
def decI (l:List UInt8) (at_:Int):Int×Int×Int:=
 if at_<0∨(l.length:Int)<at_ then (0,0,6) else decL at_ (l.drop at_.toNat) 0 0
theorem decL_nil (at_:Int) (i z:Nat):decL at_ [] i z=(0,0,2):=rfl
theorem decL_bad {at_:Int} {c:UInt8} {l:List UInt8} {i z:Nat} (h:(i=9∧1<c.toNat)∨(0<i∧c.toNat=0)):decL at_ (c::l) i z=(0,0,1):=by
 rw [decL,if_pos h]
theorem decL_end {at_:Int} {c:UInt8} {l:List UInt8} {i z:Nat} (h:¬((i=9∧1<c.toNat)∨(0<i∧c.toNat=0))) (hc:c.toNat<128):
  decL at_ (c::l) i z=(unzz (z+c.toNat % 128*128 ^ i),at_+i+1,0):=by rw [decL,if_neg h,if_pos hc]
theorem decL_on {at_:Int} {c:UInt8} {l:List UInt8} {i z:Nat} (h:¬((i=9∧1<c.toNat)∨(0<i∧c.toNat=0))) (hc:¬c.toNat<128):
  decL at_ (c::l) i z=decL at_ l (i+1) (z+c.toNat % 128*128 ^ i):=by rw [decL,if_neg h,if_neg hc]
theorem decI_in {l:List UInt8} {k:Nat} (h:k≤l.length):decI l (k:Int)=decL k (l.drop k) 0 0:=by
 rw [decI,if_neg (by omega)];rfl
theorem decI_out {l:List UInt8} {k:Int} (h:k<0∨(l.length:Int)<k):decI l k=(0,0,6):=by
 rw [decI,if_pos h]
/-! the machine's words -/
theorem u64_xor_nat (a b:Nat) (ha:a<18446744073709551616) (hb:b<18446744073709551616):bits .xor .u64 (a:Int) (b:Int)=((a ^^^ b:Nat):Int):=by
 have hx:a ^^^ b<2 ^ 64:=Nat.xor_lt_two_pow (by omega) (by omega)
 have e:∀c:Nat,c<18446744073709551616→(BitVec.ofInt 64 (c:Int)).toNat=c:=fun c hc=>by
  rw [BitVec.ofInt_natCast,BitVec.toNat_ofNat];exact Nat.mod_eq_of_lt (by omega)
 show IntKind.u64.wrap ((BitVec.ofInt 64 (a:Int) ^^^ BitVec.ofInt 64 (b:Int)).toNat:Int)=_
 rw [BitVec.toNat_xor,e a ha,e b hb]
 simp only [IntKind.wrap,IntKind.signed,IntKind.bits]
 simp
 omega
theorem put_word {n:Int} (h1: -9223372036854775808≤n) (h2:n≤9223372036854775807):
  bits .xor .u64 (IntKind.u64.wrap (IntKind.u64.wrap n*2)) (IntKind.u64.wrap (n / 9223372036854775808))=(zz n:Int):=by
 have ew:∀x:Int,IntKind.u64.wrap x=x % 18446744073709551616:=fun x=>by
  simp only [IntKind.wrap,IntKind.signed,IntKind.bits]
  simp
 by_cases hn:n<0
 ·exact zq17 0
 ·have e1:IntKind.u64.wrap (IntKind.u64.wrap n*2)=(((2*n).toNat:Nat):Int):=by rw [ew,ew];omega
  have e2:IntKind.u64.wrap (n / 9223372036854775808)=((0:Nat):Int):=by rw [ew];omega
  rw [e1,e2,u64_xor_nat _ _ (by omega) (by omega)]
  simp [zz,hn]
theorem u8_or_nat (a b:Nat) (ha:a<256) (hb:b<256):bits .or .u8 (a:Int) (b:Int)=((a ||| b:Nat):Int):=by
 exact zq9 0
theorem or128_small:∀a:Fin 256,a.val ||| 128=a.val % 128+128:=by decide +kernel
theorem or128 (u:Nat):bits .or .u8 ((u:Int) % 256) 128=((UInt8.ofNat (u % 128+128)).toNat:Int):=by
 have e:((u:Int) % 256)=((u % 256:Nat):Int):=by omega
 rw [e]
 have h:=u8_or_nat (u % 256) 128 (by omega) (by omega)
 have h2:=or128_small ⟨u % 256,by omega⟩
 simp only at h2
 rw [h2] at h
 have e3:((128:Nat):Int)=128:=rfl
 rw [e3] at h
 rw [h]
 have:u % 256 % 128=u % 128:=by omega
 rw [this]
 simp [UInt8.toNat_ofNat']
 omega
theorem byte_small (u:Nat):((u:Int) % 256)=((UInt8.ofNat u).toNat:Int):=by
 simp [UInt8.toNat_ofNat']
theorem byte_of {u:Nat} (h:u<256):(u:Int)=((UInt8.ofNat u).toNat:Int):=by
 simp [UInt8.toNat_ofNat']
 omega
theorem u8_and_nat (a b:Nat) (ha:a<256) (hb:b<256):bits .and .u8 (a:Int) (b:Int)=((a &&& b:Nat):Int):=by
 exact zq9 1
theorem and127 {c:Nat} (h:c<256):bits .and .u8 (c:Int) 127=((c % 128:Nat):Int):=by
 have h1:=u8_and_nat c 127 h (by omega)
 have e3:((127:Nat):Int)=127:=rfl
 rw [e3] at h1
 rw [h1,show (127:Nat)=2 ^ 7-1 from rfl,Nat.and_two_pow_sub_one_eq_mod]
theorem u64_ofInt (c:Nat) (hc:c<18446744073709551616):(BitVec.ofInt 64 (c:Int)).toNat=c:=by
 rw [BitVec.ofInt_natCast,BitVec.toNat_ofNat];exact Nat.mod_eq_of_lt (by omega)
theorem wrap_u64 (x:Int):IntKind.u64.wrap x=x % 18446744073709551616:=by
 simp only [IntKind.wrap,IntKind.signed,IntKind.bits]
 simp
theorem u64_or_nat (a b:Nat) (ha:a<18446744073709551616) (hb:b<18446744073709551616):bits .or .u64 (a:Int) (b:Int)=((a ||| b:Nat):Int):=by
 have hx:a ||| b<2 ^ 64:=Nat.or_lt_two_pow (by omega) (by omega)
 show IntKind.u64.wrap ((BitVec.ofInt 64 (a:Int) ||| BitVec.ofInt 64 (b:Int)).toNat:Int)=_
 rw [BitVec.toNat_or,u64_ofInt a ha,u64_ofInt b hb,wrap_u64]
 omega
theorem u64_and_nat (a b:Nat) (ha:a<18446744073709551616) (hb:b<18446744073709551616):bits .and .u64 (a:Int) (b:Int)=((a &&& b:Nat):Int):=by
 have hx:a &&& b<2 ^ 64:=Nat.and_lt_two_pow _ (by omega)
 show IntKind.u64.wrap ((BitVec.ofInt 64 (a:Int) &&& BitVec.ofInt 64 (b:Int)).toNat:Int)=_
 rw [BitVec.toNat_and,u64_ofInt a ha,u64_ofInt b hb,wrap_u64]
 omega
theorem pow128 (j:Nat):(128:Nat) ^ j=2 ^ (7*j):=by rw [show (128:Nat)=2 ^ 7 from rfl,Nat.pow_mul]
theorem digit_lt {c j z:Nat} (hj:j≤9) (hz:z<128 ^ j) (h9:j=9→c≤1):z+c % 128*128 ^ j<18446744073709551616:=by
 by_cases h:j=9
 ·subst h
  have:=h9 rfl
  have hm:c % 128≤1:=by omega
  have:c % 128*128 ^ 9≤1*128 ^ 9:=Nat.mul_le_mul_right _ hm
  omega
 ·have h1:(c % 128+1)*128 ^ j≤128*128 ^ j:=Nat.mul_le_mul_right _ (by omega)
  have h2:128*128 ^ j≤128 ^ 9:=by
   rw [←Nat.pow_succ']
   exact Nat.pow_le_pow_right (by omega) (by omega)
  rw [Nat.add_mul] at h1
  omega
theorem digit_next {c j z:Nat} (hz:z<128 ^ j):z+c % 128*128 ^ j<128 ^ (j+1):=by
 have h1:(c % 128+1)*128 ^ j≤128*128 ^ j:=Nat.mul_le_mul_right _ (by omega)
 rw [Nat.add_mul] at h1
 rw [Nat.pow_succ']
 omega
theorem digit_word {c j z:Nat} (hc:c<256) (hj:j≤9) (hz:z<128 ^ j) (h9:j=9→c≤1):
  bits .or .u64 (z:Int) (IntKind.u64.wrap (IntKind.u64.wrap (bits .and .u8 (c:Int) 127)*2 ^ (7*j)))=((z+c % 128*128 ^ j:Nat):Int):=by
 have hlt:=digit_lt hj hz h9
 rw [and127 hc]
 have e1:IntKind.u64.wrap ((c % 128:Nat):Int)=((c % 128:Nat):Int):=by rw [wrap_u64];omega
 have e2:(((c % 128:Nat):Int)*2 ^ (7*j))=((c % 128*128 ^ j:Nat):Int):=by
  rw [pow128];simp
 rw [e1,e2]
 have e3:IntKind.u64.wrap ((c % 128*128 ^ j:Nat):Int)=((c % 128*128 ^ j:Nat):Int):=by rw [wrap_u64];omega
 rw [e3,u64_or_nat _ _ (by omega) (by omega)]
 congr 1
 rw [pow128] at hz ⊢
 rw [Nat.or_comm,Nat.mul_comm,←Nat.two_pow_add_eq_or_of_lt hz]
 omega
theorem wrap_i64 (x:Int):IntKind.i64.wrap x=(x+9223372036854775808) % 18446744073709551616-9223372036854775808:=IntKind.wrap_i64 x
theorem unzz_word {u:Nat} (hu:u<18446744073709551616):bits .xor .i64 ((u:Int) / 2) (-(bits .and .u64 (u:Int) 1))=unzz u:=by
 have h1:=u64_and_nat u 1 hu (by omega)
 have e3:((1:Nat):Int)=1:=rfl
 rw [e3] at h1
 rw [h1,Nat.and_one_is_mod]
 have e2:((u:Int) / 2)=((u / 2:Nat):Int):=by omega
 rw [e2]
 unfold unzz
 show IntKind.i64.wrap ((BitVec.ofInt 64 ((u / 2:Nat):Int) ^^^ BitVec.ofInt 64 (-((u % 2:Nat):Int))).toNat:Int)=_
 rw [BitVec.toNat_xor,u64_ofInt _ (by omega),wrap_i64]
 by_cases h:u % 2=1
 ·exact zq17 1
 ·have h0:u % 2=0:=by omega
  rw [if_neg h,h0]
  have e:(BitVec.ofInt 64 (-((0:Nat):Int))).toNat=0:=by decide
  rw [e,Nat.xor_zero]
  omega
theorem ret_int3 {k1 k2 k3:IntKind} {a1 b1 a2 b2 a3 b3:Int} (h1:a1=b1) (h2:a2=b2) (h3:a3=b3):Ending.returned (.tuple #[.int k1 a1,.int k2 a2,.int k3 a3])=.returned (.tuple #[.int k1 b1,.int k2 b2,.int k3 b3]):=by rw [h1,h2,h3]
theorem wrap64_id {x:Int} (h1: -9223372036854775808≤x) (h2:x≤9223372036854775807):wrap64 x=x:=by unfold wrap64;omega
theorem final_word {c j z:Nat} (hc:c<256) (hj:j≤9) (hz:z<128 ^ j) (h9:j=9→c≤1):
  bits .xor .i64 (wrap64 (bits .or .u64 (z:Int) (IntKind.u64.wrap (IntKind.u64.wrap (bits .and .u8 (c:Int) 127)*2 ^ (7*j))) / 2))
   (wrap64 (-wrap64 (bits .and .u64 (bits .or .u64 (z:Int) (IntKind.u64.wrap (IntKind.u64.wrap (bits .and .u8 (c:Int) 127)*2 ^ (7*j)))) 1)))=unzz (z+c % 128*128 ^ j):=by
 have hlt:=digit_lt hj hz h9
 rw [digit_word hc hj hz h9]
 have h1:=u64_and_nat (z+c % 128*128 ^ j) 1 hlt (by omega)
 have e3:((1:Nat):Int)=1:=rfl
 rw [e3,Nat.and_one_is_mod] at h1
 rw [wrap64_id (by omega) (by omega),wrap64_id (x:=bits .and .u64 _ 1) (by rw [h1];omega) (by rw [h1];omega),wrap64_id (by rw [h1];omega) (by rw [h1];omega)]
 exact unzz_word hlt
theorem digit_word2 {c j z q:Nat} (hj:j≤9) (hz:z<q) (hq:q=128 ^ j) (h9:j=9→c≤1):
  IntKind.u64.wrap ((z:Int)+IntKind.u64.wrap ((c:Int) % 128*(q:Int)))=((z+c % 128*128 ^ j:Nat):Int):=by
 subst hq
 have hlt:=digit_lt hj hz h9
 have e2:((c:Int) % 128*((128 ^ j:Nat):Int))=((c % 128*128 ^ j:Nat):Int):=by simp
 rw [e2,wrap_u64,wrap_u64]
 omega
theorem tmod_two (N:Nat):((N:Int).tmod 2==1)=decide (N % 2=1):=by
 rw [Int.tmod_eq_emod_of_nonneg (by omega),Bool.eq_iff_iff];simp;omega
theorem fin_odd {N:Nat} (h:N<18446744073709551616) (hp:N % 2=1):wrap64 (wrap64 (-wrap64 (IntKind.u64.wrap ((N:Int).tdiv 2)))-1)=unzz N:=by
 rw [Int.tdiv_eq_ediv_of_nonneg (by omega),wrap_u64]
 have e:((N:Int) / 2) % 18446744073709551616=((N / 2:Nat):Int):=by omega
 rw [e,wrap64_id (x:=((N / 2:Nat):Int)) (by omega) (by omega),wrap64_id (x:= -((N / 2:Nat):Int)) (by omega) (by omega),wrap64_id (by omega) (by omega),unzz,if_pos hp]
theorem fin_even {N:Nat} (h:N<18446744073709551616) (hp:¬N % 2=1):wrap64 (IntKind.u64.wrap ((N:Int).tdiv 2))=unzz N:=by
 rw [Int.tdiv_eq_ediv_of_nonneg (by omega),wrap_u64]
 have e:((N:Int) / 2) % 18446744073709551616=((N / 2:Nat):Int):=by omega
 rw [e,wrap64_id (by omega) (by omega),unzz,if_neg hp]
theorem unit_next {q j:Nat} (hj:j≤8) (hq:q=128 ^ j):Value.int .u64 (IntKind.u64.wrap ((q:Int)*128))=.int .u64 ((128 ^ (j+1):Nat):Int):=by
 have h:128 ^ (j+1)≤128 ^ 9:=Nat.pow_le_pow_right (by omega) (by omega)
 have e:(q:Int)*128=((128 ^ (j+1):Nat):Int):=by rw [hq,Nat.pow_succ];simp
 rw [e,wrap_u64]
 congr 1
 omega
theorem decL_bd (at_:Int) (l:List UInt8):∀(i z:Nat),i≤9→z<128 ^ i→
  -9223372036854775808≤(decL at_ l i z).1∧(decL at_ l i z).1≤9223372036854775807∧
  (((decL at_ l i z).2.2=0∧at_+i+1≤(decL at_ l i z).2.1∧(decL at_ l i z).2.1≤at_+i+l.length)∨((decL at_ l i z).2.1=0∧(decL at_ l i z).1=0∧1≤(decL at_ l i z).2.2∧(decL at_ l i z).2.2≤2)):=by
 induction l with
 |nil=>intro i z _ _;rw [decL_nil];simp
 |cons c l ih=>
  intro i z hi hz
  by_cases hb:(i=9∧1<c.toNat)∨(0<i∧c.toNat=0)
  ·rw [decL_bad hb];simp
  ·by_cases hc:c.toNat<128
   ·rw [decL_end hb hc]
    have h1:=unzz_bd (digit_lt (c:=c.toNat) hi hz (by omega))
    refine ⟨h1.1,h1.2,.inl ⟨rfl,?_,?_⟩⟩
    ·simp
    ·simp;omega
   ·rw [decL_on hb hc]
    have h:=ih (i+1) (z+c.toNat % 128*128 ^ i) (by omega) (digit_next hz)
    refine ⟨h.1,h.2.1,?_⟩
    rcases h.2.2 with ⟨a,b,d⟩|h'
    ·refine .inl ⟨a,?_,?_⟩
     ·simp only [Int.natCast_add] at b;omega
     ·simp only [Int.natCast_add,List.length_cons] at d ⊢;omega
    ·exact .inr h'
theorem decI_bd (l:List UInt8) (k:Int): -9223372036854775808≤(decI l k).1∧(decI l k).1≤9223372036854775807∧
  (((decI l k).2.2=0∧0≤k∧k+1≤(decI l k).2.1∧(decI l k).2.1≤l.length)∨((decI l k).2.1=0∧(decI l k).1=0∧1≤(decI l k).2.2∧(decI l k).2.2≤6)):=by
 by_cases h:k<0∨(l.length:Int)<k
 ·rw [decI_out h];simp
 ·obtain ⟨n,rfl⟩:=Int.eq_ofNat_of_zero_le (show 0≤k by omega)
  have hn:n≤l.length:=by omega
  rw [decI_in hn]
  have hb:=decL_bd n (l.drop n) 0 0 (by omega) (by simp)
  refine ⟨hb.1,hb.2.1,?_⟩
  rcases hb.2.2 with ⟨a,b,d⟩|⟨a,b,d,e⟩
  ·refine .inl ⟨a,by omega,by simpa using b,?_⟩
   simp only [List.length_drop] at d
   omega
  ·exact .inr ⟨a,b,d,by omega⟩
def decT (l:List UInt8) (k most:Int):List UInt8×Int×Int:=
 if (decI l k).2.2≠0 then ([],0,(decI l k).2.2)
 else if (decI l k).1<0 then ([],0,1)
 else if max most 0<(decI l k).1 then ([],0,5)
 else if (l.length:Int)-(decI l k).2.1<(decI l k).1 then ([],0,2)
 else ((l.drop (decI l k).2.1.toNat).take (decI l k).1.toNat,(decI l k).2.1+(decI l k).1,0)
theorem decT_bd (l:List UInt8) (k most:Int):((decT l k most).2.2=0∧k+1≤(decT l k most).2.1∧(decT l k most).2.1≤l.length∧0≤k∧((decT l k most).1.length:Int)≤max most 0)∨((decT l k most).2.1=0∧(decT l k most).1=[]∧1≤(decT l k most).2.2∧(decT l k most).2.2≤6):=by
 have hb:=decI_bd l k
 unfold decT
 split
 ·rcases hb.2.2 with h|h
  ·omega
  ·exact .inr ⟨rfl,rfl,by simp only;omega,by simp only;omega⟩
 ·split
  ·exact .inr ⟨rfl,rfl,by simp,by simp⟩
  ·split
   ·exact .inr ⟨rfl,rfl,by simp,by simp⟩
   ·split
    ·exact .inr ⟨rfl,rfl,by simp,by simp⟩
    ·rcases hb.2.2 with h|h
     ·refine .inl ⟨rfl,by simp only;omega,by simp only;omega,by omega,?_⟩
      simp only [List.length_take]
      omega
     ·omega
end
section
open Go.RowKit Go.Lib
theorem infoB:(prog.info? 5).map (fun i=>(i.zero,i.size,i.bytes))=some (some (.int .u8 0),1,1):=by kernel_rfl
def RdB (w:World) (F:Nat→Prop) (v:Value) (l:List UInt8):Prop:=Rd w F 1 v l.length (bv l)
def OwnB (w:World) (base:Nat) (v:Value) (l:List UInt8):Prop:=w.ownsRow base 5 1 v l.length (bv l)
def AppB (w:World) (base:Nat) (v:Value) (l:List UInt8):Prop:=App w base 5 1 v l.length (bv l)
def MadeB (base:Nat) (v0:Value) (w0:World) (l:List UInt8) (e:Ending) (w:World):Prop:=
 ∃v,e=.returned v∧OwnB w base v l∧Grew base v0 w0 v w
def NewB (w0:World) (l:List UInt8) (e:Ending) (w:World):Prop:=∃v,e=.returned v∧OwnB w w0.heap.size v l∧Bl w0 w
theorem OwnB.app {w:World} {base:Nat} {v:Value} {l:List UInt8} (h:OwnB w base v l):AppB w base v l:=.inl h
theorem OwnB.rd {w:World} {base:Nat} {v:Value} {l:List UInt8} (h:OwnB w base v l):RdB w (ltw w) v l:=(Rd.of_own h).wide fun _ hb=>hb.2
theorem RdB.view {w:World} {B:Nat} {v:Value} {l:List UInt8} (h:RdB w (·<B) v l):∃A c,v=.slice A l.length c∧l.length≤c∧c≤maxLen∧AppB w B (.slice A l.length l.length) l:=by
 obtain ⟨h1,A,c,hv,h2,h3,h4,h5⟩:=h
 exact ⟨A,c,hv,h2,h3,.inr ⟨⟨h1,A,l.length,rfl,Nat.le_refl _,by omega,fun h=>by have:=h4 h;omega,h5⟩,A,rfl⟩⟩
theorem RdB.below {w w':World} {v:Value} {l:List UInt8} (h:RdB w (ltw w) v l) (hb:Bl w w'):RdB w' (ltw w') v l:=Rd.below' h hb
theorem RdB.nil (w:World) (F:Nat→Prop):RdB w F (.slice none 0 0) []:=Rd.nil w F 1
theorem RdB.new (w:World) (l:List UInt8) (hl:l.length≤maxLen):RdB (w.alloc (.cells (bv l).toArray 5)) (·<(w.alloc (.cells (bv l).toArray 5)).heap.size) (.slice (some ⟨w.heap.size,0,none⟩) l.length l.length) l:=
 (Rd.new w (bv l) 5 1 l.length (by rw [bv_length,Nat.mul_one]) hl).wide fun b hb=>by simp;omega
theorem AppB.box {w:World} {v:Value} {l:List UInt8} (h:AppB w w.heap.size v l) (o:Obj) (hv:∃A,v=.slice A l.length l.length:=by exact ⟨_,rfl⟩):AppB (w.alloc o) (w.heap.size+1) v l:=by
 have h1:=(App.rd h (Nat.le_refl _)).alloc (Nat.le_refl _) o
 exact .inr ⟨h1.wide fun _ hb=>by omega,hv⟩
def strB (l:List UInt8):ByteArray:=⟨l.toArray⟩
theorem strB_size (l:List UInt8):(strB l).size=l.length:=by simp [strB,ByteArray.size]
theorem strB_list (s:ByteArray):strB s.data.toList=s:=by simp [strB]
theorem strB_inj {a b:List UInt8}:strB a=strB b↔a=b:=by
 constructor
 ·intro h
  have:=congrArg (fun s:ByteArray=>s.data.toList) h
  simpa [strB] using this
 ·intro h;rw [h]
theorem run_bytes_str {w:World} {F:Nat→Prop} {v:Value} {l:List UInt8} (h:RdB w F v l):(convert 57 9 v).run prog w=.ok (.string (strB l)) w:=by
 obtain ⟨h1,A,c,rfl,h2,h3,h4,h5⟩:=h
 rw [run_convert_bytes_string w _ _ 5 _ _ _ underlying57 underlying5 underlying9]
 cases A with
 |none=>
  have hl:l=[]:=List.eq_nil_of_length_eq_zero (by have:=h4 rfl;omega)
  subst hl
  simp [Conv.bytesToString,strB]
  rfl
 |some ad=>
  have hl:(loadCells ad l.length).run prog w=.ok ((l.map fun b=>(b.toNat:Int)).map (Value.int .u8)).toArray w:=by
   have:=run_loadCells_list (P:=prog) w ad (bv l) (fun j u hj=>by
    have hn:0<l.length:=by
     have:j<(bv l).length:=by
      rcases Nat.lt_or_ge j (bv l).length with h|h
      ·exact h
      ·rw [List.getElem?_eq_none h] at hj;cases hj
     rw [bv_length] at this
     omega
    obtain ⟨ad',e,_,hc⟩:=h5 hn
    injection e with e
    subst e
    exact hc j u hj)
   rw [bv_length] at this
   rw [this]
   simp [bv]
  rw [run_bytesToString w ad _ c _ hl,foldl_push_bytes]
  have e:(l.map fun b=>(b.toNat:Int)).map (fun n=>UInt8.ofNat n.toNat)=l:=by
   rw [List.map_map]
   conv=>rhs;rw [←List.map_id l]
   exact List.map_congr_left fun b _=>by simp
  rw [e]
  simp [strB,ByteArray.empty,ByteArray.emptyWithCapacity]
  rfl
theorem rd_bytesWorld (w:World) (s:ByteArray) (hs:s.size≤140737488355328):RdB (bytesWorld w 5 s) (·<(bytesWorld w 5 s).heap.size) (.slice (some ⟨w.heap.size,0,none⟩) s.size (grownCap w s.size 0 5)) s.data.toList:=by
 have e:s.data.toList.length=s.size:=by rw [Array.length_toList];rfl
 refine ⟨by rw [bv_length,Nat.mul_one],_,_,by rw [e],by rw [e];exact grownCap_ge _ _ _ _,grownCap_le_maxLen _ _ _ _ zi9,fun h=>(Option.some_ne_none _ h).elim,fun _=>⟨_,rfl,by rw [bytesWorld_size];exact Nat.lt_succ_self _,fun j u hj=>?_⟩⟩
 have hadd:(⟨w.heap.size,0,none⟩:Addr).add j=⟨w.heap.size,j,none⟩:=by unfold Addr.add;split<;>simp_all
 have hjl:j<s.data.toList.length:=by
  rcases Nat.lt_or_ge j (bv s.data.toList).length with h|h
  ·rwa [bv_length] at h
  ·rw [List.getElem?_eq_none h] at hj;cases hj
 rw [hadd,bytesWorld_cell w _ s j (by omega)]
 rw [bv_get hjl] at hj
 rw [←hj]
 simp [List.getD,List.getElem?_eq_getElem hjl]
theorem below_bytesWorld (w:World) (s:ByteArray):Bl w (bytesWorld w 5 s):=by
 refine ⟨?_,?_,?_,by rw [bytesWorld_size];omega,fun k hk=>bytesWorld_at_old w _ s k hk⟩
 ·simp [bytesWorld,World.freeze];rfl
 ·simp [bytesWorld,World.freeze]
 ·simp [bytesWorld,World.freeze];rfl
theorem conv_sb (w:World) (s:ByteArray) (hs:s.size≤140737488355328):∃x W,(convert 9 57 (.string s)).run prog w=.ok x W∧RdB W (ltw W) x s.data.toList∧Bl w W:=
 ⟨_,_,Lib.run_convert_string_bytes (P:=prog) w 9 57 5 s underlying9 underlying57 underlying5,rd_bytesWorld w s hs,below_bytesWorld w s⟩
end
section
open Go.RowKit Go.Lib
section
variable {P:Program} (w:World)
theorem step_append_app {ops:Array Oper} {o:Oper} {a:Act} {K:Act→World→Prop} {Q:Exit→Act→World→Prop} {E:Prop} (hgd:o.guard=none) (s x:Operand) (t:TypeId)
  (ho:o.op=.call { callee:=.builtin .append,args:=#[s,x],argTypes:=#[t,t] })
  (base:Nat) (e:TypeId) (i:TypeInfo) (z:Value) (size bytes:Nat) (ht:P.underlying t=some (.slice e)) (hi:P.info? e=some i) (hz:i.zero=some z)
  (hsize:i.size=size) (hby:i.bytes=bytes) (hzs:z.cells.size=size) (hsz:0<size)
  (v:Value) (n:Nat) (cs:List Value) (hs:a.eval s=v) (hd:App w base e size v n cs)
  (F:Nat→Prop) (xv:Value) (m:Nat) (news:List Value) (hx:a.eval x=xv) (hr:Rd w F size xv m news) (h1:∀u∈news,u.oneCell'=true)
  (h63:n+m≤maxLen) (hbytes:(n+m)*bytes≤140737488355328) (hbase:base≤w.heap.size)
  (h:∀v' w',App w' base e size v' (n+m) (cs++news)→(0<m∨w.ownsRow base e size v n cs→w'.ownsRow base e size v' (n+m) (cs++news))→w.grownBy w' v.ownBlock→Below base w w'→
   (v'.ownBlock=v.ownBlock∨v'.ownBlock=some w.heap.size)→K (a.put o.dst v') w'):
  if Region.wanted o (yielded ops a.tmps)=true then Oper.wp P o a w K Q else E:=by
 have hw:Region.wanted o (yielded ops a.tmps)=true:=by simp [Region.wanted,hgd]
 rw [if_pos hw]
 exact wp_append_app w s x t ho base e i z size bytes ht hi hz hsize hby hzs hsz v n cs hs hd F xv m news hx hr h1 h63 hbytes hbase h
theorem step_append_str {ops:Array Oper} {o:Oper} {a:Act} {K:Act→World→Prop} {Q:Exit→Act→World→Prop} {E:Prop} (hgd:o.guard=none) (sl x:Operand) (t u:TypeId)
  (ho:o.op=.call { callee:=.builtin .append,args:=#[sl,x],argTypes:=#[t,u] })
  (base:Nat) (e:TypeId) (i:TypeInfo) (ht:P.underlying t=some (.slice e)) (hu:P.underlying u=some .string) (hi:P.info? e=some i) (hz:i.zero=some (.int .u8 0))
  (hsize:i.size=1) (hby:i.bytes=1)
  (v:Value) (n:Nat) (xs:List Value) (hs:a.eval sl=v) (hown:w.ownsRow base e 1 v n xs) (s:ByteArray) (hx:a.eval x=.string s)
  (h63:n+s.size≤maxLen) (hbytes:n+s.size≤140737488355328) (hbase:base≤w.heap.size)
  (h:∀v' w',w'.ownsRow base e 1 v' (n+s.size) (xs++strCells s)→w.grownBy w' v.ownBlock→K (a.put o.dst v') w'):
  if Region.wanted o (yielded ops a.tmps)=true then Oper.wp P o a w K Q else E:=by
 have hw:Region.wanted o (yielded ops a.tmps)=true:=by simp [Region.wanted,hgd]
 rw [if_pos hw]
 obtain ⟨v',w',hr,h2,h3,h4⟩:=run_append_own_string (P:=P) w base t u o.type e i ht hu hi hz hsize hby v n xs hown s h63 hbytes hbase
 unfold Oper.wp execOp
 simp only [ho,resolve,invoke,builtin,Sem.run_bind,Sem.run_pure,Result.andThen_ok,List.map_toArray,List.map_cons,List.map_nil,hs,hx,hr]
 exact h v' w' h2 h3
end
theorem App.drew {w:World} {base:Nat} {e:TypeId} {size n:Nat} {v:Value} {cs:List Value} (h:App w base e size v n cs):App w.drew base e size v n cs:=h
theorem Rd.drew {w:World} {F:Nat→Prop} {size n:Nat} {v:Value} {cs:List Value} (h:Rd w F size v n cs):Rd w.drew F size v n cs:=h
theorem own_drew {w:World} {base:Nat} {e:TypeId} {size n:Nat} {v:Value} {cs:List Value} (h:w.ownsRow base e size v n cs):w.drew.ownsRow base e size v n cs:=h
theorem Rd.new' (w:World) (H:Nat) (hH:w.heap.size=H) (l:List Value) (e:TypeId) (size n:Nat) (hl:l.length=n*size) (hn:n≤maxLen):Rd (w.alloc (.cells l.toArray e)) (·=H) size (.slice (some ⟨H,0,none⟩) n n) n l:=by
 subst hH
 exact Rd.new w l e size n hl hn
theorem grown_cell {w w':World} {row:Option Nat} (h:w.grownBy w' row) {p:Addr} (hp:p.block<w.heap.size) (hne:some p.block≠row):w'.cell? p=w.cell? p:=World.cell?_of_block (h.block p.block hp hne)
theorem own_ne {w:World} {base:Nat} {e:TypeId} {size n:Nat} {v:Value} {cs:List Value} (h:w.ownsRow base e size v n cs) {b:Nat} (hb:b<base):some b≠v.ownBlock:=fun e=>by have:=(h.lt b e.symm).1;omega
theorem Rd.plain {w:World} {F:Nat→Prop} {size n:Nat} {cs:List Value} {A:Option Addr} {c:Nat} (h:Rd w F size (.slice A n c) n cs) (hn:0<n) (hs:0<size):
  ∃b off,A=some ⟨b,off,none⟩∧F b∧∀j u,cs[j]? =some u→w.cell? ⟨b,off+j,none⟩=some u:=by
 obtain ⟨ad,rfl,hF,hc⟩:=Rd.at_ h hn
 obtain ⟨b,off,sp⟩:=ad
 have hl:0<cs.length:=by rw [h.1];exact Nat.mul_pos hn hs
 have h0:=hc 0 _ (List.getElem?_eq_getElem hl)
 rw [add_zero'] at h0
 have hsp:sp=none:=by
  cases sp with
  |none=>rfl
  |some q=>
   simp only [World.cell?] at h0
   split at h0<;>simp at h0
 subst hsp
 refine ⟨b,off,rfl,hF,fun j u hu=>?_⟩
 have:=hc j u hu
 unfold Addr.add at this
 split at this
 ·rename_i hj;subst hj;exact this
 ·exact this
theorem box_cell (w:World) (cs:Array Value) (e:TypeId) (j:Nat) {u:Value} (h:cs[j]? =some u):(w.alloc (.cells cs e)).cell? ⟨w.heap.size,j,none⟩=some u:=
 (cW0 _ w.heap.size j cs e (0,0) (heap_alloc_new w _)).trans h
theorem keepBox {W w1:World} {row:Option Nat} {b:Nat} (hg:W.grownBy w1 row) (hne:some b≠row) (hb:b<W.heap.size):∀o,w1.cell? ⟨b,o,none⟩=W.cell? ⟨b,o,none⟩:=
 fun _=>World.cell?_of_block (hg.block b hb hne)
theorem ne_step {b H:Nat} {v v':Value} (hne:some b≠v.ownBlock) (ha:v'.ownBlock=v.ownBlock∨v'.ownBlock=some H) (hb:b≠H):some b≠v'.ownBlock:=by
 rcases ha with e|e<;>rw [e]
 ·exact hne
 ·intro h;injection h with h;exact hb h
theorem own_ne_new {w:World} {base:Nat} {e:TypeId} {size n:Nat} {v:Value} {cs:List Value} (h:w.ownsRow base e size v n cs):some w.heap.size≠v.ownBlock:=fun e=>by have:=(h.lt _ e.symm).2;omega
theorem own_alloc {w:World} {base:Nat} {e:TypeId} {size n:Nat} {v:Value} {cs:List Value} (h:w.ownsRow base e size v n cs) (o:Obj):(w.alloc o).ownsRow base e size v n cs:=h.alloc o
end
section
open Go.RowKit Go.Lib
theorem appB_of {w:World} {base:Nat} {v:Value} {l m:List UInt8} (h:App w base 5 1 v (l.length+m.length) (bv l++bv m)):AppB w base v (l++m):=by
 unfold AppB;rw [bv_append,List.length_append];exact h
theorem ownB_of {w:World} {base:Nat} {v:Value} {l m:List UInt8} (h:w.ownsRow base 5 1 v (l.length+m.length) (bv l++bv m)):OwnB w base v (l++m):=by
 unfold OwnB;rw [bv_append,List.length_append];exact h
theorem rdB_new (w:World) (H:Nat) (hH:w.heap.size=H) (m:List UInt8) (n:Nat) (hn:m.length=n) (hm:n≤1000):RdB (w.alloc (.cells (bv m).toArray 5)) (·=H) (.slice (some ⟨H,0,none⟩) n n) m:=by
 subst hn
 exact Rd.new' w H hH (bv m) 5 1 m.length (by rw [bv_length,Nat.mul_one]) zi9
section
variable {w:World} {ops:Array Oper} {rest:List Oper} {o:Oper} {a:Act} {K:Act→World→Prop} {Q:Exit→Act→World→Prop}
theorem wp_append_b (s x:Operand) (ho:o.op=.call { callee:=.builtin .append,args:=#[s,x],argTypes:=#[57,57] })
  (base:Nat) (v:Value) (l:List UInt8) (hs:a.eval s=v) (hO:OwnB w base v l) (F:Nat→Prop) (xv:Value) (m:List UInt8) (hx:a.eval x=xv) (hr:RdB w F xv m)
  (hl:l.length+m.length≤140737488355328) (hb:base≤w.heap.size)
  (h:∀v' w',OwnB w' base v' (l++m)→Below base w w'→w.grownBy w' v.ownBlock→(v'.ownBlock=v.ownBlock∨v'.ownBlock=some w.heap.size)→K (a.put o.dst v') w'):o.wp prog a w K Q:=by
 obtain ⟨i0,hi,hz0,hz1,hz2⟩:=info_parts infoB
 exact wp_append_app w s x 57 ho base 5 i0 _ 1 1 underlying57 hi hz0 hz1 hz2 rfl (by omega) v l.length (bv l) hs (.inl hO) F xv m.length (bv m) hx hr (bv_one _) zi9 (by omega) hb
  fun v' w' _ h2 h3 h4 h5=>h v' w' (ownB_of (h2 (.inr hO))) h4 h3 h5
theorem wpList_append_b (hgd:o.guard=none) (s x:Operand) (ho:o.op=.call { callee:=.builtin .append,args:=#[s,x],argTypes:=#[57,57] })
  (base:Nat) (v:Value) (l:List UInt8) (hs:a.eval s=v) (hO:OwnB w base v l) (F:Nat→Prop) (xv:Value) (m:List UInt8) (hx:a.eval x=xv) (hr:RdB w F xv m)
  (hl:l.length+m.length≤140737488355328) (hb:base≤w.heap.size)
  (h:∀v' w',OwnB w' base v' (l++m)→Below base w w'→w.grownBy w' v.ownBlock→(v'.ownBlock=v.ownBlock∨v'.ownBlock=some w.heap.size)→wpList prog ops Q rest (a.put o.dst v') w'):wpList prog ops Q (o::rest) a w:=
 wpList_plain hgd fun _ hK=>wp_append_b s x ho base v l hs hO F xv m hx hr hl hb fun v' w' h2 h3 h4 h5=>hK _ _ (h v' w' h2 h3 h4 h5)
theorem step_append_b {E:Prop} (hgd:o.guard=none) (s x:Operand) (ho:o.op=.call { callee:=.builtin .append,args:=#[s,x],argTypes:=#[57,57] })
  (base:Nat) (v:Value) (l:List UInt8) (hs:a.eval s=v) (hO:OwnB w base v l) (F:Nat→Prop) (xv:Value) (m:List UInt8) (hx:a.eval x=xv) (hr:RdB w F xv m)
  (hl:l.length+m.length≤140737488355328) (hb:base≤w.heap.size)
  (h:∀v' w',OwnB w' base v' (l++m)→Below base w w'→w.grownBy w' v.ownBlock→(v'.ownBlock=v.ownBlock∨v'.ownBlock=some w.heap.size)→K (a.put o.dst v') w'):
  if Region.wanted o (yielded ops a.tmps)=true then Oper.wp prog o a w K Q else E:=by
 have hw:Region.wanted o (yielded ops a.tmps)=true:=by simp [Region.wanted,hgd]
 rw [if_pos hw]
 exact wp_append_b s x ho base v l hs hO F xv m hx hr hl hb h
theorem wp_append_bs (s x:Operand) (ho:o.op=.call { callee:=.builtin .append,args:=#[s,x],argTypes:=#[57,9] })
  (base:Nat) (v:Value) (l:List UInt8) (hs:a.eval s=v) (hO:OwnB w base v l) (str:ByteArray) (hx:a.eval x=.string str)
  (hl:l.length+str.size≤140737488355328) (hb:base≤w.heap.size)
  (h:∀v' w',OwnB w' base v' (l++str.data.toList)→Below base w w'→w.grownBy w' v.ownBlock→K (a.put o.dst v') w'):o.wp prog a w K Q:=by
 obtain ⟨i0,hi,hz0,hz1,hz2⟩:=info_parts infoB
 obtain ⟨v',w',hr,h2,h3,h4⟩:=run_append_own_string (P:=prog) w base 57 9 o.type 5 i0 underlying57 underlying9 hi hz0 hz1 hz2 v l.length (bv l) hO str zi9 hl hb
 unfold Oper.wp execOp
 simp only [ho,resolve,invoke,builtin,Sem.run_bind,Sem.run_pure,Result.andThen_ok,List.map_toArray,List.map_cons,List.map_nil,hs,hx,hr]
 refine h v' w' (ownB_of ?_) ((Below.refl _ _).grown h3 hb fun k hk=>(hO.lt k hk).1) h3
 have e:str.data.toList.length=str.size:=by rw [Array.length_toList];rfl
 rw [e]
 exact h2
theorem wpList_append_bs (hgd:o.guard=none) (s x:Operand) (ho:o.op=.call { callee:=.builtin .append,args:=#[s,x],argTypes:=#[57,9] })
  (base:Nat) (v:Value) (l:List UInt8) (hs:a.eval s=v) (hO:OwnB w base v l) (str:ByteArray) (hx:a.eval x=.string str)
  (hl:l.length+str.size≤140737488355328) (hb:base≤w.heap.size)
  (h:∀v' w',OwnB w' base v' (l++str.data.toList)→Below base w w'→w.grownBy w' v.ownBlock→wpList prog ops Q rest (a.put o.dst v') w'):wpList prog ops Q (o::rest) a w:=
 wpList_plain hgd fun _ hK=>wp_append_bs s x ho base v l hs hO str hx hl hb fun v' w' h2 h3 h4=>hK _ _ (h v' w' h2 h3 h4)
theorem step_append_bs {E:Prop} (hgd:o.guard=none) (s x:Operand) (ho:o.op=.call { callee:=.builtin .append,args:=#[s,x],argTypes:=#[57,9] })
  (base:Nat) (v:Value) (l:List UInt8) (hs:a.eval s=v) (hO:OwnB w base v l) (str:ByteArray) (hx:a.eval x=.string str)
  (hl:l.length+str.size≤140737488355328) (hb:base≤w.heap.size)
  (h:∀v' w',OwnB w' base v' (l++str.data.toList)→Below base w w'→w.grownBy w' v.ownBlock→K (a.put o.dst v') w'):
  if Region.wanted o (yielded ops a.tmps)=true then Oper.wp prog o a w K Q else E:=by
 have hw:Region.wanted o (yielded ops a.tmps)=true:=by simp [Region.wanted,hgd]
 rw [if_pos hw]
 exact wp_append_bs s x ho base v l hs hO str hx hl hb h
end
theorem OwnB.alloc {w:World} {base:Nat} {v:Value} {l:List UInt8} (h:OwnB w base v l) (o:Obj):OwnB (w.alloc o) base v l:=World.ownsRow.alloc h o
theorem OwnB.drew {w:World} {base:Nat} {v:Value} {l:List UInt8} (h:OwnB w base v l):OwnB w.drew base v l:=h
theorem OwnB.nil (w:World) (base:Nat):OwnB w base (.slice none 0 0) []:=World.ownsRow_nil w _ _ _
end
section
open Go.RowKit Go.Lib
theorem keepAnd {p q:Prop} (hp:p) (hq:p→q):p∧q:=⟨hp,hq hp⟩
section
variable {P:Program} {ops:Array Oper} {Q:Exit→Act→World→Prop} {md:Region.Mode} {S:World→Prop} {fuel:Nat} {listed:Array Bool} {a:Act} {w:World}
theorem heldTake (i:Nat) (dst:Option Tmp) {oi:Oper} {v:Value} (hi:ops.toList[i]? =some oi) (hd:oi.dst=dst) (hs:Region.noSelect ops=true) (hf:Region.free md ops listed i=true) (hr:(Region.ready md ops listed).contains i=true)
  (hw:Region.wanted oi (yielded ops a.tmps)=true) (hS:S w) (hQ:∀c a w,Q (.panic c) (a.put dst v) w→Q (.panic c) a w) (hy:∀w,S w→(execOp a.eval oi).run P w=.ok (.value v) w)
  (h:wpAnyH P md ops Q S fuel (listed.setIfInBounds i true) (a.put dst v) w):wpAnyH P md ops Q S (fuel+1) listed a w:=by
 subst hd
 exact wpAnyH_take (by rw [←Array.getElem?_toList];exact hi) hs hf hr hQ (.inl ⟨hw,hy⟩) hS h
theorem heldSkip (i:Nat) (dst:Option Tmp) {oi:Oper} (hi:ops.toList[i]? =some oi) (hd:oi.dst=dst) (hs:Region.noSelect ops=true) (hf:Region.free md ops listed i=true) (hr:(Region.ready md ops listed).contains i=true)
  (hw:Region.wanted oi (yielded ops a.tmps)=false) (hS:S w) (hQ:∀c a w,Q (.panic c) (a.put dst undef) w→Q (.panic c) a w)
  (h:wpAnyH P md ops Q S fuel (listed.setIfInBounds i true) (a.put dst undef) w):wpAnyH P md ops Q S (fuel+1) listed a w:=by
 subst hd
 exact wpAnyH_take (by rw [←Array.getElem?_toList];exact hi) hs hf hr hQ (.inr ⟨hw,rfl⟩) hS h
theorem heldOp (i:Nat) {oi:Oper} (hi:ops.toList[i]? =some oi) (hr:Region.ready md ops listed=[i]) (hw:Region.wanted oi (yielded ops a.tmps)=true)
  (h:oi.wp P a w (fun a' w'=>S w'∧wpAnyH P md ops Q S fuel (listed.setIfInBounds i true) a' w') Q):wpAnyH P md ops Q S (fuel+1) listed a w:=by
 exact zq12
theorem heldCall (i:Nat) (dst:Option Tmp) {oi:Oper} {f:FuncId} {args:Array Value} (hi:ops.toList[i]? =some oi) (hd:oi.dst=dst) (hr:Region.ready md ops listed=[i]) (hw:Region.wanted oi (yielded ops a.tmps)=true)
  (hrun:(execOp a.eval oi).run P w=.ok (.enter f args) w)
  (h:Calls P f args w fun e w'=>∃v,e=.returned v∧S w'∧wpAnyH P md ops Q S fuel (listed.setIfInBounds i true) (a.put dst v) w'):wpAnyH P md ops Q S (fuel+1) listed a w:=by
 subst hd
 refine heldOp i hi hr hw ?_
 unfold Oper.wp
 rw [hrun]
 refine h.mono fun e w' ⟨v,he,hS,hh⟩=>?_
 subst he
 exact ⟨hS,hh⟩
theorem heldRun (i:Nat) (dst:Option Tmp) {oi:Oper} {v:Value} {w':World} (hi:ops.toList[i]? =some oi) (hd:oi.dst=dst) (hr:Region.ready md ops listed=[i]) (hw:Region.wanted oi (yielded ops a.tmps)=true)
  (hrun:(execOp a.eval oi).run P w=.ok (.value v) w') (hS:S w')
  (h:wpAnyH P md ops Q S fuel (listed.setIfInBounds i true) (a.put dst v) w'):wpAnyH P md ops Q S (fuel+1) listed a w:=by
 subst hd
 refine heldOp i hi hr hw ?_
 unfold Oper.wp
 rw [hrun]
 exact ⟨hS,h⟩
end
end
section
open Go.RowKit Go.Lib
def waits (md:Region.Mode) (ops:Array Oper) (last i:Nat):Bool:=
 match ops[last]? with
 |some o=>o.after.any fun e=>Region.binds md e&&e.on==i
 |none=>false
section
variable {P:Program} {ops:Array Oper} {Q:Exit→Act→World→Prop} {md:Region.Mode} {S:World→Prop} {last:Nat}
def wpAnyT (P:Program) (md:Region.Mode) (ops:Array Oper) (Q:Exit→Act→World→Prop) (S:World→Prop) (last:Nat):Nat→Array Bool→Act→World→Prop
 |0,listed,a,w=>Region.ready md ops listed=[]∧Q .normal a w
 |fuel+1,listed,a,w=>
  (Region.ready md ops listed=[]→Q .normal a w)∧
  ∀i∈Region.ready md ops listed,wpOp P ops Q i (fun a' w'=>(i≠last→S w')∧wpAnyT P md ops Q S last fuel (listed.setIfInBounds i true) a' w') a w
theorem wpAny_of_T:∀(fuel:Nat) (listed:Array Bool) (a:Act) (w:World),wpAnyT P md ops Q S last fuel listed a w→wpAny P md ops Q fuel listed a w
 |0,_,_,_,h=>h
 |fuel+1,_,_,_,h=>⟨h.1,fun i hi=>wpOp_mono (fun a' w' h'=>wpAny_of_T fuel _ a' w' h'.2) (h.2 i hi)⟩
theorem wpAnyT_first {i:Nat} {oi:Oper} {v:Value} (hi:ops[i]? =some oi) (hsel:∀(j:Nat) (o:Oper) cs b,ops[j]? =some o→o.op≠.select cs b)
  (hQ:∀c a w,Q (.panic c) (a.put oi.dst v) w→Q (.panic c) a w) (hwt:waits md ops last i=true) (hil:i≠last):
  ∀(fuel:Nat) (listed:Array Bool) (a:Act) (w:World),
   (∀j oj,ops[j]? =some oj→j≠i→listed.getD j true=false→(∀e∈oj.after,Region.binds md e=true→e.on≠i)→oi.apart ops oj=true)→
   i∈Region.ready md ops listed→YieldsIf P ops S oi v a→S w→
   wpAnyT P md ops Q S last fuel (listed.setIfInBounds i true) (a.put oi.dst v) w→wpAnyT P md ops Q S last (fuel+1) listed a w:=by
 intro fuel
 induction fuel with
 |zero=>
  intro listed a w _ hr hy hS H
  refine ⟨fun h=>(by rw [h] at hr;cases hr),fun j hj=>?_⟩
  by_cases hji:j=i
  ·subst hji;exact hy.wpOp hi hS ⟨fun _=>hS,H⟩
  ·have:=ready_mono hj hji
   rw [H.1] at this
   cases this
 |succ fuel ih=>
  intro listed a w hfree hr hy hS H
  refine ⟨fun h=>(by rw [h] at hr;cases hr),fun j hj=>?_⟩
  by_cases hji:j=i
  ·subst hji;exact hy.wpOp hi hS ⟨fun _=>hS,H⟩
  ·have h1:=H.2 j (ready_mono hj hji)
   obtain ⟨hjun,oj,hoj,hall⟩:=mem_ready.1 hj
   have hnot:∀e∈oj.after,Region.binds md e=true→e.on≠i:=fun e he hb heq=>by
    have h1:=hall e he hb
    have h0:=(mem_ready.1 hr).1
    rw [heq] at h1
    rcases Nat.lt_or_ge i listed.size with h'|h'
    ·simp [h'] at h0 h1;rw [h0] at h1;cases h1
    ·simp [Array.getElem?_eq_none h'] at h1
   have hjl:j≠last:=by
    rintro rfl
    unfold waits at hwt
    rw [hoj] at hwt
    simp only [Array.any_eq_true',Bool.and_eq_true,beq_iff_eq] at hwt
    obtain ⟨e,he,hb,heq⟩:=hwt
    exact hnot e he hb heq
   have h2:=wpOp_putIf hoj (hfree j oj hoj hji hjun hnot) (fun cs b=>hsel i oi cs b hi) (fun cs b=>hsel j oj cs b hoj) hQ hy h1
   have hfree':∀k ok,ops[k]? =some ok→k≠i→(listed.setIfInBounds j true).getD k true=false→
     (∀e∈ok.after,Region.binds md e=true→e.on≠i)→oi.apart ops ok=true:=fun k ok hk hki hun hno=>by
    refine hfree k ok hk hki ?_ hno
    by_cases hjk:j=k
    ·subst hjk;exact hjun
    ·rw [getD_set_ne true hjk] at hun;exact hun
   refine wpOp_mono (fun a' w' h3=>⟨h3.2.1,ih (listed.setIfInBounds j true) a' w' hfree' (ready_mono hr (Ne.symm hji)) h3.1 (h3.2.1 hjl) ?_⟩) h2
   rw [Array.setIfInBounds_comm _ _ hji]
   exact h3.2.2
theorem takeT (i:Nat) (dst:Option Tmp) {oi:Oper} {v:Value} {fuel:Nat} {listed:Array Bool} {a:Act} {w:World} (hi:ops.toList[i]? =some oi) (hd:oi.dst=dst) (hs:Region.noSelect ops=true) (hf:Region.free md ops listed i=true) (hr:(Region.ready md ops listed).contains i=true) (hwt:(waits md ops last i&&i != last)=true)
  (hw:Region.wanted oi (yielded ops a.tmps)=true) (hS:S w) (hQ:∀c a w,Q (.panic c) (a.put dst v) w→Q (.panic c) a w) (hy:∀w,S w→(execOp a.eval oi).run P w=.ok (.value v) w)
  (h:wpAnyT P md ops Q S last fuel (listed.setIfInBounds i true) (a.put dst v) w):wpAnyT P md ops Q S last (fuel+1) listed a w:=by
 exact zq11 2
theorem skipT (i:Nat) (dst:Option Tmp) {oi:Oper} {fuel:Nat} {listed:Array Bool} {a:Act} {w:World} (hi:ops.toList[i]? =some oi) (hd:oi.dst=dst) (hs:Region.noSelect ops=true) (hf:Region.free md ops listed i=true) (hr:(Region.ready md ops listed).contains i=true) (hwt:(waits md ops last i&&i != last)=true)
  (hw:Region.wanted oi (yielded ops a.tmps)=false) (hS:S w) (hQ:∀c a w,Q (.panic c) (a.put dst undef) w→Q (.panic c) a w)
  (h:wpAnyT P md ops Q S last fuel (listed.setIfInBounds i true) (a.put dst undef) w):wpAnyT P md ops Q S last (fuel+1) listed a w:=by
 exact zq11 0
theorem opT (i:Nat) {oi:Oper} {fuel:Nat} {listed:Array Bool} {a:Act} {w:World} (hi:ops.toList[i]? =some oi) (hr:Region.ready md ops listed=[i]) (hw:Region.wanted oi (yielded ops a.tmps)=true)
  (h:oi.wp P a w (fun a' w'=>(i≠last→S w')∧wpAnyT P md ops Q S last fuel (listed.setIfInBounds i true) a' w') Q):wpAnyT P md ops Q S last (fuel+1) listed a w:=by
 exact zq12
theorem callT (i:Nat) (dst:Option Tmp) {oi:Oper} {f:FuncId} {args:Array Value} {fuel:Nat} {listed:Array Bool} {a:Act} {w:World} (hi:ops.toList[i]? =some oi) (hd:oi.dst=dst) (hr:Region.ready md ops listed=[i]) (hw:Region.wanted oi (yielded ops a.tmps)=true)
  (hrun:(execOp a.eval oi).run P w=.ok (.enter f args) w)
  (h:Calls P f args w fun e w'=>∃v,e=.returned v∧(i≠last→S w')∧wpAnyT P md ops Q S last fuel (listed.setIfInBounds i true) (a.put dst v) w'):wpAnyT P md ops Q S last (fuel+1) listed a w:=by
 subst hd
 refine opT i hi hr hw ?_
 unfold Oper.wp
 rw [hrun]
 refine h.mono fun e w' ⟨v,he,hS,hh⟩=>?_
 subst he
 exact ⟨hS,hh⟩
theorem runT (i:Nat) (dst:Option Tmp) {oi:Oper} {v:Value} {w':World} {fuel:Nat} {listed:Array Bool} {a:Act} {w:World} (hi:ops.toList[i]? =some oi) (hd:oi.dst=dst) (hr:Region.ready md ops listed=[i]) (hw:Region.wanted oi (yielded ops a.tmps)=true)
  (hrun:(execOp a.eval oi).run P w=.ok (.value v) w') (hS:i≠last→S w')
  (h:wpAnyT P md ops Q S last fuel (listed.setIfInBounds i true) (a.put dst v) w'):wpAnyT P md ops Q S last (fuel+1) listed a w:=by
 subst hd
 refine opT i hi hr hw ?_
 unfold Oper.wp
 rw [hrun]
 exact ⟨hS,h⟩
theorem skipRunT (i:Nat) (dst:Option Tmp) {oi:Oper} {w':World} {fuel:Nat} {listed:Array Bool} {a:Act} {w:World} (hi:ops.toList[i]? =some oi) (hd:oi.dst=dst) (hr:Region.ready md ops listed=[i]) (hw:Region.wanted oi (yielded ops a.tmps)=true)
  (hrun:(execOp a.eval oi).run P w=.ok .skip w') (hS:i≠last→S w')
  (h:wpAnyT P md ops Q S last fuel (listed.setIfInBounds i true) (a.put dst undef) w'):wpAnyT P md ops Q S last (fuel+1) listed a w:=by
 subst hd
 refine opT i hi hr hw ?_
 unfold Oper.wp
 rw [hrun]
 exact ⟨hS,h⟩
theorem doneT {listed:Array Bool} {a:Act} {w:World} (hr:Region.ready md ops listed=[]) (h:Q .normal a w):
  ∀fuel,wpAnyT P md ops Q S last fuel listed a w
 |0=>⟨hr,h⟩
 |_+1=>⟨fun _=>h,by rw [hr];simp⟩
theorem beginT {id:Nat} {a:Act} {w:World} (last:Nat) (hm:P.follows .mixedOrders=true) (hS:S w.drew)
  (h:S w.drew→wpAnyT P .any ops Q S last ops.size (Array.replicate ops.size false) a w.drew):(Code.region id ops true).wp P Q a w:=
 wp_region_any hm (wpAny_of_T _ _ _ _ (h hS))
end
end
section
open Go.RowKit Go.Lib
section
variable {P:Program} {ops:Array Oper} {Q:Exit→Act→World→Prop} {md:Region.Mode} {S:World→Prop} {last:Nat} {fuel:Nat} {listed:Array Bool} {a:Act} {w:World}
theorem fork2 (i j:Nat) (hr:Region.ready md ops listed=[i,j])
  (h1:wpOp P ops Q i (fun a' w'=>(i≠last→S w')∧wpAnyT P md ops Q S last fuel (listed.setIfInBounds i true) a' w') a w)
  (h2:wpOp P ops Q j (fun a' w'=>(j≠last→S w')∧wpAnyT P md ops Q S last fuel (listed.setIfInBounds j true) a' w') a w):wpAnyT P md ops Q S last (fuel+1) listed a w:=by
 refine ⟨fun h0=>(by rw [hr] at h0;cases h0),fun k hk=>?_⟩
 rw [hr] at hk
 rcases List.mem_cons.1 hk with rfl|hk
 ·exact h1
 ·rw [List.mem_singleton] at hk
  subst hk
  exact h2
theorem fork3 (i j k:Nat) (hr:Region.ready md ops listed=[i,j,k])
  (h1:wpOp P ops Q i (fun a' w'=>(i≠last→S w')∧wpAnyT P md ops Q S last fuel (listed.setIfInBounds i true) a' w') a w)
  (h2:wpOp P ops Q j (fun a' w'=>(j≠last→S w')∧wpAnyT P md ops Q S last fuel (listed.setIfInBounds j true) a' w') a w)
  (h3:wpOp P ops Q k (fun a' w'=>(k≠last→S w')∧wpAnyT P md ops Q S last fuel (listed.setIfInBounds k true) a' w') a w):wpAnyT P md ops Q S last (fuel+1) listed a w:=by
 refine ⟨fun h0=>(by rw [hr] at h0;cases h0),fun x hx=>?_⟩
 rw [hr] at hx
 rcases List.mem_cons.1 hx with rfl|hx
 ·exact h1
 rcases List.mem_cons.1 hx with rfl|hx
 ·exact h2
 rw [List.mem_singleton] at hx
 subst hx
 exact h3
variable {K:Act→World→Prop}
theorem opF (i:Nat) {oi:Oper} (hi:ops.toList[i]? =some oi) (hw:Region.wanted oi (yielded ops a.tmps)=true) (h:oi.wp P a w K Q):wpOp P ops Q i K a w:=by
 have hi':ops[i]? =some oi:=by rw [←Array.getElem?_toList];exact hi
 unfold wpOp
 simp only [hi',hw,if_true]
 exact .inl h
theorem runF (i:Nat) (dst:Option Tmp) {oi:Oper} {v:Value} {w':World} (hi:ops.toList[i]? =some oi) (hd:oi.dst=dst) (hw:Region.wanted oi (yielded ops a.tmps)=true)
  (hrun:(execOp a.eval oi).run P w=.ok (.value v) w') (h:K (a.put dst v) w'):wpOp P ops Q i K a w:=by
 subst hd
 refine opF i hi hw ?_
 unfold Oper.wp
 rw [hrun]
 exact h
theorem skipRunF (i:Nat) (dst:Option Tmp) {oi:Oper} {w':World} (hi:ops.toList[i]? =some oi) (hd:oi.dst=dst) (hw:Region.wanted oi (yielded ops a.tmps)=true)
  (hrun:(execOp a.eval oi).run P w=.ok .skip w') (h:K (a.put dst undef) w'):wpOp P ops Q i K a w:=by
 subst hd
 refine opF i hi hw ?_
 unfold Oper.wp
 rw [hrun]
 exact h
theorem callF (i:Nat) (dst:Option Tmp) {oi:Oper} {f:FuncId} {args:Array Value} (hi:ops.toList[i]? =some oi) (hd:oi.dst=dst) (hw:Region.wanted oi (yielded ops a.tmps)=true)
  (hrun:(execOp a.eval oi).run P w=.ok (.enter f args) w) (h:Calls P f args w fun e w'=>∃v,e=.returned v∧K (a.put dst v) w'):wpOp P ops Q i K a w:=by
 subst hd
 refine opF i hi hw ?_
 unfold Oper.wp
 rw [hrun]
 refine h.mono fun e w' ⟨v,he,hh⟩=>?_
 subst he
 exact hh
theorem fork1 (i:Nat) (hr:Region.ready md ops listed=[i])
  (h1:wpOp P ops Q i (fun a' w'=>(i≠last→S w')∧wpAnyT P md ops Q S last fuel (listed.setIfInBounds i true) a' w') a w):wpAnyT P md ops Q S last (fuel+1) listed a w:=by
 refine ⟨fun h0=>(by rw [hr] at h0;cases h0),fun k hk=>?_⟩
 rw [hr,List.mem_singleton] at hk
 subst hk
 exact h1
end
end
section
open Go.RowKit Go.Lib
section
variable {P:Program} {ops:Array Oper} {Q:Exit→Act→World→Prop} {md:Region.Mode} {S:World→Prop} {last:Nat}
def wpAnyU (P:Program) (md:Region.Mode) (ops:Array Oper) (Q:Exit→Act→World→Prop) (S:World→Prop) (last:Nat):Nat→Array Bool→Act→World→Prop
 |0,listed,a,w=>Region.ready md ops listed=[]∧Q .normal a w
 |fuel+1,listed,a,w=>
  (Region.ready md ops listed=[]→Q .normal a w)∧
  ∀i∈Region.ready md ops listed,wpOp P ops Q i (fun a' w'=>if i=last then wpAny P md ops Q fuel (listed.setIfInBounds i true) a' w' else S w'∧wpAnyU P md ops Q S last fuel (listed.setIfInBounds i true) a' w') a w
theorem wpAny_of_U:∀(fuel:Nat) (listed:Array Bool) (a:Act) (w:World),wpAnyU P md ops Q S last fuel listed a w→wpAny P md ops Q fuel listed a w
 |0,_,_,_,h=>h
 |fuel+1,_,_,_,h=>⟨h.1,fun i hi=>wpOp_mono (fun a' w' h'=>by
  split at h'
  ·exact h'
  ·exact wpAny_of_U fuel _ a' w' h'.2) (h.2 i hi)⟩
theorem wpAnyU_first {i:Nat} {oi:Oper} {v:Value} (hi:ops[i]? =some oi) (hsel:∀(j:Nat) (o:Oper) cs b,ops[j]? =some o→o.op≠.select cs b)
  (hQ:∀c a w,Q (.panic c) (a.put oi.dst v) w→Q (.panic c) a w) (hwt:waits md ops last i=true) (hil:i≠last):
  ∀(fuel:Nat) (listed:Array Bool) (a:Act) (w:World),
   (∀j oj,ops[j]? =some oj→j≠i→listed.getD j true=false→(∀e∈oj.after,Region.binds md e=true→e.on≠i)→oi.apart ops oj=true)→
   i∈Region.ready md ops listed→YieldsIf P ops S oi v a→S w→
   wpAnyU P md ops Q S last fuel (listed.setIfInBounds i true) (a.put oi.dst v) w→wpAnyU P md ops Q S last (fuel+1) listed a w:=by
 intro fuel
 induction fuel with
 |zero=>
  intro listed a w _ hr hy hS H
  refine ⟨fun h=>(by rw [h] at hr;cases hr),fun j hj=>?_⟩
  by_cases hji:j=i
  ·subst hji;exact hy.wpOp hi hS (by rw [if_neg hil];exact ⟨hS,H⟩)
  ·have:=ready_mono hj hji
   rw [H.1] at this
   cases this
 |succ fuel ih=>
  intro listed a w hfree hr hy hS H
  refine ⟨fun h=>(by rw [h] at hr;cases hr),fun j hj=>?_⟩
  by_cases hji:j=i
  ·subst hji;exact hy.wpOp hi hS (by rw [if_neg hil];exact ⟨hS,H⟩)
  ·have h1:=H.2 j (ready_mono hj hji)
   obtain ⟨hjun,oj,hoj,hall⟩:=mem_ready.1 hj
   have hnot:∀e∈oj.after,Region.binds md e=true→e.on≠i:=fun e he hb heq=>by
    have h1:=hall e he hb
    have h0:=(mem_ready.1 hr).1
    rw [heq] at h1
    rcases Nat.lt_or_ge i listed.size with h'|h'
    ·simp [h'] at h0 h1;rw [h0] at h1;cases h1
    ·simp [Array.getElem?_eq_none h'] at h1
   have hjl:j≠last:=by
    rintro rfl
    unfold waits at hwt
    rw [hoj] at hwt
    simp only [Array.any_eq_true',Bool.and_eq_true,beq_iff_eq] at hwt
    obtain ⟨e,he,hb,heq⟩:=hwt
    exact hnot e he hb heq
   have h2:=wpOp_putIf hoj (hfree j oj hoj hji hjun hnot) (fun cs b=>hsel i oi cs b hi) (fun cs b=>hsel j oj cs b hoj) hQ hy h1
   have hfree':∀k ok,ops[k]? =some ok→k≠i→(listed.setIfInBounds j true).getD k true=false→
     (∀e∈ok.after,Region.binds md e=true→e.on≠i)→oi.apart ops ok=true:=fun k ok hk hki hun hno=>by
    refine hfree k ok hk hki ?_ hno
    by_cases hjk:j=k
    ·subst hjk;exact hjun
    ·rw [getD_set_ne true hjk] at hun;exact hun
   refine wpOp_mono (fun a' w' h3=>?_) h2
   have h4:=h3.2
   rw [if_neg hjl] at h4 ⊢
   refine ⟨h4.1,ih (listed.setIfInBounds j true) a' w' hfree' (ready_mono hr (Ne.symm hji)) h3.1 h4.1 ?_⟩
   rw [Array.setIfInBounds_comm _ _ hji]
   exact h4.2
theorem takeU (i:Nat) (dst:Option Tmp) {oi:Oper} {v:Value} {fuel:Nat} {listed:Array Bool} {a:Act} {w:World} (hi:ops.toList[i]? =some oi) (hd:oi.dst=dst) (hs:Region.noSelect ops=true) (hf:Region.free md ops listed i=true) (hr:(Region.ready md ops listed).contains i=true) (hwt:(waits md ops last i&&i != last)=true)
  (hw:Region.wanted oi (yielded ops a.tmps)=true) (hS:S w) (hQ:∀c a w,Q (.panic c) (a.put dst v) w→Q (.panic c) a w) (hy:∀w,S w→(execOp a.eval oi).run P w=.ok (.value v) w)
  (h:wpAnyU P md ops Q S last fuel (listed.setIfInBounds i true) (a.put dst v) w):wpAnyU P md ops Q S last (fuel+1) listed a w:=by
 exact zq11 3
theorem skipU (i:Nat) (dst:Option Tmp) {oi:Oper} {fuel:Nat} {listed:Array Bool} {a:Act} {w:World} (hi:ops.toList[i]? =some oi) (hd:oi.dst=dst) (hs:Region.noSelect ops=true) (hf:Region.free md ops listed i=true) (hr:(Region.ready md ops listed).contains i=true) (hwt:(waits md ops last i&&i != last)=true)
  (hw:Region.wanted oi (yielded ops a.tmps)=false) (hS:S w) (hQ:∀c a w,Q (.panic c) (a.put dst undef) w→Q (.panic c) a w)
  (h:wpAnyU P md ops Q S last fuel (listed.setIfInBounds i true) (a.put dst undef) w):wpAnyU P md ops Q S last (fuel+1) listed a w:=by
 exact zq11 1
theorem lastU {fuel:Nat} {listed:Array Bool} {a:Act} {w:World} (hr:Region.ready md ops listed=[last]) (h:wpOp P ops Q last (wpAny P md ops Q fuel (listed.setIfInBounds last true)) a w):wpAnyU P md ops Q S last (fuel+1) listed a w:=by
 refine ⟨fun h0=>(by rw [hr] at h0;cases h0),fun k hk=>?_⟩
 rw [hr,List.mem_singleton] at hk
 subst hk
 refine wpOp_mono (fun a' w' h'=>?_) h
 rw [if_pos rfl]
 exact h'
theorem forkU1 (i:Nat) {fuel:Nat} {listed:Array Bool} {a:Act} {w:World} (hr:Region.ready md ops listed=[i]) (hil:i≠last)
  (h:wpOp P ops Q i (fun a' w'=>S w'∧wpAnyU P md ops Q S last fuel (listed.setIfInBounds i true) a' w') a w):wpAnyU P md ops Q S last (fuel+1) listed a w:=by
 refine ⟨fun h0=>(by rw [hr] at h0;cases h0),fun k hk=>?_⟩
 rw [hr,List.mem_singleton] at hk
 subst hk
 rw [show (fun a' w'=>if k=last then wpAny P md ops Q fuel (listed.setIfInBounds k true) a' w' else S w'∧wpAnyU P md ops Q S last fuel (listed.setIfInBounds k true) a' w')=(fun a' w'=>S w'∧wpAnyU P md ops Q S last fuel (listed.setIfInBounds k true) a' w') from by simp [hil]]
 exact h
theorem forkU2 (i:Nat) {fuel:Nat} {listed:Array Bool} {a:Act} {w:World} (hr:Region.ready md ops listed=[i,last]∨Region.ready md ops listed=[last,i]) (hil:i≠last)
  (h:wpOp P ops Q i (fun a' w'=>S w'∧wpAnyU P md ops Q S last fuel (listed.setIfInBounds i true) a' w') a w)
  (h2:wpOp P ops Q last (wpAny P md ops Q fuel (listed.setIfInBounds last true)) a w):wpAnyU P md ops Q S last (fuel+1) listed a w:=by
 refine ⟨fun h0=>(by rcases hr with hr|hr<;>(rw [hr] at h0;cases h0)),fun k hk=>?_⟩
 have hk':k=i∨k=last:=by
  rcases hr with hr|hr<;>(rw [hr] at hk;simpa [or_comm] using hk)
 rcases hk' with rfl|rfl
 ·rw [show (fun a' w'=>if k=last then wpAny P md ops Q fuel (listed.setIfInBounds k true) a' w' else S w'∧wpAnyU P md ops Q S last fuel (listed.setIfInBounds k true) a' w')=(fun a' w'=>S w'∧wpAnyU P md ops Q S last fuel (listed.setIfInBounds k true) a' w') from by simp [hil]]
  exact h
 ·refine wpOp_mono (fun a' w' h'=>?_) h2
  rw [if_pos rfl]
  exact h'
theorem beginU {id:Nat} {a:Act} {w:World} (last:Nat) (hm:P.follows .mixedOrders=true) (hS:S w.drew)
  (h:S w.drew→wpAnyU P .any ops Q S last ops.size (Array.replicate ops.size false) a w.drew):(Code.region id ops true).wp P Q a w:=
 wp_region_any hm (wpAny_of_U _ _ _ _ (h hS))
end
end
section
open Go.RowKit Go.Lib
structure Chg (S:Nat→Prop) (w w':World):Prop where
 os:w'.os=w.os
 tape:w'.tape=w.tape
 output:w'.output=w.output
 size:w.heap.size≤w'.heap.size
 block:∀k,k<w.heap.size→¬S k→w'.heap[k]? =w.heap[k]?
theorem Chg.refl (S:Nat→Prop) (w:World):Chg S w w:=⟨rfl,rfl,rfl,Nat.le_refl _,fun _ _ _=>rfl⟩
theorem Chg.trans {S T:Nat→Prop} {a b c:World} (h:Chg S a b) (k:Chg T b c) (hs:∀i,i<a.heap.size→T i→S i):Chg S a c:=
 ⟨k.os.trans h.os,k.tape.trans h.tape,k.output.trans h.output,Nat.le_trans h.size k.size,fun i hi hn=>(k.block i (Nat.lt_of_lt_of_le hi h.size) (fun t=>hn (hs i hi t))).trans (h.block i hi hn)⟩
theorem Chg.mono {S T:Nat→Prop} {a b:World} (h:Chg S a b) (hs:∀i,S i→T i):Chg T a b:=
 ⟨h.os,h.tape,h.output,h.size,fun i hi hn=>h.block i hi (fun t=>hn (hs i t))⟩
theorem Chg.below {B:Nat} {S:Nat→Prop} {a b:World} (h:Chg S a b) (hB:B≤a.heap.size) (hs:∀i,S i→B≤i):Below B a b:=
 ⟨h.os,h.tape,h.output,h.size,fun i hi=>h.block i (by omega) (fun t=>by have:=hs i t;omega)⟩
theorem Chg.of_below {a b:World} (h:Bl a b) (S:Nat→Prop):Chg S a b:=
 ⟨h.os,h.tape,h.output,h.size,fun i hi _=>h.block i hi⟩
theorem Chg.of_grown {a b:World} {row:Option Nat} (h:a.grownBy b row):Chg (fun i=>some i=row) a b:=
 ⟨h.os,h.tape,h.output,h.size,fun i hi hn=>h.block i hi hn⟩
theorem Chg.alloc {S:Nat→Prop} {a b:World} (h:Chg S a b) (o:Obj):Chg S a (b.alloc o):=
 h.trans (Chg.of_below (Below.of_alloc o) S) (fun _ _ t=>t)
theorem Chg.drew {S:Nat→Prop} {a b:World} (h:Chg S a b):Chg S a b.drew:=⟨h.os,h.tape,h.output,h.size,h.block⟩
theorem Chg.then_below {S:Nat→Prop} {a b c:World} (h:Chg S a b) (k:Bl b c):Chg S a c:=
 h.trans (Chg.of_below k S) (fun _ _ t=>t)
theorem Chg.setCell {S:Nat→Prop} {a b:World} (h:Chg S a b) {p:Addr} (hp:S p.block∨a.heap.size≤p.block) (u:Value):Chg S a (b.setCell p u):=
 ⟨h.os,h.tape,h.output,Nat.le_trans h.size (by simp [World.setCell]),fun i hi hn=>(Below.heap_setCell _ _ _ _ (fun e=>by subst e;exact hp.elim hn (fun h=>by omega))).trans (h.block i hi hn)⟩
end
section
open Go.RowKit Go.Lib
theorem aP:(∀(a:Act) (d:Tmp) (v:Value),a.put (some d) v= { a with tmps:=a.tmps.setIfInBounds d v })∧(∀(a:Act) (v:Value),a.put none v=a)∧
  (∀(l:List Bool) (i:Nat) (x:Bool),l.toArray.setIfInBounds i x=(l.set i x).toArray)∧(∀(x y:Bool) (l:List Bool),(x::l).set 0 y=y::l)∧(∀(x y:Bool) (l:List Bool) (n:Nat),(x::l).set (n+1) y=x::l.set n y)∧
  (∀(l:List Value) (i:Nat) (x:Value),l.toArray.setIfInBounds i x=(l.set i x).toArray)∧(∀(x y:Value) (l:List Value),(x::l).set 0 y=y::l)∧(∀(x y:Value) (l:List Value) (n:Nat),(x::l).set (n+1) y=x::l.set n y):=
 ⟨fun _ _ _=>rfl,fun _ _=>rfl,fun _ _ _=>by simp,fun _ _ _=>rfl,fun _ _ _ _=>rfl,fun _ _ _=>by simp,fun _ _ _=>rfl,fun _ _ _ _=>rfl⟩
section
variable {P:Program} {ops:Array Oper} {Q:Exit→Act→World→Prop} {md:Region.Mode} {S:World→Prop} {fuel:Nat} {listed:Array Bool} {a:Act} {w:World} {last:Nat} {K:Act→World→Prop}
theorem hU (i:Nat) (d:Tmp) {oi:Oper} {l':Array Bool} {a':Act} {v:Value} (hS:S w) (hy:∀w,S w→(execOp a.eval oi).run P w=.ok (.value v) w) (h:wpAnyH P md ops Q S fuel l' a' w)
  (hi:ops.toList[i]? =some oi:=by rfl) (hd:oi.dst=some d:=by rfl) (hs:Region.noSelect ops=true:=by kernel_rfl) (hf:Region.free md ops listed i=true:=by kernel_rfl) (hr:(Region.ready md ops listed).contains i=true:=by kernel_rfl)
  (hw:Region.wanted oi (yielded ops a.tmps)=true:=by rfl) (hQ:∀c a w,Q (.panic c) (a.put (some d) v) w→Q (.panic c) a w:=by exact fun _ _ _ h=>h)
  (hl:listed.setIfInBounds i true=l':=by conv=>lhs;(try simp only [aP])) (ha:a.put (some d) v=a':=by conv=>lhs;(try simp only [aP])):wpAnyH P md ops Q S (fuel+1) listed a w:=by
 subst hl;subst ha;exact heldTake i (some d) hi hd hs hf hr hw hS hQ hy h
theorem hT (i:Nat) (d:Tmp) {oi:Oper} {l':Array Bool} {a':Act} {v:Value} (h:wpAnyH P md ops Q S fuel l' a' w)
  (hS:S w:=by assumption) (hi:ops.toList[i]? =some oi:=by rfl) (hd:oi.dst=some d:=by rfl) (hs:Region.noSelect ops=true:=by kernel_rfl) (hf:Region.free md ops listed i=true:=by kernel_rfl) (hr:(Region.ready md ops listed).contains i=true:=by kernel_rfl)
  (hw:Region.wanted oi (yielded ops a.tmps)=true:=by rfl) (hy:∀w,S w→(execOp a.eval oi).run P w=.ok (.value v) w:=by intro w' hSw;(try dsimp only at hSw);go_simp<;>with_reducible rfl)
  (hQ:∀c a w,Q (.panic c) (a.put (some d) v) w→Q (.panic c) a w:=by exact fun _ _ _ h=>h)
  (hl:listed.setIfInBounds i true=l':=by conv=>lhs;(try simp only [aP])) (ha:a.put (some d) v=a':=by conv=>lhs;(try simp only [aP])):wpAnyH P md ops Q S (fuel+1) listed a w:=by
 subst hl;subst ha;exact heldTake i (some d) hi hd hs hf hr hw hS hQ hy h
theorem hV (i:Nat) (d:Tmp) {oi:Oper} {l':Array Bool} {a':Act} {v:Value} (h:wpAnyH P md ops Q S fuel l' a' w)
  (hS:S w:=by assumption) (hi:ops.toList[i]? =some oi:=by rfl) (hd:oi.dst=some d:=by rfl) (hs:Region.noSelect ops=true:=by kernel_rfl) (hf:Region.free md ops listed i=true:=by kernel_rfl) (hr:(Region.ready md ops listed).contains i=true:=by kernel_rfl)
  (hw:Region.wanted oi (yielded ops a.tmps)=true:=by rfl) (hy:∀w,S w→(execOp a.eval oi).run P w=.ok (.value v) w:=by intro w' hSw;(try dsimp only at hSw);subst hSw;go_simp<;>with_reducible rfl)
  (hQ:∀c a w,Q (.panic c) (a.put (some d) v) w→Q (.panic c) a w:=by exact fun _ _ _ h=>h)
  (hl:listed.setIfInBounds i true=l':=by conv=>lhs;(try simp only [aP])) (ha:a.put (some d) v=a':=by conv=>lhs;(try simp only [aP])):wpAnyH P md ops Q S (fuel+1) listed a w:=by
 subst hl;subst ha;exact heldTake i (some d) hi hd hs hf hr hw hS hQ hy h
theorem hK (i:Nat) (d:Tmp) {oi:Oper} {l':Array Bool} {a':Act} (h:wpAnyH P md ops Q S fuel l' a' w)
  (hS:S w:=by assumption) (hi:ops.toList[i]? =some oi:=by rfl) (hd:oi.dst=some d:=by rfl) (hs:Region.noSelect ops=true:=by kernel_rfl) (hf:Region.free md ops listed i=true:=by kernel_rfl) (hr:(Region.ready md ops listed).contains i=true:=by kernel_rfl)
  (hw:Region.wanted oi (yielded ops a.tmps)=false:=by rfl) (hQ:∀c a w,Q (.panic c) (a.put (some d) undef) w→Q (.panic c) a w:=by exact fun _ _ _ h=>h)
  (hl:listed.setIfInBounds i true=l':=by conv=>lhs;(try simp only [aP])) (ha:a.put (some d) undef=a':=by conv=>lhs;(try simp only [aP])):wpAnyH P md ops Q S (fuel+1) listed a w:=by
 subst hl;subst ha;exact heldSkip i (some d) hi hd hs hf hr hw hS hQ h
theorem hC (i:Nat) (d:Tmp) {oi:Oper} {f:FuncId} {args:Array Value} (h:Calls P f args w fun e w'=>∃v,e=.returned v∧S w'∧wpAnyH P md ops Q S fuel (listed.setIfInBounds i true) (a.put (some d) v) w')
  (hi:ops.toList[i]? =some oi:=by rfl) (hd:oi.dst=some d:=by rfl) (hr:Region.ready md ops listed=[i]:=by kernel_rfl) (hw:Region.wanted oi (yielded ops a.tmps)=true:=by rfl)
  (hrun:(execOp a.eval oi).run P w=.ok (.enter f args) w:=by go_simp<;>first|(constructor<;>with_reducible rfl)|with_reducible rfl):wpAnyH P md ops Q S (fuel+1) listed a w:=
 heldCall i (some d) hi hd hr hw hrun h
theorem tU (i:Nat) (d:Tmp) {oi:Oper} {l':Array Bool} {a':Act} {v:Value} (hS:S w) (hy:∀w,S w→(execOp a.eval oi).run P w=.ok (.value v) w) (h:wpAnyT P md ops Q S last fuel l' a' w)
  (hi:ops.toList[i]? =some oi:=by rfl) (hd:oi.dst=some d:=by rfl) (hs:Region.noSelect ops=true:=by kernel_rfl) (hf:Region.free md ops listed i=true:=by kernel_rfl) (hr:(Region.ready md ops listed).contains i=true:=by kernel_rfl)
  (hwt:(waits md ops last i&&i != last)=true:=by kernel_rfl) (hw:Region.wanted oi (yielded ops a.tmps)=true:=by rfl) (hQ:∀c a w,Q (.panic c) (a.put (some d) v) w→Q (.panic c) a w:=by exact fun _ _ _ h=>h)
  (hl:listed.setIfInBounds i true=l':=by conv=>lhs;(try simp only [aP])) (ha:a.put (some d) v=a':=by conv=>lhs;(try simp only [aP])):wpAnyT P md ops Q S last (fuel+1) listed a w:=by
 subst hl;subst ha;exact takeT i (some d) hi hd hs hf hr hwt hw hS hQ hy h
theorem tT (i:Nat) (d:Tmp) {oi:Oper} {l':Array Bool} {a':Act} {v:Value} (h:wpAnyT P md ops Q S last fuel l' a' w)
  (hS:S w:=by assumption) (hi:ops.toList[i]? =some oi:=by rfl) (hd:oi.dst=some d:=by rfl) (hs:Region.noSelect ops=true:=by kernel_rfl) (hf:Region.free md ops listed i=true:=by kernel_rfl) (hr:(Region.ready md ops listed).contains i=true:=by kernel_rfl)
  (hwt:(waits md ops last i&&i != last)=true:=by kernel_rfl) (hw:Region.wanted oi (yielded ops a.tmps)=true:=by rfl) (hy:∀w,S w→(execOp a.eval oi).run P w=.ok (.value v) w:=by intro w' hSw;(try dsimp only at hSw);go_simp<;>with_reducible rfl)
  (hQ:∀c a w,Q (.panic c) (a.put (some d) v) w→Q (.panic c) a w:=by exact fun _ _ _ h=>h)
  (hl:listed.setIfInBounds i true=l':=by conv=>lhs;(try simp only [aP])) (ha:a.put (some d) v=a':=by conv=>lhs;(try simp only [aP])):wpAnyT P md ops Q S last (fuel+1) listed a w:=by
 subst hl;subst ha;exact takeT i (some d) hi hd hs hf hr hwt hw hS hQ hy h
theorem cT (i:Nat) (d:Tmp) {oi:Oper} {f:FuncId} {args:Array Value} (h:Calls P f args w fun e w'=>∃v,e=.returned v∧(i≠last→S w')∧wpAnyT P md ops Q S last fuel (listed.setIfInBounds i true) (a.put (some d) v) w')
  (hi:ops.toList[i]? =some oi:=by rfl) (hd:oi.dst=some d:=by rfl) (hr:Region.ready md ops listed=[i]:=by kernel_rfl) (hw:Region.wanted oi (yielded ops a.tmps)=true:=by rfl)
  (hrun:(execOp a.eval oi).run P w=.ok (.enter f args) w:=by go_simp<;>first|(constructor<;>with_reducible rfl)|with_reducible rfl):wpAnyT P md ops Q S last (fuel+1) listed a w:=
 callT i (some d) hi hd hr hw hrun h
theorem fC (i:Nat) (d:Tmp) {oi:Oper} {f:FuncId} {args:Array Value} (h:Calls P f args w fun e w'=>∃v,e=.returned v∧K (a.put (some d) v) w')
  (hi:ops.toList[i]? =some oi:=by rfl) (hd:oi.dst=some d:=by rfl) (hw:Region.wanted oi (yielded ops a.tmps)=true:=by rfl)
  (hrun:(execOp a.eval oi).run P w=.ok (.enter f args) w:=by go_simp<;>first|(constructor<;>with_reducible rfl)|with_reducible rfl):wpOp P ops Q i K a w:=
 callF i (some d) hi hd hw hrun h
end
end
end Go.Proofs.YtgfhknnklapldaaGreatDoor
