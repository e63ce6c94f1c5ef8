/-
 PdY
-/
import Derived.Test.YtgfhknnklapldaaGreatDoorBDuP
import Derived.Test.YtgfhknnklapldaaGreatDoorBDuJ
import Derived.Test.YtgfhknnklapldaaGreatDoorBDuI
import Derived.Test.YtgfhknnklapldaaGreatDoorBDuK
import Derived.Test.YtgfhknnklapldaaGreatDoorBDuH
import Derived.Test.YtgfhknnklapldaaGreatDoorBSeg1
import Derived.Test.YtgfhknnklapldaaGreatDoorBRc3
import Derived.Test.YtgfhknnklapldaaGreatDoorBRcO
import Derived.Test.YtgfhknnklapldaaGreatDoorBVer
import Derived.Test.YtgfhknnklapldaaGreatDoorBPdD
import Derived.Test.YtgfhknnklapldaaGreatDoorBPdA
namespace Go.Proofs.YtgfhknnklapldaaGreatDoor
open Go.Proofs.Tryz
set_option maxRecDepth 99999
set_option maxHeartbeats 0
open Go.RowKit Go.Lib Go.IntWalk Go.Sort Go.Shelf
theorem yq14 {P:Prop} (i:Nat) (h:Th i→P:=by
 intro yT14
 first
  |done
  |guard_hyp yT14:Th 1
  |have q3:(3000:Int)<(l.length:Int):=by omega
 go_wp2_with fail
 (with_reducible refine (KW.out w2 HB2.out).mono ?_)
 rintro _ w9 ⟨rfl,hb9⟩
 have HB9:=bT0 HB2 hb9
 clear hb9
 go_wp2_with fail
 go_ret
 exact ⟨rfl,HB9.out⟩) : P := h ⟨⟩
theorem dset9 {w:World} {T:Nat} {a0 a1 a2 a3 a4 a5 a6 a7 a8:Value} {e:TypeId} (h:w.heap[T]? =some (.cells #[a0,a1,a2,a3,a4,a5,a6,a7,a8] e (0,0))) (c0 c1 c2 c3 c4 c5 c6 c7 c8:Value):(((((((((w.setCell ⟨T,0,none⟩ c0).setCell ⟨T,1,none⟩ c1).setCell ⟨T,2,none⟩ c2).setCell ⟨T,3,none⟩ c3).setCell ⟨T,4,none⟩ c4).setCell ⟨T,5,none⟩ c5).setCell ⟨T,6,none⟩ c6).setCell ⟨T,7,none⟩ c7).setCell ⟨T,8,none⟩ c8).heap[T]? =some (.cells #[c0,c1,c2,c3,c4,c5,c6,c7,c8] e (0,0)):=by
 have h0:=heap_setCell_same w T 0 _ _ c0 h
 have h1:=heap_setCell_same _ T 1 _ _ c1 h0
 have h2:=heap_setCell_same _ T 2 _ _ c2 h1
 have h3:=heap_setCell_same _ T 3 _ _ c3 h2
 have h4:=heap_setCell_same _ T 4 _ _ c4 h3
 have h5:=heap_setCell_same _ T 5 _ _ c5 h4
 have h6:=heap_setCell_same _ T 6 _ _ c6 h5
 have h7:=heap_setCell_same _ T 7 _ _ c7 h6
 have h8:=heap_setCell_same _ T 8 _ _ c8 h7
 simpa using h8
theorem dchg9 (w:World) (T:Nat) (c0 c1 c2 c3 c4 c5 c6 c7 c8:Value):Chg (·=T) w (((((((((w.setCell ⟨T,0,none⟩ c0).setCell ⟨T,1,none⟩ c1).setCell ⟨T,2,none⟩ c2).setCell ⟨T,3,none⟩ c3).setCell ⟨T,4,none⟩ c4).setCell ⟨T,5,none⟩ c5).setCell ⟨T,6,none⟩ c6).setCell ⟨T,7,none⟩ c7).setCell ⟨T,8,none⟩ c8):=((((((((((Chg.refl (·=T) w).setCell (p:=⟨T,0,none⟩) (.inl rfl) c0).setCell (p:=⟨T,1,none⟩) (.inl rfl) c1).setCell (p:=⟨T,2,none⟩) (.inl rfl) c2).setCell (p:=⟨T,3,none⟩) (.inl rfl) c3).setCell (p:=⟨T,4,none⟩) (.inl rfl) c4).setCell (p:=⟨T,5,none⟩) (.inl rfl) c5).setCell (p:=⟨T,6,none⟩) (.inl rfl) c6).setCell (p:=⟨T,7,none⟩) (.inl rfl) c7).setCell (p:=⟨T,8,none⟩) (.inl rfl) c8)
def rowQ:List Val:=[⟨1,1,⟨#[]⟩⟩,⟨2,0,⟨#[105,116,39,115]⟩⟩]
def verQ:Ver:=⟨7,0,rowQ,0,5,10,1099511627776,2,0⟩
def rvQ (A:Option Addr):RV:=⟨7,0,A,2,2,0,5,10,1099511627776,2,0⟩
def tvQ (A B:Option Addr):RTv:=⟨⟨#[116]⟩,B,1,[(rvQ A,verQ)]⟩
def tTab:List UInt8:=[116,97,98,108,101,32,39,116,39,10,118,101,114,115,105,111,110,32,55,32,48,32,50,32,49,32,39,105,116,39,39,115,39,32,48,32,53,32,49,48,32,49,48,57,57,53,49,49,54,50,55,55,55,54,32,50,32,48,10]
theorem txQ:txT sW0=tW0:=by
 unfold txT
 rw [if_pos sW0_f]
 kernel_rfl
theorem tabQ (A B:Option Addr):tabE (tvQ A B).table ((tvQ A B).vers.map (·.2))=0:=by kernel_rfl
theorem dtQ (A B:Option Addr):dtT (tvQ A B)=tTab:=by
 unfold dtT
 rw [if_pos (tabQ A B)]
 kernel_rfl
theorem works_any (w:World) (he:EnvD w):Calls prog 9 #[] w fun e w'=>e=.returned (.bool true)∧Bl w w':=by
 have HE:=hI0 he
 have KX:Hid (∀W,Bl w W→Calls prog 10 #[.agg #[.int .i64 0,.int .i64 0,.int .i64 0,.int .i64 1,.slice none 0 0,.slice none 0 0,.slice none 0 0,.slice none 0 0,.slice none 0 0,.slice none 0 0]] W fun e w'=>e=.returned (.tuple #[.string (strB tW0),.int .i64 0])∧Bl W w'):=hI0 (fun W hb=>by
  have k:=dtext_any sW0 W (he.below hb) (sW0_is _ _) (sW0_lim _)
  unfold TxOut at k
  rw [txQ,sW0_f] at k
  exact k)
 have hT0:(strB tW0).toList=[98,105,116,101,109,112,111,114,97,108,32,100,117,109,112,32,49,10,115,116,97,116,101,32,48,32,48,32,48,32,49,10,101,110,100,10]:=by rw [ByteArray.toList_eq,bas_s];rfl
 have hTT:(strB tTab).toList=[116,97,98,108,101,32,39,116,39,10,118,101,114,115,105,111,110,32,55,32,48,32,50,32,49,32,39,105,116,39,39,115,39,32,48,32,53,32,49,48,32,49,48,57,57,53,49,49,54,50,55,55,55,54,32,50,32,48,10]:=by rw [ByteArray.toList_eq,bas_s];rfl
 clear he
 go_in
 go_wp2_with fail
 (with_reducible refine (KX.out w (Below.refl _ _)).mono ?_)
 rintro _ w1 ⟨rfl,hb1⟩
 have HB1:=hI0 hb1
 have KP:=hI0 (parse0_any w1 (HE.out.below hb1))
 clear hb1 KX
 generalize strB tW0=S0 at *
 go_wp2_with fail
 (with_reducible refine KP.out.mono ?_)
 rintro _ w2 ⟨rfl,hb2⟩
 have HB2:=bT0 HB1 hb2
 clear hb2 KP HB1
 obtain ⟨W2,hW2⟩:=eN0 (w2.alloc (.cells cZ0 29))
 have hbW2:=bN0 hW2
 have hnW2:=hN0 hW2
 have eW2:w2.alloc (.cells cZ0 29)=W2:=by rw [hW2]
 clear hW2
 have g9:=cW1 9 hnW2 rfl
 have f9:W2.frozen? ⟨w2.heap.size,9,none⟩=false:=fW0 _ _ _ _ _ hnW2
 have g8:=cW1 8 hnW2 rfl
 have f8:W2.frozen? ⟨w2.heap.size,8,none⟩=false:=fW0 _ _ _ _ _ hnW2
 have g7:=cW1 7 hnW2 rfl
 have f7:W2.frozen? ⟨w2.heap.size,7,none⟩=false:=fW0 _ _ _ _ _ hnW2
 have g6:=cW1 6 hnW2 rfl
 have f6:W2.frozen? ⟨w2.heap.size,6,none⟩=false:=fW0 _ _ _ _ _ hnW2
 have g5:=cW1 5 hnW2 rfl
 have f5:W2.frozen? ⟨w2.heap.size,5,none⟩=false:=fW0 _ _ _ _ _ hnW2
 have g4:=cW1 4 hnW2 rfl
 have f4:W2.frozen? ⟨w2.heap.size,4,none⟩=false:=fW0 _ _ _ _ _ hnW2
 have g3:=cW1 3 hnW2 rfl
 have f3:W2.frozen? ⟨w2.heap.size,3,none⟩=false:=fW0 _ _ _ _ _ hnW2
 have g2:=cW1 2 hnW2 rfl
 have f2:W2.frozen? ⟨w2.heap.size,2,none⟩=false:=fW0 _ _ _ _ _ hnW2
 have g1:=cW1 1 hnW2 rfl
 have f1:W2.frozen? ⟨w2.heap.size,1,none⟩=false:=fW0 _ _ _ _ _ hnW2
 have g0:=cW1 0 hnW2 rfl
 have f0:W2.frozen? ⟨w2.heap.size,0,none⟩=false:=fW0 _ _ _ _ _ hnW2
 obtain ⟨W3,hW3⟩:=eN0 (((((((((((W2.setCell ⟨w2.heap.size,0,none⟩ (.int .i64 0)).setCell ⟨w2.heap.size,1,none⟩ (.int .i64 0)).setCell ⟨w2.heap.size,2,none⟩ (.int .i64 0)).setCell ⟨w2.heap.size,3,none⟩ (.int .i64 1)).setCell ⟨w2.heap.size,4,none⟩ (.slice none 0 0)).setCell ⟨w2.heap.size,5,none⟩ (.slice none 0 0)).setCell ⟨w2.heap.size,6,none⟩ (.slice none 0 0)).setCell ⟨w2.heap.size,7,none⟩ (.slice none 0 0)).setCell ⟨w2.heap.size,8,none⟩ (.slice none 0 0)).setCell ⟨w2.heap.size,9,none⟩ (.slice none 0 0)):World)
 have hnW3:W3.heap[w2.heap.size]? =some (.cells #[.int .i64 0,.int .i64 0,.int .i64 0,.int .i64 1,.slice none 0 0,.slice none 0 0,.slice none 0 0,.slice none 0 0,.slice none 0 0,.slice none 0 0] 29 (0,0)):=by rw [hW3];exact dten_set hnW2 (.int .i64 0) (.int .i64 0) (.int .i64 0) (.int .i64 1) (.slice none 0 0) (.slice none 0 0) (.slice none 0 0) (.slice none 0 0) (.slice none 0 0) (.slice none 0 0)
 have hbW3:Bl w2 W3:=by rw [hW3];exact hbW2.trans ((dten_chg W2 w2.heap.size (.int .i64 0) (.int .i64 0) (.int .i64 0) (.int .i64 1) (.slice none 0 0) (.slice none 0 0) (.slice none 0 0) (.slice none 0 0) (.slice none 0 0) (.slice none 0 0)).below (B:=w2.heap.size) hbW2.size (fun i (hi:i=w2.heap.size)=>by omega))
 have eW3:((((((((((W2.setCell ⟨w2.heap.size,0,none⟩ (.int .i64 0)).setCell ⟨w2.heap.size,1,none⟩ (.int .i64 0)).setCell ⟨w2.heap.size,2,none⟩ (.int .i64 0)).setCell ⟨w2.heap.size,3,none⟩ (.int .i64 1)).setCell ⟨w2.heap.size,4,none⟩ (.slice none 0 0)).setCell ⟨w2.heap.size,5,none⟩ (.slice none 0 0)).setCell ⟨w2.heap.size,6,none⟩ (.slice none 0 0)).setCell ⟨w2.heap.size,7,none⟩ (.slice none 0 0)).setCell ⟨w2.heap.size,8,none⟩ (.slice none 0 0)).setCell ⟨w2.heap.size,9,none⟩ (.slice none 0 0))=W3:=by rw [hW3]
 clear hW3
 obtain ⟨W4,hW4⟩:=eN0 (W3.alloc (.cells #[.int .i64 1,.int .i64 1,.string ⟨#[]⟩,.int .i64 2,.int .i64 0,.string ⟨#[105,116,39,115]⟩] 51))
 have hbW4:=bN0 hW4
 have hnW4:=hN0 hW4
 have eW4:W3.alloc (.cells #[.int .i64 1,.int .i64 1,.string ⟨#[]⟩,.int .i64 2,.int .i64 0,.string ⟨#[105,116,39,115]⟩] 51)=W4:=by rw [hW4]
 clear hW4
 obtain ⟨WZ,hWZ⟩:=eN0 (W4.alloc (.cells #[.int .i64 0,.int .i64 0,.slice none 0 0,.int .i64 0,.int .i64 0,.int .i64 0,.int .i64 0,.int .i64 0,.int .i64 0] 56))
 have hbWZ:=bN0 hWZ
 have hnWZ:=hN0 hWZ
 have eWZ:W4.alloc (.cells #[.int .i64 0,.int .i64 0,.slice none 0 0,.int .i64 0,.int .i64 0,.int .i64 0,.int .i64 0,.int .i64 0,.int .i64 0] 56)=WZ:=by rw [hWZ]
 clear hWZ
 have k8:=cW1 8 hnWZ rfl
 have q8:WZ.frozen? ⟨W4.heap.size,8,none⟩=false:=fW0 _ _ _ _ _ hnWZ
 have k7:=cW1 7 hnWZ rfl
 have q7:WZ.frozen? ⟨W4.heap.size,7,none⟩=false:=fW0 _ _ _ _ _ hnWZ
 have k6:=cW1 6 hnWZ rfl
 have q6:WZ.frozen? ⟨W4.heap.size,6,none⟩=false:=fW0 _ _ _ _ _ hnWZ
 have k5:=cW1 5 hnWZ rfl
 have q5:WZ.frozen? ⟨W4.heap.size,5,none⟩=false:=fW0 _ _ _ _ _ hnWZ
 have k4:=cW1 4 hnWZ rfl
 have q4:WZ.frozen? ⟨W4.heap.size,4,none⟩=false:=fW0 _ _ _ _ _ hnWZ
 have k3:=cW1 3 hnWZ rfl
 have q3:WZ.frozen? ⟨W4.heap.size,3,none⟩=false:=fW0 _ _ _ _ _ hnWZ
 have k2:=cW1 2 hnWZ rfl
 have q2:WZ.frozen? ⟨W4.heap.size,2,none⟩=false:=fW0 _ _ _ _ _ hnWZ
 have k1:=cW1 1 hnWZ rfl
 have q1:WZ.frozen? ⟨W4.heap.size,1,none⟩=false:=fW0 _ _ _ _ _ hnWZ
 have k0:=cW1 0 hnWZ rfl
 have q0:WZ.frozen? ⟨W4.heap.size,0,none⟩=false:=fW0 _ _ _ _ _ hnWZ
 obtain ⟨W5,hW5⟩:=eN0 ((((((((((WZ.setCell ⟨W4.heap.size,0,none⟩ (.int .i64 7)).setCell ⟨W4.heap.size,1,none⟩ (.int .i64 0)).setCell ⟨W4.heap.size,2,none⟩ (.slice (some ⟨W3.heap.size,0,none⟩) 2 2)).setCell ⟨W4.heap.size,3,none⟩ (.int .i64 0)).setCell ⟨W4.heap.size,4,none⟩ (.int .i64 5)).setCell ⟨W4.heap.size,5,none⟩ (.int .i64 10)).setCell ⟨W4.heap.size,6,none⟩ (.int .i64 1099511627776)).setCell ⟨W4.heap.size,7,none⟩ (.int .i64 2)).setCell ⟨W4.heap.size,8,none⟩ (.int .i64 0)):World)
 have hnW5:W5.heap[W4.heap.size]? =some (.cells #[.int .i64 7,.int .i64 0,.slice (some ⟨W3.heap.size,0,none⟩) 2 2,.int .i64 0,.int .i64 5,.int .i64 10,.int .i64 1099511627776,.int .i64 2,.int .i64 0] 56 (0,0)):=by rw [hW5];exact dset9 hnWZ (.int .i64 7) (.int .i64 0) (.slice (some ⟨W3.heap.size,0,none⟩) 2 2) (.int .i64 0) (.int .i64 5) (.int .i64 10) (.int .i64 1099511627776) (.int .i64 2) (.int .i64 0)
 have hbW5:Bl W4 W5:=by rw [hW5];exact hbWZ.trans ((dchg9 WZ W4.heap.size (.int .i64 7) (.int .i64 0) (.slice (some ⟨W3.heap.size,0,none⟩) 2 2) (.int .i64 0) (.int .i64 5) (.int .i64 10) (.int .i64 1099511627776) (.int .i64 2) (.int .i64 0)).below (B:=W4.heap.size) hbWZ.size (fun i (hi:i=W4.heap.size)=>by omega))
 have eW5:(((((((((WZ.setCell ⟨W4.heap.size,0,none⟩ (.int .i64 7)).setCell ⟨W4.heap.size,1,none⟩ (.int .i64 0)).setCell ⟨W4.heap.size,2,none⟩ (.slice (some ⟨W3.heap.size,0,none⟩) 2 2)).setCell ⟨W4.heap.size,3,none⟩ (.int .i64 0)).setCell ⟨W4.heap.size,4,none⟩ (.int .i64 5)).setCell ⟨W4.heap.size,5,none⟩ (.int .i64 10)).setCell ⟨W4.heap.size,6,none⟩ (.int .i64 1099511627776)).setCell ⟨W4.heap.size,7,none⟩ (.int .i64 2)).setCell ⟨W4.heap.size,8,none⟩ (.int .i64 0))=W5:=by rw [hW5]
 clear hW5
 obtain ⟨W6,hW6⟩:=eN0 (W5.alloc (.cells #[.int .i64 7,.int .i64 0,.slice (some ⟨W3.heap.size,0,none⟩) 2 2,.int .i64 0,.int .i64 5,.int .i64 10,.int .i64 1099511627776,.int .i64 2,.int .i64 0] 56))
 have hbW6:=bN0 hW6
 have hnW6:=hN0 hW6
 have eW6:W5.alloc (.cells #[.int .i64 7,.int .i64 0,.slice (some ⟨W3.heap.size,0,none⟩) 2 2,.int .i64 0,.int .i64 5,.int .i64 10,.int .i64 1099511627776,.int .i64 2,.int .i64 0] 56)=W6:=by rw [hW6]
 clear hW6
 have HB4:Hid (Bl w W4):=hI0 ((bU0 HB2 hbW3).trans (hbW4.mono (Nat.le_trans HB2.out.size hbW3.size)))
 have HB5:=bT0 HB4 hbW5
 have HB6:=bT0 HB5 hbW6
 have HK3:=hI0 (keepRow hbW6 (keepRow hbW5 (keepRow hbW4 hnW3)))
 have c8:=cW1 8 hnW5 rfl
 have c7:=cW1 7 hnW5 rfl
 have c6:=cW1 6 hnW5 rfl
 have c5:=cW1 5 hnW5 rfl
 have c4:=cW1 4 hnW5 rfl
 have c3:=cW1 3 hnW5 rfl
 have c2:=cW1 2 hnW5 rfl
 have c1:=cW1 1 hnW5 rfl
 have c0:=cW1 0 hnW5 rfl
 have hrow:Rd W6 (ltw W6) 3 (.slice (some ⟨W3.heap.size,0,none⟩) 2 2) 2 [.int .i64 1,.int .i64 1,.string ⟨#[]⟩,.int .i64 2,.int .i64 0,.string ⟨#[105,116,39,115]⟩]:=by
  refine ⟨rfl,_,2,rfl,Nat.le_refl _,by simp only [maxLen];omega,fun h=>(Option.some_ne_none _ h).elim,fun _=>⟨_,rfl,?_,fun j u hu=>?_⟩⟩
  ·show W3.heap.size<W6.heap.size
   have h1:=(Array.getElem?_eq_some_iff.1 hnW4).1
   have h2:=hbW5.size
   have h3:=hbW6.size
   omega
  ·have hadd:(⟨W3.heap.size,0,none⟩:Addr).add j=⟨W3.heap.size,j,none⟩:=by unfold Addr.add;split<;>simp_all
   rw [hadd,cW0 W6 W3.heap.size j _ _ (0,0) (keepRow hbW6 (keepRow hbW5 hnW4))]
   simpa using hu
 have hver:Rd W6 (ltw W6) 9 (.slice (some ⟨W5.heap.size,0,none⟩) 1 1) 1 [.int .i64 7,.int .i64 0,.slice (some ⟨W3.heap.size,0,none⟩) 2 2,.int .i64 0,.int .i64 5,.int .i64 10,.int .i64 1099511627776,.int .i64 2,.int .i64 0]:=by
  refine ⟨rfl,_,1,rfl,Nat.le_refl _,by simp only [maxLen];omega,fun h=>(Option.some_ne_none _ h).elim,fun _=>⟨_,rfl,?_,fun j u hu=>?_⟩⟩
  ·exact (Array.getElem?_eq_some_iff.1 hnW6).1
  ·have hadd:(⟨W5.heap.size,0,none⟩:Addr).add j=⟨W5.heap.size,j,none⟩:=by unfold Addr.add;split<;>simp_all
   rw [hadd,cW0 W6 W5.heap.size j _ _ (0,0) hnW6]
   simpa using hu
 have his:(tvQ (some ⟨W3.heap.size,0,none⟩) (some ⟨W5.heap.size,0,none⟩)).is W6 (ltw W6):=by
  refine ⟨hver,fun p hp=>?_⟩
  obtain rfl:=List.mem_singleton.1 hp
  refine ⟨rfl,rfl,rfl,rfl,rfl,rfl,rfl,rfl,hrow,fun v hv=>?_⟩
  simp only [verQ,rowQ,List.mem_cons,List.not_mem_nil,or_false] at hv
  rcases hv with rfl|rfl<;>exact ⟨by decide,by decide,by decide⟩
 have KD:Hid (Calls prog 13 #[.agg #[.string ⟨#[116]⟩,.slice (some ⟨W5.heap.size,0,none⟩) 1 1]] W6 fun e w'=>e=.returned (.tuple #[.string (strB tTab),.int .i64 0])∧Bl W6 w'):=hI0 (by
  have k:=dtable_any _ W6 (HE.out.below HB6.out) his (Nat.le_of_ble_eq_true rfl)
  unfold DtOut at k
  rw [dtQ,tabQ] at k
  exact k)
 clear hrow hver his hbW2 hnW2 hbWZ hnWZ hbW3 hnW3 hbW4 hnW4 hbW5 hnW5 hbW6 hnW6
 go_wp2_with fail
 clear c0 c1 c2 c3 c4 c5 c6 c7 c8 g0 g1 g2 g3 g4 g5 g6 g7 g8 g9 f0 f1 f2 f3 f4 f5 f6 f7 f8 f9 k0 k1 k2 k3 k4 k5 k6 k7 k8 q0 q1 q2 q3 q4 q5 q6 q7 q8
 (with_reducible refine KD.out.mono ?_)
 rintro _ w7 ⟨rfl,hb7⟩
 have HB7:=bT0 HB6 hb7
 have k3:=keepRow hb7 HK3.out
 have c3:=cW1 3 k3 rfl
 clear k3 hb7 KD
 generalize strB tTab=S7 at *
 go_wp2_with fail
 go_ret
 exact ⟨rfl,HB7.out⟩
end Go.Proofs.YtgfhknnklapldaaGreatDoor
namespace Go.Proofs.YtgfhknnklapldaaGreatDoor
open Go.Proofs.Tryz
set_option maxRecDepth 99999
set_option maxHeartbeats 0
open Go.RowKit Go.Lib Go.IntWalk Go.Sort Go.Shelf
def VsOut (n:Nat) (w0:World) (e:Ending) (w:World):Prop:=(∃q:Bool,e=.returned (.bool q)∧(q=true→n≤60))∧Bl w0 w
theorem versions_any (A:Option Addr) (c:Nat) (ps:List VP) (w:World) (hv:RdVs w (ltw w) (.slice A ps.length c) ps):
  Calls prog 12 #[.slice A ps.length c] w (VsOut ps.length w):=by
 obtain ⟨A0,C0,hAc,z1,z2,_⟩:=hv.1.open_
 simp only [Value.slice.injEq] at hAc
 obtain ⟨rfl,-,rfl⟩:=hAc
 unfold maxLen at z2
 have HV:=hI0 hv
 clear hv
 go_in
 go_wp2_with fail
 go_loopw [3] (fun i wr=>∃k:Nat,i=.int .i64 (k:Int)∧k≤ps.length∧Hid (Bl w wr)) (fun i _=>ps.length-(intOf i).toNat)
 case atStart=>exact ⟨0,rfl,Nat.zero_le _,hI0 (Below.refl _ _)⟩
 obtain ⟨k,rfl,hk,HB⟩:=hrel
 obtain ⟨wi,rfl⟩:=eN0 wr
 by_cases hlt:k<ps.length
 case neg=>
  have hke:k=ps.length:=by omega
  by_cases h60:ps.length≤60
  case pos=>
   have q1:(ps.length:Int)≤60:=by omega
   have HL:=hI0 h60
   clear hke
   go_wp2_with fail
   go_ret
   exact ⟨⟨_,rfl,fun _=>HL.out⟩,HB.out⟩
  have q1:¬(ps.length:Int)≤60:=by omega
  have q2:¬ps.length≤60:=h60
  clear hke
  go_wp2_with fail
  go_ret
  exact ⟨⟨_,rfl,fun h=>absurd h (by decide)⟩,HB.out⟩
 by_cases h60:k<60
 case neg=>
  have q2:¬(k:Int)<60:=by omega
  by_cases h61:ps.length≤60
  case pos=>omega
  have q1:¬(ps.length:Int)≤60:=by omega
  go_wp2_with fail
  go_ret
  exact ⟨⟨_,rfl,fun h=>absurd h (by decide)⟩,HB.out⟩
 have q2:(k:Int)<60:=by omega
 obtain ⟨b2,off,rfl,hF,hcl,hx⟩:=RdVs.at_ (HV.out.below HB.out) hlt
 generalize ps[k]=p at *
 obtain ⟨⟨x1,x2,xA,xn,xc,x3,x4,x5,x6,x7,x8⟩,x⟩:=p
 simp only at hcl hx
 have g2:wi.cell? ⟨b2,off+k*9+2,none⟩=some (.slice xA xn xc):=hcl 2 _ (by decide) rfl
 clear hcl hx
 by_cases h20:xn≤20
 case pos=>
  have q3:¬(20:Int)<(xn:Int):=by omega
  have q4:¬ 20<xn:=by omega
  go_wp2_with fail
  go_roundw
  case rel=>exact ⟨k+1,by go_num,by omega,HB⟩
  case measure=>simp [intOf];omega
 have q3:(20:Int)<(xn:Int):=by omega
 have q4:20<xn:=by omega
 go_wp2_with fail
 go_ret
 exact ⟨⟨_,rfl,fun h=>absurd h (by decide)⟩,HB.out⟩
end Go.Proofs.YtgfhknnklapldaaGreatDoor
namespace Go.Proofs.YtgfhknnklapldaaGreatDoor
open Go.Proofs.Tryz
set_option maxRecDepth 99999
set_option maxHeartbeats 0
open Go.RowKit Go.Lib Go.IntWalk Go.Sort Go.Shelf
def BetNY (b:Int) (w:World) (e:Ending) (w':World):Prop:=∃n:Int,e=.returned (.int .i64 n)∧1≤n∧n≤b∧Bl w w'
def BoOY (w:World) (e:Ending) (w':World):Prop:=∃b:Bool,e=.returned (.bool b)∧Bl w w'
theorem exBelowY {w w':World} {e:RE} (h:exAll w (ltw w) e) (hb:Bl w w'):exAll w' (ltw w') e:=fun d=>exIs_below hb d e (h d)
theorem exArgsY {w:World} {F:Nat→Prop} {op it:Int} {v:Val} {nm:ByteArray} {A:Option Addr} {c:Nat} {args:List RE} (h:exAll w F (.mk op it v nm A c args)):RdE 7 RE.enc w F (.slice A args.length c) args∧∀a∈args,exAll w F a:=
 ⟨(h 1).1,fun a ha d=>(h (d+1)).2.2.2 a ha⟩
theorem lsize_anyY:∀(most:Nat) (e:RE) (mi:Int) (w:World),mi=most→most≤40→exAll w (ltw w) e→Calls prog 45 #[.agg e.enc.toArray,.int .i64 mi] w (BetNY (1000+300*most) w):=by
 intro most
 induction most with
 |zero=>
  intro e mi w hmi _ _
  obtain ⟨op,it,⟨vk,vi,vs⟩,nm,A,c,args⟩:=e
  obtain rfl:mi=0:=hmi
  show Calls prog 45 #[.agg #[.int .i64 op,.int .i64 it,.int .i64 vk,.int .i64 vi,.string vs,.string nm,.slice A args.length c],.int .i64 0] w _
  go_in
  go_wp2_with fail
  go_ret
  exact ⟨1000,rfl,by omega,by omega,Below.of_alloc _⟩
 |succ most ih=>
  intro e mi w hmi h40 he
  obtain ⟨op,it,⟨vk,vi,vs⟩,nm,A,c,args⟩:=e
  have HAL:=hI0 (exArgsY he)
  have IH:=hI0 ih
  obtain ⟨n1,n2⟩:=RdE.bd HAL.out.1
  show Calls prog 45 #[.agg #[.int .i64 op,.int .i64 it,.int .i64 vk,.int .i64 vi,.string vs,.string nm,.slice A args.length c],.int .i64 mi] w _
  have hm0:(mi==0)=false:=by rw [beq_eq_false_iff_ne];omega
  have hm1:mi-1≤9223372036854775807:=by omega
  have hm2: -9223372036854775808≤mi-1:=by omega
  have HMI:=hI0 hmi
  have H40:=hI0 h40
  have HX0:Hid ((w.alloc (.cells #[.int .i64 op,.int .i64 it,.int .i64 vk,.int .i64 vi,.string vs,.string nm,.slice A args.length c] 117)).heap[w.heap.size]? =some (.cells #[.int .i64 op,.int .i64 it,.int .i64 vk,.int .i64 vi,.string vs,.string nm,.slice A args.length c] 117 (0,0))):=hI0 (heap_alloc_new w _)
  have HB0:Hid (Bl w (w.alloc (.cells #[.int .i64 op,.int .i64 it,.int .i64 vk,.int .i64 vi,.string vs,.string nm,.slice A args.length c] 117))):=hI0 (Below.of_alloc _)
  clear ih he hmi h40
  go_in
  go_wp2_with fail
  go_loopw [5,6] (fun n i wr=>∃(m:Int) (k:Nat),n=.int .i64 m∧i=.int .i64 (k:Int)∧k≤args.length∧(1≤m∧m≤1000+300*((most:Int)+1))∧Hid (Bl w wr)∧Hid (wr.heap[w.heap.size]? =some (.cells #[.int .i64 op,.int .i64 it,.int .i64 vk,.int .i64 vi,.string vs,.string nm,.slice A args.length c] 117 (0,0)))) (fun _ i _=>args.length-(intOf i).toNat)
  case atStart=>exact ⟨1,0,rfl,rfl,Nat.zero_le _,by omega,HB0,HX0⟩
  obtain ⟨m,k,rfl,rfl,hk,⟨hm3,hm4⟩,HW,HX⟩:=hrel
  obtain ⟨wi,rfl⟩:=eN0 wr
  have h40:=H40.out
  have c6:=cW1 6 HX.out rfl
  by_cases hlt:k<args.length
  case neg=>
   have hn:¬(k:Int)<(args.length:Int):=by omega
   go_wp2_with fail
   go_ret
   exact ⟨m,rfl,by omega,by push_cast;omega,HW.out⟩
  have hlt2:(k:Int)<(args.length:Int):=by omega
  by_cases h300:m≤300
  case neg=>
   go_wp2_with fail
   go_ret
   exact ⟨m,rfl,by omega,by push_cast;omega,HW.out⟩
  obtain ⟨b2,off,hA,hF,hc⟩:=RdE.at_ (K:=7) (enc:=RE.enc) RE.enc_length (by omega) (HAL.out.1.keep (Keeps.below HW.out)) hlt
  have hq:=hc k hlt
  have hmem:=List.getElem_mem hlt
  clear hc
  subst hA
  generalize args[k]=x at *
  have KX:=IH.out x (mi-1) wi (by have:=HMI.out;omega) (by omega) (exBelowY (HAL.out.2 _ hmem) HW.out)
  obtain ⟨op2,it2,⟨vk2,vi2,vs2⟩,nm2,A2,c2,args2⟩:=x
  obtain ⟨g0,g1,g2,g3,g4,g5,g6⟩:=cK7 hq (show _=[.int .i64 op2,.int .i64 it2,.int .i64 vk2,.int .i64 vi2,.string vs2,.string nm2,.slice A2 args2.length c2] from rfl)
  clear hq hmem
  have KX2:Hid (Calls prog 45 #[.agg #[.int .i64 op2,.int .i64 it2,.int .i64 vk2,.int .i64 vi2,.string vs2,.string nm2,.slice A2 args2.length c2],.int .i64 (mi-1)] wi (BetNY (1000+300*most) wi)):=hI0 KX
  clear KX
  go_wp2_with fail
  clear g0 g1 g2 g3 g4 g5 g6 c6
  (with_reducible refine KX2.out.mono ?_)
  rintro _ w2 ⟨r,rfl,hr1,hr2,hb2⟩
  have HX2:=hI0 (keepRow hb2 HX.out)
  have HW2:=bT0 HW hb2
  have hov:m+r≤9223372036854775807:=by omega
  have hov2: -9223372036854775808≤m+r:=by omega
  clear hb2 KX2
  go_wp2_with fail
  go_roundw
  case rel=>exact ⟨_,k+1,rfl,by go_num,by omega,by omega,HW2,HX2⟩
  case measure=>simp [intOf];omega
theorem lentries_anyY (v:Value) (l:List REn) (w:World) (hv:RdE 16 REn.enc w (ltw w) v l) (hi:∀x∈l,x.create.is w (ltw w)) (hx:∀x∈l,∀e∈x.create.chks,exAll w (ltw w) e):Calls prog 19 #[v] w (BoOY w):=by
 obtain ⟨A,c,rfl,hc1,hc2,hc3⟩:=Rd.open_ (show Rd w _ 16 v l.length (l.flatMap REn.enc) from hv)
 unfold maxLen at hc2
 have HV:=hI0 hv
 have HI:=hI0 hi
 have HXX:=hI0 hx
 clear hv hi hx hc3
 go_in
 go_wp2_with fail
 go_loopw [3] (fun i wr=>∃k:Nat,i=.int .i64 (k:Int)∧k≤l.length∧Hid (Bl w wr)) (fun i _=>l.length-(intOf i).toNat)
 case atStart=>exact ⟨0,rfl,Nat.zero_le _,hI0 (Below.refl _ _)⟩
 obtain ⟨k,rfl,hk,HW⟩:=hrel
 obtain ⟨wi,rfl⟩:=eN0 wr
 by_cases hlt:k<l.length
 case neg=>
  have hlt2:¬(k:Int)<(l.length:Int):=by omega
  go_wp2_with fail
  go_ret
  exact ⟨_,rfl,HW.out⟩
 have hlt2:(k:Int)<(l.length:Int):=by omega
 by_cases h20:k<20
 case neg=>
  have h21:¬(k:Int)<20:=by omega
  go_wp2_with fail
  go_ret
  exact ⟨_,rfl,HW.out⟩
 have h21:(k:Int)<20:=by omega
 obtain ⟨b2,off,hA,hF,hc⟩:=RdE.at_ (K:=16) (enc:=REn.enc) (fun _=>rfl) (by omega) (HV.out.keep (Keeps.below HW.out)) hlt
 have hq:=hc k hlt
 have hmem:=List.getElem_mem hlt
 have hti:=HI.out _ hmem
 have htx:=HXX.out _ hmem
 clear hc hmem
 subst hA
 generalize l[k]=x at *
 obtain ⟨tm,tb,⟨tn,tcA,tcC,tcols,tkA,tkC,tkey,tfA,tfC,tfors,thA,thC,tchks⟩,⟨ck,cn,cto,cc,cq,cb,⟨dk,di,ds⟩⟩⟩:=x
 simp only at hti htx
 have HCK:Hid (RdE 7 RE.enc w (ltw w) (.slice thA tchks.length thC) tchks):=hI0 hti.chks
 have HCX:=hI0 htx
 obtain ⟨a1,a2⟩:=RdE.bd hti.cols
 obtain ⟨b1,b2'⟩:=RdE.bd hti.key
 obtain ⟨d1,d2⟩:=RdE.bd hti.fors
 obtain ⟨f1,f2⟩:=RdE.bd hti.chks
 simp only at a1 a2 b1 b2' d1 d2 f1 f2
 have g0:wi.cell? ⟨b2,off+k*16+2,none⟩=some (.string tn):=by have:=hq 2 (.string tn) (by decide) rfl;simpa [Nat.add_assoc] using this
 have g1:wi.cell? ⟨b2,off+k*16+2+1,none⟩=some (.slice tcA tcols.length tcC):=by have:=hq 3 (.slice tcA tcols.length tcC) (by decide) rfl;simpa [Nat.add_assoc] using this
 have g2:wi.cell? ⟨b2,off+k*16+2+2,none⟩=some (.slice tkA tkey.length tkC):=by have:=hq 4 (.slice tkA tkey.length tkC) (by decide) rfl;simpa [Nat.add_assoc] using this
 have g3:wi.cell? ⟨b2,off+k*16+2+3,none⟩=some (.slice tfA tfors.length tfC):=by have:=hq 5 (.slice tfA tfors.length tfC) (by decide) rfl;simpa [Nat.add_assoc] using this
 have g4:wi.cell? ⟨b2,off+k*16+2+4,none⟩=some (.slice thA tchks.length thC):=by have:=hq 6 (.slice thA tchks.length thC) (by decide) rfl;simpa [Nat.add_assoc] using this
 clear hq hti htx
 obtain ⟨W1,hW1⟩:=eN0 (wi.alloc (.cells #[.string tn,.slice tcA tcols.length tcC,.slice tkA tkey.length tkC,.slice tfA tfors.length tfC,.slice thA tchks.length thC] 73))
 have hbW1:=bN0 hW1
 have hnW1:=hN0 hW1
 have eW1:wi.alloc (.cells #[.string tn,.slice tcA tcols.length tcC,.slice tkA tkey.length tkC,.slice tfA tfors.length tfC,.slice thA tchks.length thC] 73)=W1:=by rw [hW1]
 clear hW1
 have HX1:=hI0 hnW1
 have HW1:=bT0 HW hbW1
 have t1:=cW1 1 hnW1 rfl
 have t2:=cW1 2 hnW1 rfl
 have t3:=cW1 3 hnW1 rfl
 have t4:=cW1 4 hnW1 rfl
 clear hbW1 hnW1
 by_cases u0:(20:Int)<(tcols.length:Int)
 case pos=>
  have v0:20<tcols.length:=by omega
  go_wp2_with fail
  go_ret
  exact ⟨_,rfl,HW1.out⟩
 have v0:¬ 20<tcols.length:=by omega
 by_cases u1:(20:Int)<(tkey.length:Int)
 case pos=>
  have v1:20<tkey.length:=by omega
  go_wp2_with fail
  go_ret
  exact ⟨_,rfl,HW1.out⟩
 have v1:¬ 20<tkey.length:=by omega
 by_cases u2:(10:Int)<(tfors.length:Int)
 case pos=>
  have v2:10<tfors.length:=by omega
  go_wp2_with fail
  go_ret
  exact ⟨_,rfl,HW1.out⟩
 have v2:¬ 10<tfors.length:=by omega
 by_cases u3:(10:Int)<(tchks.length:Int)
 case pos=>
  have v3:10<tchks.length:=by omega
  go_wp2_with fail
  go_ret
  exact ⟨_,rfl,HW1.out⟩
 have v3:¬ 10<tchks.length:=by omega
 go_wp2_with fail
 clear t1 t2 t3 t4 u0 u1 u2 u3 v0 v1 v2 v3 eW1 g0 g1 g2 g3 g4
 have HLK:=hI0 hlt
 have HKK:=hI0 hk
 go_loopw [47] (fun i wr=>∃j:Nat,i=.int .i64 (j:Int)∧j≤tchks.length∧Hid (Bl w wr)) (fun i _=>tchks.length-(intOf i).toNat)
 case atStart=>exact ⟨0,rfl,Nat.zero_le _,HW1⟩
 clear hlt hk
 obtain ⟨j,rfl,hj,HBj⟩:=hrel
 obtain ⟨wj,rfl⟩:=eN0 wr
 by_cases hlt:j<tchks.length
 case neg=>
  have hlt2:¬(j:Int)<(tchks.length:Int):=by omega
  have hkl:=HLK.out
  have hkl2:(k:Int)+1≤9223372036854775807:=by omega
  go_wp2_with fail
  go_roundw
  case rel=>exact ⟨k+1,by go_num,by have:=HLK.out;omega,HBj⟩
  case measure=>have:=HLK.out;simp [intOf];omega
 have hlt2:(j:Int)<(tchks.length:Int):=by omega
 obtain ⟨b3,off3,hA,hF,hc⟩:=RdE.at_ (K:=7) (enc:=RE.enc) RE.enc_length (by omega) (HCK.out.keep (Keeps.below HBj.out)) hlt
 have hq:=hc j hlt
 have hmem:=List.getElem_mem hlt
 clear hc
 subst hA
 generalize tchks[j]=x at *
 have KX:=fun (V:World) (hV:Bl w V)=>lsize_anyY 40 x 40 V rfl (by omega) (exBelowY (HCX.out _ hmem) hV)
 obtain ⟨op2,it2,⟨vk2,vi2,vs2⟩,nm2,A2,c2,args2⟩:=x
 obtain ⟨g0,g1,g2,g3,g4,g5,g6⟩:=cK7 hq (show _=[.int .i64 op2,.int .i64 it2,.int .i64 vk2,.int .i64 vi2,.string vs2,.string nm2,.slice A2 args2.length c2] from rfl)
 clear hq hmem
 obtain ⟨W3,hW3⟩:=eN0 (wj.alloc (.cells #[.int .i64 op2,.int .i64 it2,.int .i64 vk2,.int .i64 vi2,.string vs2,.string nm2,.slice A2 args2.length c2] 117))
 have hbW3:=bN0 hW3
 have hnW3:=hN0 hW3
 have eW3:wj.alloc (.cells #[.int .i64 op2,.int .i64 it2,.int .i64 vk2,.int .i64 vi2,.string vs2,.string nm2,.slice A2 args2.length c2] 117)=W3:=by rw [hW3]
 clear hW3
 have HW3:=bT0 HBj hbW3
 have HX3:=hI0 hnW3
 have KX2:Hid (Calls prog 45 #[.agg #[.int .i64 op2,.int .i64 it2,.int .i64 vk2,.int .i64 vi2,.string vs2,.string nm2,.slice A2 args2.length c2],.int .i64 40] W3 (BetNY (1000+300*((40:Nat):Int)) W3)):=hI0 (KX W3 HW3.out)
 obtain ⟨q0,q1,q2,q3,q4,q5,q6⟩:=cX7 hnW3
 clear hbW3 hnW3 KX
 go_wp2_with fail
 clear eW3 g0 g1 g2 g3 g4 g5 g6 q0 q1 q2 q3 q4 q5 q6
 (with_reducible refine KX2.out.mono ?_)
 rintro _ w4 ⟨r,rfl,hr1,hr2,hb4⟩
 have HB4:=bT0 HW3 hb4
 clear hb4 KX2 hr1 hr2
 by_cases hr:300<r
 case pos=>
  go_wp2_with fail
  go_ret
  exact ⟨_,rfl,HB4.out⟩
 go_wp2_with fail
 go_roundw
 case rel=>exact ⟨j+1,by go_num,hlt,HB4⟩
 case measure=>simp [intOf];omega
theorem lsmall_anyY (c:RSt) (w:World) (hc:c.is w (ltw w)) (hlm:c.lim w):Calls prog 8 #[.agg c.enc.toArray] w (BoOY w):=by
 have HE:Hid (∀W,Bl w W→Calls prog 19 #[.slice c.eA c.ents.length c.eC] W (BoOY W)):=hI0 fun W hW=>lentries_anyY _ c.ents W (hc.ents.below hW) (fun x hx=>((hc.entI x hx).below hW).create) (fun x hx e he=>exBelowY (hlm.exps x hx e he).1 hW)
 have HT:=hI0 hc.tabs
 have HTI:=hI0 hc.tabI
 have n1:=hlm.ents
 have n2:=hlm.stms
 have n3:=hlm.tabs
 have n4:=hlm.pla
 have n5:=hlm.pol
 have n6:=hlm.hor
 clear hc hlm
 obtain ⟨ctx,ctm,cwl,cnx,ceA,ceC,cents,csA,csC,cstms,ctA,ctC,ctabs,cpA,cpC,cpla,cqA,cqC,cpol,chA,chC,chor⟩:=c
 simp only at HE HT HTI n1 n2 n3 n4 n5 n6
 show Calls prog 8 #[.agg #[.int .i64 ctx,.int .i64 ctm,.int .i64 cwl,.int .i64 cnx,.slice ceA cents.length ceC,.slice csA cstms.length csC,.slice ctA ctabs.length ctC,.slice cpA cpla.length cpC,.slice cqA cpol.length cqC,.slice chA chor.length chC]] w _
 obtain ⟨W,hW⟩:=eN0 (w.alloc (.cells #[.int .i64 ctx,.int .i64 ctm,.int .i64 cwl,.int .i64 cnx,.slice ceA cents.length ceC,.slice csA cstms.length csC,.slice ctA ctabs.length ctC,.slice cpA cpla.length cpC,.slice cqA cpol.length cqC,.slice chA chor.length chC] 29))
 have hbW:=bN0 hW
 have hnW:=hN0 hW
 have eW:w.alloc (.cells #[.int .i64 ctx,.int .i64 ctm,.int .i64 cwl,.int .i64 cnx,.slice ceA cents.length ceC,.slice csA cstms.length csC,.slice ctA ctabs.length ctC,.slice cpA cpla.length cpC,.slice cqA cpol.length cqC,.slice chA chor.length chC] 29)=W:=by rw [hW]
 clear hW
 have HB0:=hI0 hbW
 have HX0:=hI0 hnW
 have c5:=cW1 5 hnW rfl
 have c6:=cW1 6 hnW rfl
 have c7:=cW1 7 hnW rfl
 have c8:=cW1 8 hnW rfl
 have c9:=cW1 9 hnW rfl
 have i1:(cstms.length:Int)+(ctabs.length:Int)≤9223372036854775807:=by omega
 have i2:(cstms.length:Int)+(ctabs.length:Int)+(cpla.length:Int)≤9223372036854775807:=by omega
 have i3:(cstms.length:Int)+(ctabs.length:Int)+(cpla.length:Int)+(cpol.length:Int)≤9223372036854775807:=by omega
 have i4:(cstms.length:Int)+(ctabs.length:Int)+(cpla.length:Int)+(cpol.length:Int)+(chor.length:Int)≤9223372036854775807:=by omega
 clear hbW hnW
 go_in
 go_wp2_with fail
 clear eW i1 i2 i3 i4 c5 c6 c7 c8 c9
 generalize (cstms.length:Int)+(ctabs.length:Int)+(cpla.length:Int)+(cpol.length:Int)+(chor.length:Int)=nn at *
 go_loopw [4] (fun i wr=>∃k:Nat,i=.int .i64 (k:Int)∧k≤ctabs.length∧Hid (Bl w wr)∧Hid (wr.heap[w.heap.size]? =some (.cells #[.int .i64 ctx,.int .i64 ctm,.int .i64 cwl,.int .i64 cnx,.slice ceA cents.length ceC,.slice csA cstms.length csC,.slice ctA ctabs.length ctC,.slice cpA cpla.length cpC,.slice cqA cpol.length cqC,.slice chA chor.length chC] 29 (0,0)))) (fun i _=>ctabs.length-(intOf i).toNat)
 case atStart=>exact ⟨0,rfl,Nat.zero_le _,HB0,HX0⟩
 obtain ⟨k,rfl,hk,HW,HX⟩:=hrel
 obtain ⟨wi,rfl⟩:=eN0 wr
 have c6:=cW1 6 HX.out rfl
 have c4:=cW1 4 HX.out rfl
 have KE:=hI0 (HE.out wi HW.out)
 by_cases h100:nn≤100
 case neg=>
  by_cases hlt:k<ctabs.length
  case neg=>
   have hlt2:¬(k:Int)<(ctabs.length:Int):=by omega
   go_wp2_with fail
   go_ret
   exact ⟨_,rfl,HW.out⟩
  have hlt2:(k:Int)<(ctabs.length:Int):=by omega
  go_wp2_with fail
  go_ret
  exact ⟨_,rfl,HW.out⟩
 by_cases hlt:k<ctabs.length
 case neg=>
  have hlt2:¬(k:Int)<(ctabs.length:Int):=by omega
  go_wp2_with fail
  clear c4 c6
  (with_reducible refine KE.out.mono ?_)
  rintro _ w2 ⟨r,rfl,hb2⟩
  have HB2:=bT0 HW hb2
  clear hb2 KE
  go_wp2_with fail
  go_ret
  exact ⟨_,rfl,HB2.out⟩
 have hlt2:(k:Int)<(ctabs.length:Int):=by omega
 clear KE c4
 obtain ⟨b2,off,hA,hF,hc⟩:=RdE.at_ (K:=2) (enc:=RTv.enc) (fun _=>rfl) (by omega) (HT.out.keep (Keeps.below HW.out)) hlt
 have hq:=hc k hlt
 have hti:=(HTI.out _ (List.getElem_mem hlt)).below HW.out
 clear hc
 subst hA
 generalize ctabs[k]=x at *
 obtain ⟨xn,xA,xC,xvs⟩:=x
 have g1:wi.cell? ⟨b2,off+k*2+1,none⟩=some (.slice xA xvs.length xC):=hq 1 _ (by decide) rfl
 have KV:=hI0 (versions_any xA xC xvs wi hti)
 clear hq hti
 go_wp2_with fail
 clear g1 c6
 (with_reducible refine KV.out.mono ?_)
 rintro _ w2 ⟨⟨q,rfl,-⟩,hb2⟩
 have HB2:=bT0 HW hb2
 have HX2:=hI0 (keepRow hb2 HX.out)
 clear hb2 KV
 cases q
 case false=>
  go_wp2_with fail
  go_ret
  exact ⟨_,rfl,HB2.out⟩
 go_wp2_with fail
 go_roundw
 case rel=>exact ⟨k+1,by go_num,by omega,HB2,HX2⟩
 case measure=>simp [intOf];omega
end Go.Proofs.YtgfhknnklapldaaGreatDoor
namespace Go.Proofs.YtgfhknnklapldaaGreatDoor
open Go.Proofs.Tryz
set_option maxRecDepth 99999
set_option maxHeartbeats 0
open Go.RowKit Go.Lib Go.IntWalk Go.Sort Go.Shelf
theorem er_erD (c:RSt):c.er.er=c.er:=by
 have e1:(c.ents.map REn.er).map REn.er=c.ents.map REn.er:=by
  rw [List.map_map]
  refine List.map_congr_left fun x _=>?_
  show REn.er (REn.er x)=REn.er x
  have h1:(x.create.fors.map RFor.er).map RFor.er=x.create.fors.map RFor.er:=by rw [List.map_map];rfl
  have h2:(x.create.chks.map RE.er).map RE.er=x.create.chks.map RE.er:=by
   rw [List.map_map]
   exact List.map_congr_left fun y _=>RE.er_er y
  simp only [REn.er,RTab.er,h1,h2]
 have e2:(c.tabs.map RTv.er).map RTv.er=c.tabs.map RTv.er:=by
  rw [List.map_map]
  refine List.map_congr_left fun x _=>?_
  show RTv.er (RTv.er x)=RTv.er x
  have h1:(x.vers.map verEr).map verEr=x.vers.map verEr:=by rw [List.map_map];rfl
  simp only [RTv.er,h1]
 simp only [RSt.er,e1,e2]
theorem pRun_zero:∀(f:Nat) (t:List UInt8) (n a:Nat) (c:RSt),(pRun f t n a c).2.2=0→(pRun f t n a c).2.1=0:=by
 intro f
 induction f with
 |zero=>
  intro t n a c h
  unfold pRun at h
  exact absurd h (show ¬(2:Int)=0 by decide)
 |succ f ih=>
  intro t n a c h
  by_cases h8:a=8
  ·unfold pRun at h ⊢
   rw [if_pos h8] at h ⊢
   split at h
   ·rename_i ht
    rw [if_pos ht]
   ·exact absurd h (show ¬(3:Int)=0 by decide)
  ·rcases hc:cutL t with _|⟨l,r⟩
   ·rw [pRun_none h8 hc] at h
    exact absurd h (show ¬(2:Int)=0 by decide)
   ·rw [pRun_step h8 hc] at h ⊢
    rcases hs:stepL n l a c with _|p
    ·rw [hs] at h
     exact absurd h (show ¬(1:Int)=0 by decide)
    ·rw [hs] at h
     exact ih _ _ _ _ h
theorem pAll_lit {t:List UInt8} (h:(pAll t).2.2=0):pAll t=((pAll t).1,0,0):=by
 have h1:(pAll t).2.1=0:=pRun_zero _ _ _ _ _ h
 rw [←h1,←h]
theorem ParQ.two {t:List UInt8} {w0:World} {e:Ending} {w:World} (h:ParQ t w0 e w):Bl w0 w∧((∃(n:Int) (r:Int),r≠0∧e=.returned (.tuple #[.agg cZ0,.int .i64 n,.int .i64 r]))∨(∃c:RSt,e=.returned (.tuple #[.agg #[.int .i64 c.tx,.int .i64 c.time,.int .i64 c.wall,.int .i64 c.next,.slice c.eA c.ents.length c.eC,.slice c.sA c.stms.length c.sC,.slice c.tA c.tabs.length c.tC,.slice c.pA c.pla.length c.pC,.slice c.qA c.pol.length c.qC,.slice c.hA c.hor.length c.hC],.int .i64 0,.int .i64 0])∧stateF c=0∧textS c=t∧c.is w (ltw w)∧c.lim w)):=by
 refine ⟨h.1,?_⟩
 rcases h.2 with ⟨h1,h2⟩|⟨_,h1,h2⟩|⟨h1,h2,c,h3,h4,h5,h6⟩
 ·exact .inl ⟨_,_,h1,h2⟩
 ·exact .inl ⟨_,_,h1,h2⟩
 ·refine .inr ⟨c,h3,by rw [←stateF_erD c,h4,stateF_erD];exact h2,?_,h5,h6⟩
  rw [←textS_er c,h4,textS_er]
  exact (got_all (pAll_lit h1)).1.symm
theorem lawBack_of (HSS:∀(x y:RSt) (W:World),x.er=y.er→x.is W (ltw W)→y.is W (ltw W)→(∀n∈x.ents,∀e∈n.create.chks,exAll W (ltw W) e)→(∀n∈y.ents,∀e∈n.create.chks,exAll W (ltw W) e)→Calls prog 17 #[.agg x.enc.toArray,.agg y.enc.toArray] W fun e w'=>e=.returned (.bool true)∧Bl W w')
  (c:RSt) (l:List UInt8) (w:World) (he:EnvD w) (hc:c.is w (ltw w)) (hl:c.lim w) (hll:l.length≤maxLen):
  Calls prog 6 #[.agg c.enc.toArray,.string (strB l)] w fun e w'=>e=.returned (.bool true)∧Bl w w':=by
 have KW:Hid (∀W,Bl w W→Calls prog 9 #[] W fun e w'=>e=.returned (.bool true)∧Bl W w'):=hI0 (fun W hb=>works_any W (he.below hb))
 have KS:Hid (∀W,Bl w W→Calls prog 8 #[.agg #[.int .i64 c.tx,.int .i64 c.time,.int .i64 c.wall,.int .i64 c.next,.slice c.eA c.ents.length c.eC,.slice c.sA c.stms.length c.sC,.slice c.tA c.tabs.length c.tC,.slice c.pA c.pla.length c.pC,.slice c.qA c.pol.length c.qC,.slice c.hA c.hor.length c.hC]] W (BoOY W)):=hI0 (fun W hb=>lsmall_anyY c W (hc.below hb) (hl.below hb))
 have KD:Hid (∀W,Bl w W→∀c:RSt,c.is W (ltw W)→c.lim W→Calls prog 10 #[.agg #[.int .i64 c.tx,.int .i64 c.time,.int .i64 c.wall,.int .i64 c.next,.slice c.eA c.ents.length c.eC,.slice c.sA c.stms.length c.sC,.slice c.tA c.tabs.length c.tC,.slice c.pA c.pla.length c.pC,.slice c.qA c.pol.length c.qC,.slice c.hA c.hor.length c.hC]] W (TxOut c W)):=hI0 (fun W hb c hc hl=>dtext_any c W (he.below hb) hc hl)
 have KP1:Hid (stateF c=0→∀W,Bl w W→Calls prog 15 #[.string (strB (textS c))] W fun e w'=>Bl W w'∧∃c1:RSt,e=.returned (.tuple #[.agg #[.int .i64 c1.tx,.int .i64 c1.time,.int .i64 c1.wall,.int .i64 c1.next,.slice c1.eA c1.ents.length c1.eC,.slice c1.sA c1.stms.length c1.sC,.slice c1.tA c1.tabs.length c1.tC,.slice c1.pA c1.pla.length c1.pC,.slice c1.qA c1.pol.length c1.qC,.slice c1.hA c1.hor.length c1.hC],.int .i64 0,.int .i64 0])∧c1.er=c.er∧c1.is w' (ltw w')∧c1.lim w'):=hI0 (fun h0 W hb=>by
  have hp:pAll (textS c)=(stN c.er,0,0):=by rw [←textS_er];exact put_all (okSt_of h0 hl)
  have hst:stN c.er=c.er:=rfl
  rw [hst] at hp
  have k:=parse_any (textS c) W (he.below hb) (by have:=(du_W h0 hl).len;omega) (fun _=>by rw [hp];exact hl.p.to_er)
  refine k.mono fun e w' h=>⟨h.1,?_⟩
  rcases h.2 with ⟨h1,_⟩|⟨_,h1,_⟩|⟨h1,h2,c1,h3,h4,h5,h6⟩
  ·rw [hp] at h1;exact absurd rfl h1
  ·rw [hp] at h1;rw [stateF_erD] at h1;exact absurd h0 h1
  ·rw [hp] at h4
   exact ⟨c1,h3,by rw [h4];exact er_erD c,h5,h6⟩)
 have KP2:Hid (l.length≤3000→∀W,Bl w W→Calls prog 15 #[.string (strB l)] W fun e w'=>Bl W w'∧((∃(n:Int) (r:Int),r≠0∧e=.returned (.tuple #[.agg cZ0,.int .i64 n,.int .i64 r]))∨(∃c:RSt,e=.returned (.tuple #[.agg #[.int .i64 c.tx,.int .i64 c.time,.int .i64 c.wall,.int .i64 c.next,.slice c.eA c.ents.length c.eC,.slice c.sA c.stms.length c.sC,.slice c.tA c.tabs.length c.tC,.slice c.pA c.pla.length c.pC,.slice c.qA c.pol.length c.qC,.slice c.hA c.hor.length c.hC],.int .i64 0,.int .i64 0])∧stateF c=0∧textS c=l∧c.is w' (ltw w')∧c.lim w'))):=hI0 (fun h3 W hb=>(parse_any l W (he.below hb) (by omega) (fun hz=>by
  have hAll:pAll l=((pAll l).1,0,0):=pAll_lit hz
  have hg:=got_all hAll
  exact limP_txt hg.2.1 (by rw [←hg.1];omega))).mono fun e w' h=>h.two)
 have HC:=hI0 hc
 have HL:=hI0 hl
 have HD:Hid (stateF c=0→textS c=textS c):=hI0 (fun _=>rfl)
 have hszl:=strB_size l
 unfold maxLen at hll
 show Calls prog 6 #[.agg #[.int .i64 c.tx,.int .i64 c.time,.int .i64 c.wall,.int .i64 c.next,.slice c.eA c.ents.length c.eC,.slice c.sA c.stms.length c.sC,.slice c.tA c.tabs.length c.tC,.slice c.pA c.pla.length c.pC,.slice c.qA c.pol.length c.qC,.slice c.hA c.hor.length c.hC],.string (strB l)] w _
 obtain ⟨W1,hW1⟩:=eN0 (w.alloc (.cells #[.int .i64 c.tx,.int .i64 c.time,.int .i64 c.wall,.int .i64 c.next,.slice c.eA c.ents.length c.eC,.slice c.sA c.stms.length c.sC,.slice c.tA c.tabs.length c.tC,.slice c.pA c.pla.length c.pC,.slice c.qA c.pol.length c.qC,.slice c.hA c.hor.length c.hC] 29))
 have hbW1:=bN0 hW1
 have hnW1:=hN0 hW1
 have eW1:w.alloc (.cells #[.int .i64 c.tx,.int .i64 c.time,.int .i64 c.wall,.int .i64 c.next,.slice c.eA c.ents.length c.eC,.slice c.sA c.stms.length c.sC,.slice c.tA c.tabs.length c.tC,.slice c.pA c.pla.length c.pC,.slice c.qA c.pol.length c.qC,.slice c.hA c.hor.length c.hC] 29)=W1:=by rw [hW1]
 clear hW1
 have HB1:=hI0 hbW1
 have HX1:=hI0 hnW1
 have K1:=hI0 (KS.out W1 HB1.out)
 obtain ⟨a0,a1,a2,a3,a4,a5,a6,a7,a8,a9⟩:=cX10 hnW1
 clear hbW1 hnW1 he hc hl HD KS
 go_in
 go_wp2_with fail
 clear eW1
 clear a0 a1 a2 a3 a4 a5 a6 a7 a8 a9
 (with_reducible refine K1.out.mono ?_)
 rintro _ w2 ⟨q,rfl,hb2⟩
 have HB2:=bT0 HB1 hb2
 have HX2:=hI0 (keepRow hb2 HX1.out)
 clear hb2 K1
 cases q
 case false=>
  exact yq14 1
 by_cases h3:l.length≤3000
 ·have q3:¬(3000:Int)<(l.length:Int):=by omega
  have KP2:=hI0 (KP2.out h3)
  have K2:Hid (Calls prog 10 #[.agg #[.int .i64 c.tx,.int .i64 c.time,.int .i64 c.wall,.int .i64 c.next,.slice c.eA c.ents.length c.eC,.slice c.sA c.stms.length c.sC,.slice c.tA c.tabs.length c.tC,.slice c.pA c.pla.length c.pC,.slice c.qA c.pol.length c.qC,.slice c.hA c.hor.length c.hC]] w2 (fun e w'=>e=.returned (.tuple #[.string (strB (txT c)),.int .i64 (stateF c)])∧Bl w2 w')):=hI0 (KD.out w2 HB2.out c (HC.out.below HB2.out) (HL.out.below HB2.out))
  obtain ⟨a0,a1,a2,a3,a4,a5,a6,a7,a8,a9⟩:=cX10 HX2.out
  go_wp2_with fail
  clear a0 a1 a2 a3 a4 a5 a6 a7 a8 a9
  (with_reducible refine K2.out.mono ?_)
  rintro _ w3 ⟨rfl,hb3⟩
  have HB3:=bT0 HB2 hb3
  have HX3:=hI0 (keepRow hb3 HX2.out)
  clear hb3 K2
  by_cases h0:stateF c=0
  ·have htx:txT c=textS c:=by unfold txT;rw [if_pos h0]
   have KP:=hI0 (KP1.out h0 w3 HB3.out)
   rw [htx,h0]
   clear htx h0 KP1
   go_wp2_with fail
   (with_reducible refine KP.out.mono ?_)
   rintro _ w4 ⟨hb4,c1,rfl,her,hi1,hm1⟩
   have HB4:=bT0 HB3 hb4
   have HX4:=hI0 (keepRow hb4 HX3.out)
   have HI1:=hI0 hi1
   have HM1:=hI0 hm1
   have HER:=hI0 her
   clear hb4 KP hi1 hm1 her
   obtain ⟨X5,hX5⟩:=eN0 (w4.alloc (.cells cZ0 29))
   have hbX5:=bN0 hX5
   have hnX5:=hN0 hX5
   have eX5:w4.alloc (.cells cZ0 29)=X5:=by rw [hX5]
   clear hX5
   have g9:=cW1 9 hnX5 rfl
   have f9:X5.frozen? ⟨w4.heap.size,9,none⟩=false:=fW0 _ _ _ _ _ hnX5
   have g8:=cW1 8 hnX5 rfl
   have f8:X5.frozen? ⟨w4.heap.size,8,none⟩=false:=fW0 _ _ _ _ _ hnX5
   have g7:=cW1 7 hnX5 rfl
   have f7:X5.frozen? ⟨w4.heap.size,7,none⟩=false:=fW0 _ _ _ _ _ hnX5
   have g6:=cW1 6 hnX5 rfl
   have f6:X5.frozen? ⟨w4.heap.size,6,none⟩=false:=fW0 _ _ _ _ _ hnX5
   have g5:=cW1 5 hnX5 rfl
   have f5:X5.frozen? ⟨w4.heap.size,5,none⟩=false:=fW0 _ _ _ _ _ hnX5
   have g4:=cW1 4 hnX5 rfl
   have f4:X5.frozen? ⟨w4.heap.size,4,none⟩=false:=fW0 _ _ _ _ _ hnX5
   have g3:=cW1 3 hnX5 rfl
   have f3:X5.frozen? ⟨w4.heap.size,3,none⟩=false:=fW0 _ _ _ _ _ hnX5
   have g2:=cW1 2 hnX5 rfl
   have f2:X5.frozen? ⟨w4.heap.size,2,none⟩=false:=fW0 _ _ _ _ _ hnX5
   have g1:=cW1 1 hnX5 rfl
   have f1:X5.frozen? ⟨w4.heap.size,1,none⟩=false:=fW0 _ _ _ _ _ hnX5
   have g0:=cW1 0 hnX5 rfl
   have f0:X5.frozen? ⟨w4.heap.size,0,none⟩=false:=fW0 _ _ _ _ _ hnX5
   obtain ⟨W5,hW5⟩:=eN0 (((((((((((X5.setCell ⟨w4.heap.size,0,none⟩ (.int .i64 c1.tx)).setCell ⟨w4.heap.size,1,none⟩ (.int .i64 c1.time)).setCell ⟨w4.heap.size,2,none⟩ (.int .i64 c1.wall)).setCell ⟨w4.heap.size,3,none⟩ (.int .i64 c1.next)).setCell ⟨w4.heap.size,4,none⟩ (.slice c1.eA c1.ents.length c1.eC)).setCell ⟨w4.heap.size,5,none⟩ (.slice c1.sA c1.stms.length c1.sC)).setCell ⟨w4.heap.size,6,none⟩ (.slice c1.tA c1.tabs.length c1.tC)).setCell ⟨w4.heap.size,7,none⟩ (.slice c1.pA c1.pla.length c1.pC)).setCell ⟨w4.heap.size,8,none⟩ (.slice c1.qA c1.pol.length c1.qC)).setCell ⟨w4.heap.size,9,none⟩ (.slice c1.hA c1.hor.length c1.hC)):World)
   have hnW5:W5.heap[w4.heap.size]? =some (.cells #[.int .i64 c1.tx,.int .i64 c1.time,.int .i64 c1.wall,.int .i64 c1.next,.slice c1.eA c1.ents.length c1.eC,.slice c1.sA c1.stms.length c1.sC,.slice c1.tA c1.tabs.length c1.tC,.slice c1.pA c1.pla.length c1.pC,.slice c1.qA c1.pol.length c1.qC,.slice c1.hA c1.hor.length c1.hC] 29 (0,0)):=by rw [hW5];exact dten_set hnX5 (.int .i64 c1.tx) (.int .i64 c1.time) (.int .i64 c1.wall) (.int .i64 c1.next) (.slice c1.eA c1.ents.length c1.eC) (.slice c1.sA c1.stms.length c1.sC) (.slice c1.tA c1.tabs.length c1.tC) (.slice c1.pA c1.pla.length c1.pC) (.slice c1.qA c1.pol.length c1.qC) (.slice c1.hA c1.hor.length c1.hC)
   have hbW5:Bl w4 W5:=by rw [hW5];exact hbX5.trans ((dten_chg X5 w4.heap.size (.int .i64 c1.tx) (.int .i64 c1.time) (.int .i64 c1.wall) (.int .i64 c1.next) (.slice c1.eA c1.ents.length c1.eC) (.slice c1.sA c1.stms.length c1.sC) (.slice c1.tA c1.tabs.length c1.tC) (.slice c1.pA c1.pla.length c1.pC) (.slice c1.qA c1.pol.length c1.qC) (.slice c1.hA c1.hor.length c1.hC)).below (B:=w4.heap.size) hbX5.size (fun i (hi:i=w4.heap.size)=>by omega))
   have eW5:((((((((((X5.setCell ⟨w4.heap.size,0,none⟩ (.int .i64 c1.tx)).setCell ⟨w4.heap.size,1,none⟩ (.int .i64 c1.time)).setCell ⟨w4.heap.size,2,none⟩ (.int .i64 c1.wall)).setCell ⟨w4.heap.size,3,none⟩ (.int .i64 c1.next)).setCell ⟨w4.heap.size,4,none⟩ (.slice c1.eA c1.ents.length c1.eC)).setCell ⟨w4.heap.size,5,none⟩ (.slice c1.sA c1.stms.length c1.sC)).setCell ⟨w4.heap.size,6,none⟩ (.slice c1.tA c1.tabs.length c1.tC)).setCell ⟨w4.heap.size,7,none⟩ (.slice c1.pA c1.pla.length c1.pC)).setCell ⟨w4.heap.size,8,none⟩ (.slice c1.qA c1.pol.length c1.qC)).setCell ⟨w4.heap.size,9,none⟩ (.slice c1.hA c1.hor.length c1.hC))=W5:=by rw [hW5]
   clear hW5
   have HB45:=hI0 hbW5
   have HB5:=bT0 HB4 hbW5
   have HX5:=hI0 (keepRow hbW5 HX4.out)
   obtain ⟨a0,a1,a2,a3,a4,a5,a6,a7,a8,a9⟩:=cX10 hnW5
   obtain ⟨k0,k1,k2,k3,k4,k5,k6,k7,k8,k9⟩:=cX10 HX5.out
   have KSS:Hid (Calls prog 17 #[.agg #[.int .i64 c1.tx,.int .i64 c1.time,.int .i64 c1.wall,.int .i64 c1.next,.slice c1.eA c1.ents.length c1.eC,.slice c1.sA c1.stms.length c1.sC,.slice c1.tA c1.tabs.length c1.tC,.slice c1.pA c1.pla.length c1.pC,.slice c1.qA c1.pol.length c1.qC,.slice c1.hA c1.hor.length c1.hC],.agg #[.int .i64 c.tx,.int .i64 c.time,.int .i64 c.wall,.int .i64 c.next,.slice c.eA c.ents.length c.eC,.slice c.sA c.stms.length c.sC,.slice c.tA c.tabs.length c.tC,.slice c.pA c.pla.length c.pC,.slice c.qA c.pol.length c.qC,.slice c.hA c.hor.length c.hC]] W5 fun e w'=>e=.returned (.bool true)∧Bl W5 w'):=hI0 (HSS c1 c W5 HER.out (HI1.out.below HB45.out) (HC.out.below HB5.out) (fun n hn e he=>((HM1.out.below HB45.out).exps n hn e he).1) (fun n hn e he=>((HL.out.below HB5.out).exps n hn e he).1))
   clear hbX5 hnX5 hnW5 hbW5
   go_wp2_with fail
   clear a0 a1 a2 a3 a4 a5 a6 a7 a8 a9
   clear k0 k1 k2 k3 k4 k5 k6 k7 k8 k9
   (with_reducible refine KSS.out.mono ?_)
   rintro _ w6 ⟨rfl,hb6⟩
   have HB6:=bT0 HB5 hb6
   clear hb6 KSS eX5 eW5
   go_wp2_with fail
   (with_reducible refine (KP2.out w6 HB6.out).mono ?_)
   rintro _ x7 ⟨hb7,hcs7⟩
   have HBx7:=bT0 HB6 hb7
   clear hb7
   rcases hcs7 with ⟨nn,ee,hee,rfl⟩|⟨c2,rfl,hs2,ht2,hi2,hm2⟩
   ·
    obtain ⟨X7,hX7⟩:=eN0 (x7.alloc (.cells cZ0 29))
    have hbX7:=bN0 hX7
    have hnX7:=hN0 hX7
    have eX7:x7.alloc (.cells cZ0 29)=X7:=by rw [hX7]
    clear hX7
    have g9:=cW1 9 hnX7 rfl
    have f9:X7.frozen? ⟨x7.heap.size,9,none⟩=false:=fW0 _ _ _ _ _ hnX7
    have g8:=cW1 8 hnX7 rfl
    have f8:X7.frozen? ⟨x7.heap.size,8,none⟩=false:=fW0 _ _ _ _ _ hnX7
    have g7:=cW1 7 hnX7 rfl
    have f7:X7.frozen? ⟨x7.heap.size,7,none⟩=false:=fW0 _ _ _ _ _ hnX7
    have g6:=cW1 6 hnX7 rfl
    have f6:X7.frozen? ⟨x7.heap.size,6,none⟩=false:=fW0 _ _ _ _ _ hnX7
    have g5:=cW1 5 hnX7 rfl
    have f5:X7.frozen? ⟨x7.heap.size,5,none⟩=false:=fW0 _ _ _ _ _ hnX7
    have g4:=cW1 4 hnX7 rfl
    have f4:X7.frozen? ⟨x7.heap.size,4,none⟩=false:=fW0 _ _ _ _ _ hnX7
    have g3:=cW1 3 hnX7 rfl
    have f3:X7.frozen? ⟨x7.heap.size,3,none⟩=false:=fW0 _ _ _ _ _ hnX7
    have g2:=cW1 2 hnX7 rfl
    have f2:X7.frozen? ⟨x7.heap.size,2,none⟩=false:=fW0 _ _ _ _ _ hnX7
    have g1:=cW1 1 hnX7 rfl
    have f1:X7.frozen? ⟨x7.heap.size,1,none⟩=false:=fW0 _ _ _ _ _ hnX7
    have g0:=cW1 0 hnX7 rfl
    have f0:X7.frozen? ⟨x7.heap.size,0,none⟩=false:=fW0 _ _ _ _ _ hnX7
    obtain ⟨W7,hW7⟩:=eN0 (((((((((((X7.setCell ⟨x7.heap.size,0,none⟩ (.int .i64 0)).setCell ⟨x7.heap.size,1,none⟩ (.int .i64 0)).setCell ⟨x7.heap.size,2,none⟩ (.int .i64 0)).setCell ⟨x7.heap.size,3,none⟩ (.int .i64 0)).setCell ⟨x7.heap.size,4,none⟩ (.slice none 0 0)).setCell ⟨x7.heap.size,5,none⟩ (.slice none 0 0)).setCell ⟨x7.heap.size,6,none⟩ (.slice none 0 0)).setCell ⟨x7.heap.size,7,none⟩ (.slice none 0 0)).setCell ⟨x7.heap.size,8,none⟩ (.slice none 0 0)).setCell ⟨x7.heap.size,9,none⟩ (.slice none 0 0)):World)
    have hnW7:W7.heap[x7.heap.size]? =some (.cells cZ0 29 (0,0)):=by rw [hW7];exact dten_set hnX7 (.int .i64 0) (.int .i64 0) (.int .i64 0) (.int .i64 0) (.slice none 0 0) (.slice none 0 0) (.slice none 0 0) (.slice none 0 0) (.slice none 0 0) (.slice none 0 0)
    have hbW7:Bl x7 W7:=by rw [hW7];exact hbX7.trans ((dten_chg X7 x7.heap.size (.int .i64 0) (.int .i64 0) (.int .i64 0) (.int .i64 0) (.slice none 0 0) (.slice none 0 0) (.slice none 0 0) (.slice none 0 0) (.slice none 0 0) (.slice none 0 0)).below (B:=x7.heap.size) hbX7.size (fun i (hi:i=x7.heap.size)=>by omega))
    have eW7:((((((((((X7.setCell ⟨x7.heap.size,0,none⟩ (.int .i64 0)).setCell ⟨x7.heap.size,1,none⟩ (.int .i64 0)).setCell ⟨x7.heap.size,2,none⟩ (.int .i64 0)).setCell ⟨x7.heap.size,3,none⟩ (.int .i64 0)).setCell ⟨x7.heap.size,4,none⟩ (.slice none 0 0)).setCell ⟨x7.heap.size,5,none⟩ (.slice none 0 0)).setCell ⟨x7.heap.size,6,none⟩ (.slice none 0 0)).setCell ⟨x7.heap.size,7,none⟩ (.slice none 0 0)).setCell ⟨x7.heap.size,8,none⟩ (.slice none 0 0)).setCell ⟨x7.heap.size,9,none⟩ (.slice none 0 0))=W7:=by rw [hW7]
    clear hW7
    have HBy7:=bT0 HBx7 hbW7
    clear hbX7 hnX7 hnW7 hbW7
    have e1:(ee==0)=false:=by simpa using hee
    have e2:decide (ee=0)=false:=decide_eq_false hee
    go_wp2_with fail
    (with_reducible refine (KW.out W7 HBy7.out).mono ?_)
    rintro _ w9 ⟨rfl,hb9⟩
    have HB9:=bT0 HBy7 hb9
    clear hb9
    go_wp2_with fail
    go_ret
    exact ⟨rfl,HB9.out⟩
   ·
    have HI2:=hI0 hi2
    have HM2:=hI0 hm2
    clear hi2 hm2
    obtain ⟨X7,hX7⟩:=eN0 (x7.alloc (.cells cZ0 29))
    have hbX7:=bN0 hX7
    have hnX7:=hN0 hX7
    have eX7:x7.alloc (.cells cZ0 29)=X7:=by rw [hX7]
    clear hX7
    have g9:=cW1 9 hnX7 rfl
    have f9:X7.frozen? ⟨x7.heap.size,9,none⟩=false:=fW0 _ _ _ _ _ hnX7
    have g8:=cW1 8 hnX7 rfl
    have f8:X7.frozen? ⟨x7.heap.size,8,none⟩=false:=fW0 _ _ _ _ _ hnX7
    have g7:=cW1 7 hnX7 rfl
    have f7:X7.frozen? ⟨x7.heap.size,7,none⟩=false:=fW0 _ _ _ _ _ hnX7
    have g6:=cW1 6 hnX7 rfl
    have f6:X7.frozen? ⟨x7.heap.size,6,none⟩=false:=fW0 _ _ _ _ _ hnX7
    have g5:=cW1 5 hnX7 rfl
    have f5:X7.frozen? ⟨x7.heap.size,5,none⟩=false:=fW0 _ _ _ _ _ hnX7
    have g4:=cW1 4 hnX7 rfl
    have f4:X7.frozen? ⟨x7.heap.size,4,none⟩=false:=fW0 _ _ _ _ _ hnX7
    have g3:=cW1 3 hnX7 rfl
    have f3:X7.frozen? ⟨x7.heap.size,3,none⟩=false:=fW0 _ _ _ _ _ hnX7
    have g2:=cW1 2 hnX7 rfl
    have f2:X7.frozen? ⟨x7.heap.size,2,none⟩=false:=fW0 _ _ _ _ _ hnX7
    have g1:=cW1 1 hnX7 rfl
    have f1:X7.frozen? ⟨x7.heap.size,1,none⟩=false:=fW0 _ _ _ _ _ hnX7
    have g0:=cW1 0 hnX7 rfl
    have f0:X7.frozen? ⟨x7.heap.size,0,none⟩=false:=fW0 _ _ _ _ _ hnX7
    obtain ⟨W7,hW7⟩:=eN0 (((((((((((X7.setCell ⟨x7.heap.size,0,none⟩ (.int .i64 c2.tx)).setCell ⟨x7.heap.size,1,none⟩ (.int .i64 c2.time)).setCell ⟨x7.heap.size,2,none⟩ (.int .i64 c2.wall)).setCell ⟨x7.heap.size,3,none⟩ (.int .i64 c2.next)).setCell ⟨x7.heap.size,4,none⟩ (.slice c2.eA c2.ents.length c2.eC)).setCell ⟨x7.heap.size,5,none⟩ (.slice c2.sA c2.stms.length c2.sC)).setCell ⟨x7.heap.size,6,none⟩ (.slice c2.tA c2.tabs.length c2.tC)).setCell ⟨x7.heap.size,7,none⟩ (.slice c2.pA c2.pla.length c2.pC)).setCell ⟨x7.heap.size,8,none⟩ (.slice c2.qA c2.pol.length c2.qC)).setCell ⟨x7.heap.size,9,none⟩ (.slice c2.hA c2.hor.length c2.hC)):World)
    have hnW7:W7.heap[x7.heap.size]? =some (.cells #[.int .i64 c2.tx,.int .i64 c2.time,.int .i64 c2.wall,.int .i64 c2.next,.slice c2.eA c2.ents.length c2.eC,.slice c2.sA c2.stms.length c2.sC,.slice c2.tA c2.tabs.length c2.tC,.slice c2.pA c2.pla.length c2.pC,.slice c2.qA c2.pol.length c2.qC,.slice c2.hA c2.hor.length c2.hC] 29 (0,0)):=by rw [hW7];exact dten_set hnX7 (.int .i64 c2.tx) (.int .i64 c2.time) (.int .i64 c2.wall) (.int .i64 c2.next) (.slice c2.eA c2.ents.length c2.eC) (.slice c2.sA c2.stms.length c2.sC) (.slice c2.tA c2.tabs.length c2.tC) (.slice c2.pA c2.pla.length c2.pC) (.slice c2.qA c2.pol.length c2.qC) (.slice c2.hA c2.hor.length c2.hC)
    have hbW7:Bl x7 W7:=by rw [hW7];exact hbX7.trans ((dten_chg X7 x7.heap.size (.int .i64 c2.tx) (.int .i64 c2.time) (.int .i64 c2.wall) (.int .i64 c2.next) (.slice c2.eA c2.ents.length c2.eC) (.slice c2.sA c2.stms.length c2.sC) (.slice c2.tA c2.tabs.length c2.tC) (.slice c2.pA c2.pla.length c2.pC) (.slice c2.qA c2.pol.length c2.qC) (.slice c2.hA c2.hor.length c2.hC)).below (B:=x7.heap.size) hbX7.size (fun i (hi:i=x7.heap.size)=>by omega))
    have eW7:((((((((((X7.setCell ⟨x7.heap.size,0,none⟩ (.int .i64 c2.tx)).setCell ⟨x7.heap.size,1,none⟩ (.int .i64 c2.time)).setCell ⟨x7.heap.size,2,none⟩ (.int .i64 c2.wall)).setCell ⟨x7.heap.size,3,none⟩ (.int .i64 c2.next)).setCell ⟨x7.heap.size,4,none⟩ (.slice c2.eA c2.ents.length c2.eC)).setCell ⟨x7.heap.size,5,none⟩ (.slice c2.sA c2.stms.length c2.sC)).setCell ⟨x7.heap.size,6,none⟩ (.slice c2.tA c2.tabs.length c2.tC)).setCell ⟨x7.heap.size,7,none⟩ (.slice c2.pA c2.pla.length c2.pC)).setCell ⟨x7.heap.size,8,none⟩ (.slice c2.qA c2.pol.length c2.qC)).setCell ⟨x7.heap.size,9,none⟩ (.slice c2.hA c2.hor.length c2.hC))=W7:=by rw [hW7]
    clear hW7
    have HBz7:=hI0 hbW7
    have HBy7:=bT0 HBx7 hbW7
    obtain ⟨a0,a1,a2,a3,a4,a5,a6,a7,a8,a9⟩:=cX10 hnW7
    have KD2:Hid (Calls prog 10 #[.agg #[.int .i64 c2.tx,.int .i64 c2.time,.int .i64 c2.wall,.int .i64 c2.next,.slice c2.eA c2.ents.length c2.eC,.slice c2.sA c2.stms.length c2.sC,.slice c2.tA c2.tabs.length c2.tC,.slice c2.pA c2.pla.length c2.pC,.slice c2.qA c2.pol.length c2.qC,.slice c2.hA c2.hor.length c2.hC]] W7 (fun e w'=>e=.returned (.tuple #[.string (strB l),.int .i64 0])∧Bl W7 w')):=hI0 (by
     have k:=KD.out W7 HBy7.out c2 (HI2.out.below HBz7.out) (HM2.out.below HBz7.out)
     unfold TxOut txT at k
     rw [if_pos hs2,ht2,hs2] at k
     exact k)
    clear hbX7 hnX7 hnW7 hbW7 hs2 ht2
    go_wp2_with fail
    clear a0 a1 a2 a3 a4 a5 a6 a7 a8 a9
    (with_reducible refine KD2.out.mono ?_)
    rintro _ y7 ⟨rfl,hb7⟩
    have HBw7:=bT0 HBy7 hb7
    clear hb7 KD2
    go_wp2_with fail
    (with_reducible refine (KW.out y7 HBw7.out).mono ?_)
    rintro _ w9 ⟨rfl,hb9⟩
    have HB9:=bT0 HBw7 hb9
    clear hb9
    go_wp2_with fail
    go_ret
    exact ⟨rfl,HB9.out⟩
  ·have e1:(stateF c==0)=false:=by simpa using h0
   have e2:decide (stateF c=0)=false:=decide_eq_false h0
   clear KP1
   go_wp2_with fail
   (with_reducible refine (KP2.out w3 HB3.out).mono ?_)
   rintro _ x8 ⟨hb8,hcs8⟩
   have HBx8:=bT0 HB3 hb8
   clear hb8
   rcases hcs8 with ⟨nn,ee,hee,rfl⟩|⟨c2,rfl,hs2,ht2,hi2,hm2⟩
   ·
    obtain ⟨X8,hX8⟩:=eN0 (x8.alloc (.cells cZ0 29))
    have hbX8:=bN0 hX8
    have hnX8:=hN0 hX8
    have eX8:x8.alloc (.cells cZ0 29)=X8:=by rw [hX8]
    clear hX8
    have g9:=cW1 9 hnX8 rfl
    have f9:X8.frozen? ⟨x8.heap.size,9,none⟩=false:=fW0 _ _ _ _ _ hnX8
    have g8:=cW1 8 hnX8 rfl
    have f8:X8.frozen? ⟨x8.heap.size,8,none⟩=false:=fW0 _ _ _ _ _ hnX8
    have g7:=cW1 7 hnX8 rfl
    have f7:X8.frozen? ⟨x8.heap.size,7,none⟩=false:=fW0 _ _ _ _ _ hnX8
    have g6:=cW1 6 hnX8 rfl
    have f6:X8.frozen? ⟨x8.heap.size,6,none⟩=false:=fW0 _ _ _ _ _ hnX8
    have g5:=cW1 5 hnX8 rfl
    have f5:X8.frozen? ⟨x8.heap.size,5,none⟩=false:=fW0 _ _ _ _ _ hnX8
    have g4:=cW1 4 hnX8 rfl
    have f4:X8.frozen? ⟨x8.heap.size,4,none⟩=false:=fW0 _ _ _ _ _ hnX8
    have g3:=cW1 3 hnX8 rfl
    have f3:X8.frozen? ⟨x8.heap.size,3,none⟩=false:=fW0 _ _ _ _ _ hnX8
    have g2:=cW1 2 hnX8 rfl
    have f2:X8.frozen? ⟨x8.heap.size,2,none⟩=false:=fW0 _ _ _ _ _ hnX8
    have g1:=cW1 1 hnX8 rfl
    have f1:X8.frozen? ⟨x8.heap.size,1,none⟩=false:=fW0 _ _ _ _ _ hnX8
    have g0:=cW1 0 hnX8 rfl
    have f0:X8.frozen? ⟨x8.heap.size,0,none⟩=false:=fW0 _ _ _ _ _ hnX8
    obtain ⟨W8,hW8⟩:=eN0 (((((((((((X8.setCell ⟨x8.heap.size,0,none⟩ (.int .i64 0)).setCell ⟨x8.heap.size,1,none⟩ (.int .i64 0)).setCell ⟨x8.heap.size,2,none⟩ (.int .i64 0)).setCell ⟨x8.heap.size,3,none⟩ (.int .i64 0)).setCell ⟨x8.heap.size,4,none⟩ (.slice none 0 0)).setCell ⟨x8.heap.size,5,none⟩ (.slice none 0 0)).setCell ⟨x8.heap.size,6,none⟩ (.slice none 0 0)).setCell ⟨x8.heap.size,7,none⟩ (.slice none 0 0)).setCell ⟨x8.heap.size,8,none⟩ (.slice none 0 0)).setCell ⟨x8.heap.size,9,none⟩ (.slice none 0 0)):World)
    have hnW8:W8.heap[x8.heap.size]? =some (.cells cZ0 29 (0,0)):=by rw [hW8];exact dten_set hnX8 (.int .i64 0) (.int .i64 0) (.int .i64 0) (.int .i64 0) (.slice none 0 0) (.slice none 0 0) (.slice none 0 0) (.slice none 0 0) (.slice none 0 0) (.slice none 0 0)
    have hbW8:Bl x8 W8:=by rw [hW8];exact hbX8.trans ((dten_chg X8 x8.heap.size (.int .i64 0) (.int .i64 0) (.int .i64 0) (.int .i64 0) (.slice none 0 0) (.slice none 0 0) (.slice none 0 0) (.slice none 0 0) (.slice none 0 0) (.slice none 0 0)).below (B:=x8.heap.size) hbX8.size (fun i (hi:i=x8.heap.size)=>by omega))
    have eW8:((((((((((X8.setCell ⟨x8.heap.size,0,none⟩ (.int .i64 0)).setCell ⟨x8.heap.size,1,none⟩ (.int .i64 0)).setCell ⟨x8.heap.size,2,none⟩ (.int .i64 0)).setCell ⟨x8.heap.size,3,none⟩ (.int .i64 0)).setCell ⟨x8.heap.size,4,none⟩ (.slice none 0 0)).setCell ⟨x8.heap.size,5,none⟩ (.slice none 0 0)).setCell ⟨x8.heap.size,6,none⟩ (.slice none 0 0)).setCell ⟨x8.heap.size,7,none⟩ (.slice none 0 0)).setCell ⟨x8.heap.size,8,none⟩ (.slice none 0 0)).setCell ⟨x8.heap.size,9,none⟩ (.slice none 0 0))=W8:=by rw [hW8]
    clear hW8
    have HBy8:=bT0 HBx8 hbW8
    clear hbX8 hnX8 hnW8 hbW8
    have e1:(ee==0)=false:=by simpa using hee
    have e2:decide (ee=0)=false:=decide_eq_false hee
    go_wp2_with fail
    (with_reducible refine (KW.out W8 HBy8.out).mono ?_)
    rintro _ w9 ⟨rfl,hb9⟩
    have HB9:=bT0 HBy8 hb9
    clear hb9
    go_wp2_with fail
    go_ret
    exact ⟨rfl,HB9.out⟩
   ·
    have HI2:=hI0 hi2
    have HM2:=hI0 hm2
    clear hi2 hm2
    obtain ⟨X8,hX8⟩:=eN0 (x8.alloc (.cells cZ0 29))
    have hbX8:=bN0 hX8
    have hnX8:=hN0 hX8
    have eX8:x8.alloc (.cells cZ0 29)=X8:=by rw [hX8]
    clear hX8
    have g9:=cW1 9 hnX8 rfl
    have f9:X8.frozen? ⟨x8.heap.size,9,none⟩=false:=fW0 _ _ _ _ _ hnX8
    have g8:=cW1 8 hnX8 rfl
    have f8:X8.frozen? ⟨x8.heap.size,8,none⟩=false:=fW0 _ _ _ _ _ hnX8
    have g7:=cW1 7 hnX8 rfl
    have f7:X8.frozen? ⟨x8.heap.size,7,none⟩=false:=fW0 _ _ _ _ _ hnX8
    have g6:=cW1 6 hnX8 rfl
    have f6:X8.frozen? ⟨x8.heap.size,6,none⟩=false:=fW0 _ _ _ _ _ hnX8
    have g5:=cW1 5 hnX8 rfl
    have f5:X8.frozen? ⟨x8.heap.size,5,none⟩=false:=fW0 _ _ _ _ _ hnX8
    have g4:=cW1 4 hnX8 rfl
    have f4:X8.frozen? ⟨x8.heap.size,4,none⟩=false:=fW0 _ _ _ _ _ hnX8
    have g3:=cW1 3 hnX8 rfl
    have f3:X8.frozen? ⟨x8.heap.size,3,none⟩=false:=fW0 _ _ _ _ _ hnX8
    have g2:=cW1 2 hnX8 rfl
    have f2:X8.frozen? ⟨x8.heap.size,2,none⟩=false:=fW0 _ _ _ _ _ hnX8
    have g1:=cW1 1 hnX8 rfl
    have f1:X8.frozen? ⟨x8.heap.size,1,none⟩=false:=fW0 _ _ _ _ _ hnX8
    have g0:=cW1 0 hnX8 rfl
    have f0:X8.frozen? ⟨x8.heap.size,0,none⟩=false:=fW0 _ _ _ _ _ hnX8
    obtain ⟨W8,hW8⟩:=eN0 (((((((((((X8.setCell ⟨x8.heap.size,0,none⟩ (.int .i64 c2.tx)).setCell ⟨x8.heap.size,1,none⟩ (.int .i64 c2.time)).setCell ⟨x8.heap.size,2,none⟩ (.int .i64 c2.wall)).setCell ⟨x8.heap.size,3,none⟩ (.int .i64 c2.next)).setCell ⟨x8.heap.size,4,none⟩ (.slice c2.eA c2.ents.length c2.eC)).setCell ⟨x8.heap.size,5,none⟩ (.slice c2.sA c2.stms.length c2.sC)).setCell ⟨x8.heap.size,6,none⟩ (.slice c2.tA c2.tabs.length c2.tC)).setCell ⟨x8.heap.size,7,none⟩ (.slice c2.pA c2.pla.length c2.pC)).setCell ⟨x8.heap.size,8,none⟩ (.slice c2.qA c2.pol.length c2.qC)).setCell ⟨x8.heap.size,9,none⟩ (.slice c2.hA c2.hor.length c2.hC)):World)
    have hnW8:W8.heap[x8.heap.size]? =some (.cells #[.int .i64 c2.tx,.int .i64 c2.time,.int .i64 c2.wall,.int .i64 c2.next,.slice c2.eA c2.ents.length c2.eC,.slice c2.sA c2.stms.length c2.sC,.slice c2.tA c2.tabs.length c2.tC,.slice c2.pA c2.pla.length c2.pC,.slice c2.qA c2.pol.length c2.qC,.slice c2.hA c2.hor.length c2.hC] 29 (0,0)):=by rw [hW8];exact dten_set hnX8 (.int .i64 c2.tx) (.int .i64 c2.time) (.int .i64 c2.wall) (.int .i64 c2.next) (.slice c2.eA c2.ents.length c2.eC) (.slice c2.sA c2.stms.length c2.sC) (.slice c2.tA c2.tabs.length c2.tC) (.slice c2.pA c2.pla.length c2.pC) (.slice c2.qA c2.pol.length c2.qC) (.slice c2.hA c2.hor.length c2.hC)
    have hbW8:Bl x8 W8:=by rw [hW8];exact hbX8.trans ((dten_chg X8 x8.heap.size (.int .i64 c2.tx) (.int .i64 c2.time) (.int .i64 c2.wall) (.int .i64 c2.next) (.slice c2.eA c2.ents.length c2.eC) (.slice c2.sA c2.stms.length c2.sC) (.slice c2.tA c2.tabs.length c2.tC) (.slice c2.pA c2.pla.length c2.pC) (.slice c2.qA c2.pol.length c2.qC) (.slice c2.hA c2.hor.length c2.hC)).below (B:=x8.heap.size) hbX8.size (fun i (hi:i=x8.heap.size)=>by omega))
    have eW8:((((((((((X8.setCell ⟨x8.heap.size,0,none⟩ (.int .i64 c2.tx)).setCell ⟨x8.heap.size,1,none⟩ (.int .i64 c2.time)).setCell ⟨x8.heap.size,2,none⟩ (.int .i64 c2.wall)).setCell ⟨x8.heap.size,3,none⟩ (.int .i64 c2.next)).setCell ⟨x8.heap.size,4,none⟩ (.slice c2.eA c2.ents.length c2.eC)).setCell ⟨x8.heap.size,5,none⟩ (.slice c2.sA c2.stms.length c2.sC)).setCell ⟨x8.heap.size,6,none⟩ (.slice c2.tA c2.tabs.length c2.tC)).setCell ⟨x8.heap.size,7,none⟩ (.slice c2.pA c2.pla.length c2.pC)).setCell ⟨x8.heap.size,8,none⟩ (.slice c2.qA c2.pol.length c2.qC)).setCell ⟨x8.heap.size,9,none⟩ (.slice c2.hA c2.hor.length c2.hC))=W8:=by rw [hW8]
    clear hW8
    have HBz8:=hI0 hbW8
    have HBy8:=bT0 HBx8 hbW8
    obtain ⟨a0,a1,a2,a3,a4,a5,a6,a7,a8,a9⟩:=cX10 hnW8
    have KD2:Hid (Calls prog 10 #[.agg #[.int .i64 c2.tx,.int .i64 c2.time,.int .i64 c2.wall,.int .i64 c2.next,.slice c2.eA c2.ents.length c2.eC,.slice c2.sA c2.stms.length c2.sC,.slice c2.tA c2.tabs.length c2.tC,.slice c2.pA c2.pla.length c2.pC,.slice c2.qA c2.pol.length c2.qC,.slice c2.hA c2.hor.length c2.hC]] W8 (fun e w'=>e=.returned (.tuple #[.string (strB l),.int .i64 0])∧Bl W8 w')):=hI0 (by
     have k:=KD.out W8 HBy8.out c2 (HI2.out.below HBz8.out) (HM2.out.below HBz8.out)
     unfold TxOut txT at k
     rw [if_pos hs2,ht2,hs2] at k
     exact k)
    clear hbX8 hnX8 hnW8 hbW8 hs2 ht2
    go_wp2_with fail
    clear a0 a1 a2 a3 a4 a5 a6 a7 a8 a9
    (with_reducible refine KD2.out.mono ?_)
    rintro _ y8 ⟨rfl,hb8⟩
    have HBw8:=bT0 HBy8 hb8
    clear hb8 KD2
    go_wp2_with fail
    (with_reducible refine (KW.out y8 HBw8.out).mono ?_)
    rintro _ w9 ⟨rfl,hb9⟩
    have HB9:=bT0 HBw8 hb9
    clear hb9
    go_wp2_with fail
    go_ret
    exact ⟨rfl,HB9.out⟩
 ·exact yq14 0
end Go.Proofs.YtgfhknnklapldaaGreatDoor
