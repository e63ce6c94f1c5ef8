/-
 DuQ
-/
import Derived.Test.YtgfhknnklapldaaGreatDoorPDuP
import Derived.Test.YtgfhknnklapldaaGreatDoorPDuJ
import Derived.Test.YtgfhknnklapldaaGreatDoorPDuI
namespace Go.Proofs.YtgfhknnklapldaaGreatDoor
open Go.Proofs.Tryz
set_option maxRecDepth 99999
set_option maxHeartbeats 0
open Go.RowKit Go.Lib Go.IntWalk Go.Sort Go.Shelf
theorem dset9 {w:World} {T:Nat} {a0 a1 a2 a3 a4 a5 a6 a7 a8:Value} {e:TypeId} (h:w.heap[T]? =some (.cells #[a0,a1,a2,a3,a4,a5,a6,a7,a8] e (0,0))) (c0 c1 c2 c3 c4 c5 c6 c7 c8:Value):(((((((((w.setCell ⟨T,0,none⟩ c0).setCell ⟨T,1,none⟩ c1).setCell ⟨T,2,none⟩ c2).setCell ⟨T,3,none⟩ c3).setCell ⟨T,4,none⟩ c4).setCell ⟨T,5,none⟩ c5).setCell ⟨T,6,none⟩ c6).setCell ⟨T,7,none⟩ c7).setCell ⟨T,8,none⟩ c8).heap[T]? =some (.cells #[c0,c1,c2,c3,c4,c5,c6,c7,c8] e (0,0)):=by
 have h0:=heap_setCell_same w T 0 _ _ c0 h
 have h1:=heap_setCell_same _ T 1 _ _ c1 h0
 have h2:=heap_setCell_same _ T 2 _ _ c2 h1
 have h3:=heap_setCell_same _ T 3 _ _ c3 h2
 have h4:=heap_setCell_same _ T 4 _ _ c4 h3
 have h5:=heap_setCell_same _ T 5 _ _ c5 h4
 have h6:=heap_setCell_same _ T 6 _ _ c6 h5
 have h7:=heap_setCell_same _ T 7 _ _ c7 h6
 have h8:=heap_setCell_same _ T 8 _ _ c8 h7
 simpa using h8
theorem dchg9 (w:World) (T:Nat) (c0 c1 c2 c3 c4 c5 c6 c7 c8:Value):Chg (·=T) w (((((((((w.setCell ⟨T,0,none⟩ c0).setCell ⟨T,1,none⟩ c1).setCell ⟨T,2,none⟩ c2).setCell ⟨T,3,none⟩ c3).setCell ⟨T,4,none⟩ c4).setCell ⟨T,5,none⟩ c5).setCell ⟨T,6,none⟩ c6).setCell ⟨T,7,none⟩ c7).setCell ⟨T,8,none⟩ c8):=((((((((((Chg.refl (·=T) w).setCell (p:=⟨T,0,none⟩) (.inl rfl) c0).setCell (p:=⟨T,1,none⟩) (.inl rfl) c1).setCell (p:=⟨T,2,none⟩) (.inl rfl) c2).setCell (p:=⟨T,3,none⟩) (.inl rfl) c3).setCell (p:=⟨T,4,none⟩) (.inl rfl) c4).setCell (p:=⟨T,5,none⟩) (.inl rfl) c5).setCell (p:=⟨T,6,none⟩) (.inl rfl) c6).setCell (p:=⟨T,7,none⟩) (.inl rfl) c7).setCell (p:=⟨T,8,none⟩) (.inl rfl) c8)
def rowQ:List Val:=[⟨1,1,⟨#[]⟩⟩,⟨2,0,⟨#[105,116,39,115]⟩⟩]
def verQ:Ver:=⟨7,0,rowQ,0,5,10,1099511627776,2,0⟩
def rvQ (A:Option Addr):RV:=⟨7,0,A,2,2,0,5,10,1099511627776,2,0⟩
def tvQ (A B:Option Addr):RTv:=⟨⟨#[116]⟩,B,1,[(rvQ A,verQ)]⟩
def tTab:List UInt8:=[116,97,98,108,101,32,39,116,39,10,118,101,114,115,105,111,110,32,55,32,48,32,50,32,49,32,39,105,116,39,39,115,39,32,48,32,53,32,49,48,32,49,48,57,57,53,49,49,54,50,55,55,55,54,32,50,32,48,10]
theorem txQ:txT sW0=tW0:=by
 unfold txT
 rw [if_pos sW0_f]
 kernel_rfl
theorem tabQ (A B:Option Addr):tabE (tvQ A B).table ((tvQ A B).vers.map (·.2))=0:=by kernel_rfl
theorem dtQ (A B:Option Addr):dtT (tvQ A B)=tTab:=by
 unfold dtT
 rw [if_pos (tabQ A B)]
 kernel_rfl
theorem works_any (w:World) (he:EnvD w):Calls prog 9 #[] w fun e w'=>e=.returned (.bool true)∧Bl w w':=by
 have HE:=hI0 he
 have KX:Hid (∀W,Bl w W→Calls prog 10 #[.agg #[.int .i64 0,.int .i64 0,.int .i64 0,.int .i64 1,.slice none 0 0,.slice none 0 0,.slice none 0 0,.slice none 0 0,.slice none 0 0,.slice none 0 0]] W fun e w'=>e=.returned (.tuple #[.string (strB tW0),.int .i64 0])∧Bl W w'):=hI0 (fun W hb=>by
  have k:=dtext_any sW0 W (he.below hb) (sW0_is _ _) (sW0_lim _)
  unfold TxOut at k
  rw [txQ,sW0_f] at k
  exact k)
 have hT0:(strB tW0).toList=[98,105,116,101,109,112,111,114,97,108,32,100,117,109,112,32,49,10,115,116,97,116,101,32,48,32,48,32,48,32,49,10,101,110,100,10]:=by rw [ByteArray.toList_eq,bas_s];rfl
 have hTT:(strB tTab).toList=[116,97,98,108,101,32,39,116,39,10,118,101,114,115,105,111,110,32,55,32,48,32,50,32,49,32,39,105,116,39,39,115,39,32,48,32,53,32,49,48,32,49,48,57,57,53,49,49,54,50,55,55,55,54,32,50,32,48,10]:=by rw [ByteArray.toList_eq,bas_s];rfl
 clear he
 go_in
 go_wp2_with fail
 (with_reducible refine (KX.out w (Below.refl _ _)).mono ?_)
 rintro _ w1 ⟨rfl,hb1⟩
 have HB1:=hI0 hb1
 have KP:=hI0 (parse0_any w1 (HE.out.below hb1))
 clear hb1 KX
 generalize strB tW0=S0 at *
 go_wp2_with fail
 (with_reducible refine KP.out.mono ?_)
 rintro _ w2 ⟨rfl,hb2⟩
 have HB2:=bT0 HB1 hb2
 clear hb2 KP HB1
 obtain ⟨W2,hW2⟩:=eN0 (w2.alloc (.cells cZ0 29))
 have hbW2:=bN0 hW2
 have hnW2:=hN0 hW2
 have eW2:w2.alloc (.cells cZ0 29)=W2:=by rw [hW2]
 clear hW2
 have g9:=cW1 9 hnW2 rfl
 have f9:W2.frozen? ⟨w2.heap.size,9,none⟩=false:=fW0 _ _ _ _ _ hnW2
 have g8:=cW1 8 hnW2 rfl
 have f8:W2.frozen? ⟨w2.heap.size,8,none⟩=false:=fW0 _ _ _ _ _ hnW2
 have g7:=cW1 7 hnW2 rfl
 have f7:W2.frozen? ⟨w2.heap.size,7,none⟩=false:=fW0 _ _ _ _ _ hnW2
 have g6:=cW1 6 hnW2 rfl
 have f6:W2.frozen? ⟨w2.heap.size,6,none⟩=false:=fW0 _ _ _ _ _ hnW2
 have g5:=cW1 5 hnW2 rfl
 have f5:W2.frozen? ⟨w2.heap.size,5,none⟩=false:=fW0 _ _ _ _ _ hnW2
 have g4:=cW1 4 hnW2 rfl
 have f4:W2.frozen? ⟨w2.heap.size,4,none⟩=false:=fW0 _ _ _ _ _ hnW2
 have g3:=cW1 3 hnW2 rfl
 have f3:W2.frozen? ⟨w2.heap.size,3,none⟩=false:=fW0 _ _ _ _ _ hnW2
 have g2:=cW1 2 hnW2 rfl
 have f2:W2.frozen? ⟨w2.heap.size,2,none⟩=false:=fW0 _ _ _ _ _ hnW2
 have g1:=cW1 1 hnW2 rfl
 have f1:W2.frozen? ⟨w2.heap.size,1,none⟩=false:=fW0 _ _ _ _ _ hnW2
 have g0:=cW1 0 hnW2 rfl
 have f0:W2.frozen? ⟨w2.heap.size,0,none⟩=false:=fW0 _ _ _ _ _ hnW2
 obtain ⟨W3,hW3⟩:=eN0 (((((((((((W2.setCell ⟨w2.heap.size,0,none⟩ (.int .i64 0)).setCell ⟨w2.heap.size,1,none⟩ (.int .i64 0)).setCell ⟨w2.heap.size,2,none⟩ (.int .i64 0)).setCell ⟨w2.heap.size,3,none⟩ (.int .i64 1)).setCell ⟨w2.heap.size,4,none⟩ (.slice none 0 0)).setCell ⟨w2.heap.size,5,none⟩ (.slice none 0 0)).setCell ⟨w2.heap.size,6,none⟩ (.slice none 0 0)).setCell ⟨w2.heap.size,7,none⟩ (.slice none 0 0)).setCell ⟨w2.heap.size,8,none⟩ (.slice none 0 0)).setCell ⟨w2.heap.size,9,none⟩ (.slice none 0 0)):World)
 have hnW3:W3.heap[w2.heap.size]? =some (.cells #[.int .i64 0,.int .i64 0,.int .i64 0,.int .i64 1,.slice none 0 0,.slice none 0 0,.slice none 0 0,.slice none 0 0,.slice none 0 0,.slice none 0 0] 29 (0,0)):=by rw [hW3];exact dten_set hnW2 (.int .i64 0) (.int .i64 0) (.int .i64 0) (.int .i64 1) (.slice none 0 0) (.slice none 0 0) (.slice none 0 0) (.slice none 0 0) (.slice none 0 0) (.slice none 0 0)
 have hbW3:Bl w2 W3:=by rw [hW3];exact hbW2.trans ((dten_chg W2 w2.heap.size (.int .i64 0) (.int .i64 0) (.int .i64 0) (.int .i64 1) (.slice none 0 0) (.slice none 0 0) (.slice none 0 0) (.slice none 0 0) (.slice none 0 0) (.slice none 0 0)).below (B:=w2.heap.size) hbW2.size (fun i (hi:i=w2.heap.size)=>by omega))
 have eW3:((((((((((W2.setCell ⟨w2.heap.size,0,none⟩ (.int .i64 0)).setCell ⟨w2.heap.size,1,none⟩ (.int .i64 0)).setCell ⟨w2.heap.size,2,none⟩ (.int .i64 0)).setCell ⟨w2.heap.size,3,none⟩ (.int .i64 1)).setCell ⟨w2.heap.size,4,none⟩ (.slice none 0 0)).setCell ⟨w2.heap.size,5,none⟩ (.slice none 0 0)).setCell ⟨w2.heap.size,6,none⟩ (.slice none 0 0)).setCell ⟨w2.heap.size,7,none⟩ (.slice none 0 0)).setCell ⟨w2.heap.size,8,none⟩ (.slice none 0 0)).setCell ⟨w2.heap.size,9,none⟩ (.slice none 0 0))=W3:=by rw [hW3]
 clear hW3
 obtain ⟨W4,hW4⟩:=eN0 (W3.alloc (.cells #[.int .i64 1,.int .i64 1,.string ⟨#[]⟩,.int .i64 2,.int .i64 0,.string ⟨#[105,116,39,115]⟩] 51))
 have hbW4:=bN0 hW4
 have hnW4:=hN0 hW4
 have eW4:W3.alloc (.cells #[.int .i64 1,.int .i64 1,.string ⟨#[]⟩,.int .i64 2,.int .i64 0,.string ⟨#[105,116,39,115]⟩] 51)=W4:=by rw [hW4]
 clear hW4
 obtain ⟨WZ,hWZ⟩:=eN0 (W4.alloc (.cells #[.int .i64 0,.int .i64 0,.slice none 0 0,.int .i64 0,.int .i64 0,.int .i64 0,.int .i64 0,.int .i64 0,.int .i64 0] 56))
 have hbWZ:=bN0 hWZ
 have hnWZ:=hN0 hWZ
 have eWZ:W4.alloc (.cells #[.int .i64 0,.int .i64 0,.slice none 0 0,.int .i64 0,.int .i64 0,.int .i64 0,.int .i64 0,.int .i64 0,.int .i64 0] 56)=WZ:=by rw [hWZ]
 clear hWZ
 have k8:=cW1 8 hnWZ rfl
 have q8:WZ.frozen? ⟨W4.heap.size,8,none⟩=false:=fW0 _ _ _ _ _ hnWZ
 have k7:=cW1 7 hnWZ rfl
 have q7:WZ.frozen? ⟨W4.heap.size,7,none⟩=false:=fW0 _ _ _ _ _ hnWZ
 have k6:=cW1 6 hnWZ rfl
 have q6:WZ.frozen? ⟨W4.heap.size,6,none⟩=false:=fW0 _ _ _ _ _ hnWZ
 have k5:=cW1 5 hnWZ rfl
 have q5:WZ.frozen? ⟨W4.heap.size,5,none⟩=false:=fW0 _ _ _ _ _ hnWZ
 have k4:=cW1 4 hnWZ rfl
 have q4:WZ.frozen? ⟨W4.heap.size,4,none⟩=false:=fW0 _ _ _ _ _ hnWZ
 have k3:=cW1 3 hnWZ rfl
 have q3:WZ.frozen? ⟨W4.heap.size,3,none⟩=false:=fW0 _ _ _ _ _ hnWZ
 have k2:=cW1 2 hnWZ rfl
 have q2:WZ.frozen? ⟨W4.heap.size,2,none⟩=false:=fW0 _ _ _ _ _ hnWZ
 have k1:=cW1 1 hnWZ rfl
 have q1:WZ.frozen? ⟨W4.heap.size,1,none⟩=false:=fW0 _ _ _ _ _ hnWZ
 have k0:=cW1 0 hnWZ rfl
 have q0:WZ.frozen? ⟨W4.heap.size,0,none⟩=false:=fW0 _ _ _ _ _ hnWZ
 obtain ⟨W5,hW5⟩:=eN0 ((((((((((WZ.setCell ⟨W4.heap.size,0,none⟩ (.int .i64 7)).setCell ⟨W4.heap.size,1,none⟩ (.int .i64 0)).setCell ⟨W4.heap.size,2,none⟩ (.slice (some ⟨W3.heap.size,0,none⟩) 2 2)).setCell ⟨W4.heap.size,3,none⟩ (.int .i64 0)).setCell ⟨W4.heap.size,4,none⟩ (.int .i64 5)).setCell ⟨W4.heap.size,5,none⟩ (.int .i64 10)).setCell ⟨W4.heap.size,6,none⟩ (.int .i64 1099511627776)).setCell ⟨W4.heap.size,7,none⟩ (.int .i64 2)).setCell ⟨W4.heap.size,8,none⟩ (.int .i64 0)):World)
 have hnW5:W5.heap[W4.heap.size]? =some (.cells #[.int .i64 7,.int .i64 0,.slice (some ⟨W3.heap.size,0,none⟩) 2 2,.int .i64 0,.int .i64 5,.int .i64 10,.int .i64 1099511627776,.int .i64 2,.int .i64 0] 56 (0,0)):=by rw [hW5];exact dset9 hnWZ (.int .i64 7) (.int .i64 0) (.slice (some ⟨W3.heap.size,0,none⟩) 2 2) (.int .i64 0) (.int .i64 5) (.int .i64 10) (.int .i64 1099511627776) (.int .i64 2) (.int .i64 0)
 have hbW5:Bl W4 W5:=by rw [hW5];exact hbWZ.trans ((dchg9 WZ W4.heap.size (.int .i64 7) (.int .i64 0) (.slice (some ⟨W3.heap.size,0,none⟩) 2 2) (.int .i64 0) (.int .i64 5) (.int .i64 10) (.int .i64 1099511627776) (.int .i64 2) (.int .i64 0)).below (B:=W4.heap.size) hbWZ.size (fun i (hi:i=W4.heap.size)=>by omega))
 have eW5:(((((((((WZ.setCell ⟨W4.heap.size,0,none⟩ (.int .i64 7)).setCell ⟨W4.heap.size,1,none⟩ (.int .i64 0)).setCell ⟨W4.heap.size,2,none⟩ (.slice (some ⟨W3.heap.size,0,none⟩) 2 2)).setCell ⟨W4.heap.size,3,none⟩ (.int .i64 0)).setCell ⟨W4.heap.size,4,none⟩ (.int .i64 5)).setCell ⟨W4.heap.size,5,none⟩ (.int .i64 10)).setCell ⟨W4.heap.size,6,none⟩ (.int .i64 1099511627776)).setCell ⟨W4.heap.size,7,none⟩ (.int .i64 2)).setCell ⟨W4.heap.size,8,none⟩ (.int .i64 0))=W5:=by rw [hW5]
 clear hW5
 obtain ⟨W6,hW6⟩:=eN0 (W5.alloc (.cells #[.int .i64 7,.int .i64 0,.slice (some ⟨W3.heap.size,0,none⟩) 2 2,.int .i64 0,.int .i64 5,.int .i64 10,.int .i64 1099511627776,.int .i64 2,.int .i64 0] 56))
 have hbW6:=bN0 hW6
 have hnW6:=hN0 hW6
 have eW6:W5.alloc (.cells #[.int .i64 7,.int .i64 0,.slice (some ⟨W3.heap.size,0,none⟩) 2 2,.int .i64 0,.int .i64 5,.int .i64 10,.int .i64 1099511627776,.int .i64 2,.int .i64 0] 56)=W6:=by rw [hW6]
 clear hW6
 have HB4:Hid (Bl w W4):=hI0 ((bU0 HB2 hbW3).trans (hbW4.mono (Nat.le_trans HB2.out.size hbW3.size)))
 have HB5:=bT0 HB4 hbW5
 have HB6:=bT0 HB5 hbW6
 have HK3:=hI0 (keepRow hbW6 (keepRow hbW5 (keepRow hbW4 hnW3)))
 have c8:=cW1 8 hnW5 rfl
 have c7:=cW1 7 hnW5 rfl
 have c6:=cW1 6 hnW5 rfl
 have c5:=cW1 5 hnW5 rfl
 have c4:=cW1 4 hnW5 rfl
 have c3:=cW1 3 hnW5 rfl
 have c2:=cW1 2 hnW5 rfl
 have c1:=cW1 1 hnW5 rfl
 have c0:=cW1 0 hnW5 rfl
 have hrow:Rd W6 (ltw W6) 3 (.slice (some ⟨W3.heap.size,0,none⟩) 2 2) 2 [.int .i64 1,.int .i64 1,.string ⟨#[]⟩,.int .i64 2,.int .i64 0,.string ⟨#[105,116,39,115]⟩]:=by
  refine ⟨rfl,_,2,rfl,Nat.le_refl _,by simp only [maxLen];omega,fun h=>(Option.some_ne_none _ h).elim,fun _=>⟨_,rfl,?_,fun j u hu=>?_⟩⟩
  ·show W3.heap.size<W6.heap.size
   have h1:=(Array.getElem?_eq_some_iff.1 hnW4).1
   have h2:=hbW5.size
   have h3:=hbW6.size
   omega
  ·have hadd:(⟨W3.heap.size,0,none⟩:Addr).add j=⟨W3.heap.size,j,none⟩:=by unfold Addr.add;split<;>simp_all
   rw [hadd,cW0 W6 W3.heap.size j _ _ (0,0) (keepRow hbW6 (keepRow hbW5 hnW4))]
   simpa using hu
 have hver:Rd W6 (ltw W6) 9 (.slice (some ⟨W5.heap.size,0,none⟩) 1 1) 1 [.int .i64 7,.int .i64 0,.slice (some ⟨W3.heap.size,0,none⟩) 2 2,.int .i64 0,.int .i64 5,.int .i64 10,.int .i64 1099511627776,.int .i64 2,.int .i64 0]:=by
  refine ⟨rfl,_,1,rfl,Nat.le_refl _,by simp only [maxLen];omega,fun h=>(Option.some_ne_none _ h).elim,fun _=>⟨_,rfl,?_,fun j u hu=>?_⟩⟩
  ·exact (Array.getElem?_eq_some_iff.1 hnW6).1
  ·have hadd:(⟨W5.heap.size,0,none⟩:Addr).add j=⟨W5.heap.size,j,none⟩:=by unfold Addr.add;split<;>simp_all
   rw [hadd,cW0 W6 W5.heap.size j _ _ (0,0) hnW6]
   simpa using hu
 have his:(tvQ (some ⟨W3.heap.size,0,none⟩) (some ⟨W5.heap.size,0,none⟩)).is W6 (ltw W6):=by
  refine ⟨hver,fun p hp=>?_⟩
  obtain rfl:=List.mem_singleton.1 hp
  refine ⟨rfl,rfl,rfl,rfl,rfl,rfl,rfl,rfl,hrow,fun v hv=>?_⟩
  simp only [verQ,rowQ,List.mem_cons,List.not_mem_nil,or_false] at hv
  rcases hv with rfl|rfl<;>exact ⟨by decide,by decide,by decide⟩
 have KD:Hid (Calls prog 13 #[.agg #[.string ⟨#[116]⟩,.slice (some ⟨W5.heap.size,0,none⟩) 1 1]] W6 fun e w'=>e=.returned (.tuple #[.string (strB tTab),.int .i64 0])∧Bl W6 w'):=hI0 (by
  have k:=dtable_any _ W6 (HE.out.below HB6.out) his (Nat.le_of_ble_eq_true rfl)
  unfold DtOut at k
  rw [dtQ,tabQ] at k
  exact k)
 clear hrow hver his hbW2 hnW2 hbWZ hnWZ hbW3 hnW3 hbW4 hnW4 hbW5 hnW5 hbW6 hnW6
 go_wp2_with fail
 clear c0 c1 c2 c3 c4 c5 c6 c7 c8 g0 g1 g2 g3 g4 g5 g6 g7 g8 g9 f0 f1 f2 f3 f4 f5 f6 f7 f8 f9 k0 k1 k2 k3 k4 k5 k6 k7 k8 q0 q1 q2 q3 q4 q5 q6 q7 q8
 (with_reducible refine KD.out.mono ?_)
 rintro _ w7 ⟨rfl,hb7⟩
 have HB7:=bT0 HB6 hb7
 have k3:=keepRow hb7 HK3.out
 have c3:=cW1 3 k3 rfl
 clear k3 hb7 KD
 generalize strB tTab=S7 at *
 go_wp2_with fail
 go_ret
 exact ⟨rfl,HB7.out⟩
end Go.Proofs.YtgfhknnklapldaaGreatDoor
