/-
 DuP
-/
import Derived.Test.YtgfhknnklapldaaGreatDoorBDuO
import Derived.Test.YtgfhknnklapldaaGreatDoorBSt2
import Derived.Test.YtgfhknnklapldaaGreatDoorBDuI
namespace Go.Proofs.YtgfhknnklapldaaGreatDoor
open Go.Proofs.Tryz
set_option maxRecDepth 99999
set_option maxHeartbeats 0
open Go.RowKit Go.Lib Go.IntWalk Go.Sort Go.Shelf
theorem dten_set {w:World} {T:Nat} {a0 a1 a2 a3 a4 a5 a6 a7 a8 a9:Value} {e:TypeId} (h:w.heap[T]? =some (.cells #[a0,a1,a2,a3,a4,a5,a6,a7,a8,a9] e (0,0))) (c0 c1 c2 c3 c4 c5 c6 c7 c8 c9:Value):
  ((((((((((w.setCell ⟨T,0,none⟩ c0).setCell ⟨T,1,none⟩ c1).setCell ⟨T,2,none⟩ c2).setCell ⟨T,3,none⟩ c3).setCell ⟨T,4,none⟩ c4).setCell ⟨T,5,none⟩ c5).setCell ⟨T,6,none⟩ c6).setCell ⟨T,7,none⟩ c7).setCell ⟨T,8,none⟩ c8).setCell ⟨T,9,none⟩ c9).heap[T]? =some (.cells #[c0,c1,c2,c3,c4,c5,c6,c7,c8,c9] e (0,0)):=by
 have h0:=heap_setCell_same w T 0 _ _ c0 h
 have h1:=heap_setCell_same _ T 1 _ _ c1 h0
 have h2:=heap_setCell_same _ T 2 _ _ c2 h1
 have h3:=heap_setCell_same _ T 3 _ _ c3 h2
 have h4:=heap_setCell_same _ T 4 _ _ c4 h3
 have h5:=heap_setCell_same _ T 5 _ _ c5 h4
 have h6:=heap_setCell_same _ T 6 _ _ c6 h5
 have h7:=heap_setCell_same _ T 7 _ _ c7 h6
 have h8:=heap_setCell_same _ T 8 _ _ c8 h7
 have h9:=heap_setCell_same _ T 9 _ _ c9 h8
 simpa using h9
theorem dten_chg (w:World) (T:Nat) (c0 c1 c2 c3 c4 c5 c6 c7 c8 c9:Value):Chg (·=T) w ((((((((((w.setCell ⟨T,0,none⟩ c0).setCell ⟨T,1,none⟩ c1).setCell ⟨T,2,none⟩ c2).setCell ⟨T,3,none⟩ c3).setCell ⟨T,4,none⟩ c4).setCell ⟨T,5,none⟩ c5).setCell ⟨T,6,none⟩ c6).setCell ⟨T,7,none⟩ c7).setCell ⟨T,8,none⟩ c8).setCell ⟨T,9,none⟩ c9):=
 ((((((((((Chg.refl (·=T) w).setCell (p:=⟨T,0,none⟩) (.inl rfl) c0).setCell (p:=⟨T,1,none⟩) (.inl rfl) c1).setCell (p:=⟨T,2,none⟩) (.inl rfl) c2).setCell (p:=⟨T,3,none⟩) (.inl rfl) c3).setCell (p:=⟨T,4,none⟩) (.inl rfl) c4).setCell (p:=⟨T,5,none⟩) (.inl rfl) c5).setCell (p:=⟨T,6,none⟩) (.inl rfl) c6).setCell (p:=⟨T,7,none⟩) (.inl rfl) c7).setCell (p:=⟨T,8,none⟩) (.inl rfl) c8).setCell (p:=⟨T,9,none⟩) (.inl rfl) c9
theorem tok_end:tokI wEnd (0,false)=(wEnd,3,false):=by rfl
theorem rank_end:rankV wEnd=8:=by decide
theorem bodyend_any (b:Nat) (S:ByteArray) (i:Nat) (d:Bool) (r:List Value) (w:World) (h:CurAt w b S i d r):
  Calls prog 38 #[.pointer (some ⟨b,0,none⟩),.string (strB wEnd),.int .i64 0] w fun e w'=>e=.returned (.int .i64 8)∧CurTo b (strB wEnd) (3,false) r w w':=by
 have hbw:=h.lt
 have c2:=cW1 2 h rfl
 have c1:=cW1 1 h rfl
 have c0:=cW1 0 h rfl
 have f0:w.frozen? ⟨b,0,none⟩=false:=fW0 _ _ _ _ _ h
 have f1:w.frozen? ⟨b,1,none⟩=false:=fW0 _ _ _ _ _ h
 have f2:w.frozen? ⟨b,2,none⟩=false:=fW0 _ _ _ _ _ h
 have HC0:=hI0 (chg_line w b (.string (strB wEnd)) (.int .i64 0) (.bool false))
 have KT0:=token_any b wEnd 0 false _ _ (h.line (strB wEnd)) (Nat.zero_le _) (by decide)
 rw [tok_end] at KT0
 have KT:Hid (Calls prog 92 #[.pointer (some ⟨b,0,none⟩)] (((w.setCell ⟨b,0,none⟩ (.string (strB wEnd))).setCell ⟨b,1,none⟩ (.int .i64 0)).setCell ⟨b,2,none⟩ (.bool false)) fun e w'=>e=.returned (.string (strB wEnd))∧CurTo b (strB wEnd) (3,false) r (((w.setCell ⟨b,0,none⟩ (.string (strB wEnd))).setCell ⟨b,1,none⟩ (.int .i64 0)).setCell ⟨b,2,none⟩ (.bool false)) w'):=hI0 KT0
 have KR:Hid (∀W,Calls prog 94 #[.string (strB wEnd)] W fun e w'=>e=.returned (.int .i64 8)∧Bl W w'):=hI0 (fun W=>by
  have k:=rank_any wEnd W
  rw [rank_end] at k
  exact k)
 have hsz:(strB wEnd).size=3:=rfl
 obtain ⟨S3,hS3⟩:=eN0 (strB wEnd)
 rw [←hS3] at KT KR HC0 hsz ⊢
 clear h KT0 hS3
 go_in
 go_wp2_with fail
 clear c0 c1 c2 f0 f1 f2
 (with_reducible refine KT.out.mono ?_)
 rintro _ w1 ⟨rfl,hx1,hc1⟩
 have HX1:=hI0 hx1
 have HC1:=hI0 (HC0.out.trans hc1 (fun _ _ h=>h))
 clear hx1 hc1 KT HC0
 go_wp2_with fail
 (with_reducible refine (KR.out w1).mono ?_)
 rintro _ w2 ⟨rfl,hb2⟩
 have HX2:=hI0 (HX1.out.below hb2)
 have HC2:=hI0 (HC1.out.then_below hb2)
 have c2:=cW1 2 HX2.out rfl
 have c1:=cW1 1 HX2.out rfl
 clear hb2 KR
 go_wp2_with fail
 go_ret
 exact ⟨rfl,HX2.out,HC2.out⟩
theorem cutC (s l r:List UInt8) (q:Bool) (w:World) (he:EnvD w) (hs:s.length<4294967281) (h:Lib.cut s [10]=(l,r,q)):
  Calls prog 36 #[.string (strB s),.string ⟨#[10]⟩] w fun e w'=>e=.returned (.tuple #[.string (strB l),.string (strB r),.bool q])∧Bl w w':=by
 obtain ⟨m,hm⟩:=he.ml
 refine (strings_Cut (strB s) ⟨#[10]⟩ m w (by rw [strB_size];exact hs) hm).mono ?_
 rintro e w' ⟨rfl,n,rfl⟩
 rw [bas_s,show (⟨#[10]⟩:ByteArray).data.toList=[10] from rfl,h]
 exact ⟨rfl,below_drewN (Below.refl _ _) _⟩
def tW0:List UInt8:=[98,105,116,101,109,112,111,114,97,108,32,100,117,109,112,32,49,10,115,116,97,116,101,32,48,32,48,32,48,32,49,10,101,110,100,10]
def tW1:List UInt8:=[115,116,97,116,101,32,48,32,48,32,48,32,49,10,101,110,100,10]
def tW2:List UInt8:=[101,110,100,10]
def lW2:List UInt8:=[115,116,97,116,101,32,48,32,48,32,48,32,49]
theorem cut0:Lib.cut tW0 [10]=(wTitle,tW1,true):=by kernel_rfl
theorem cut1:Lib.cut tW1 [10]=(lW2,tW2,true):=by kernel_rfl
theorem cut2:Lib.cut tW2 [10]=(wEnd,[],true):=by kernel_rfl
theorem secT0:secT lW2=(wState,5,false):=by kernel_rfl
theorem sec10:sec1 lW2=(0,7,false):=by kernel_rfl
theorem sec20:sec2 lW2=(0,9,false):=by kernel_rfl
theorem sec30:sec3 lW2=(0,11,false):=by kernel_rfl
theorem sec40:sec4 lW2=(1,13,false):=by kernel_rfl
theorem secB0:secB lW2=true:=by
 unfold secB
 rw [secT0,sec40]
 rfl
def sW0:RSt:=⟨0,0,0,1,none,0,[],none,0,[],none,0,[],none,0,[],none,0,[],none,0,[]⟩
theorem sW0_f:stateF sW0=0:=by kernel_rfl
theorem nilE {α:Type} (n:Nat) (f:α→List Value) (w:World) (F:Nat→Prop):RdE n f w F (.slice none 0 0) []:=⟨by simp,none,0,rfl,Nat.le_refl _,Nat.zero_le _,fun _=>rfl,fun h=>absurd h (Nat.lt_irrefl 0)⟩
theorem sW0_is (w:World) (F:Nat→Prop):sW0.is w F:=
 ⟨nilE _ _ _ _,fun _ h=>absurd h List.not_mem_nil,nilE _ _ _ _,nilE _ _ _ _,fun _ h=>absurd h List.not_mem_nil,nilE _ _ _ _,nilE _ _ _ _,nilE _ _ _ _⟩
theorem sW0_lim (w:World):sW0.lim w:=by
 constructor
 all_goals first
  |(intro x hx;exact absurd hx List.not_mem_nil)
  |decide
theorem parse0_any (w:World) (he:EnvD w):Calls prog 15 #[.string (strB tW0)] w fun e w'=>e=.returned (.tuple #[.agg #[.int .i64 0,.int .i64 0,.int .i64 0,.int .i64 1,.slice none 0 0,.slice none 0 0,.slice none 0 0,.slice none 0 0,.slice none 0 0,.slice none 0 0],.int .i64 0,.int .i64 0])∧Bl w w':=by
 obtain ⟨W1,hW1⟩:=eN0 (w.alloc (.cells cZ0 29))
 have hbW1:=bN0 hW1
 have hnW1:=hN0 hW1
 have eW1:w.alloc (.cells cZ0 29)=W1:=by rw [hW1]
 clear hW1
 obtain ⟨W2,hW2⟩:=eN0 (W1.alloc (.cells #[.string ⟨#[]⟩,.int .i64 0,.bool false,.int .i64 0,.int .i64 0,.int .i64 0,.int .i64 0,.slice none 0 0,.slice none 0 0,.slice none 0 0,.slice none 0 0,.slice none 0 0,.slice none 0 0] 104))
 have hbW2:=bN0 hW2
 have hnW2:=hN0 hW2
 have eW2:W1.alloc (.cells #[.string ⟨#[]⟩,.int .i64 0,.bool false,.int .i64 0,.int .i64 0,.int .i64 0,.int .i64 0,.slice none 0 0,.slice none 0 0,.slice none 0 0,.slice none 0 0,.slice none 0 0,.slice none 0 0] 104)=W2:=by rw [hW2]
 clear hW2
 have HB1:=hI0 hbW1
 have HB2:Hid (Bl w W2):=hI0 (hbW1.trans (hbW2.mono hbW1.size))
 have HR2:=hI0 (keepRow hbW2 hnW1)
 have HE2:Hid (EnvP W1.heap.size W2):=hI0 ⟨w,he,hbW1.size,HB2.out⟩
 have HC2:Hid (CurAt W2 W1.heap.size ⟨#[]⟩ 0 false [.int .i64 0,.int .i64 0,.int .i64 0,.int .i64 0,.slice none 0 0,.slice none 0 0,.slice none 0 0,.slice none 0 0,.slice none 0 0,.slice none 0 0]):=hI0 hnW2
 have hlt:w.heap.size<W1.heap.size:=(Array.getElem?_eq_some_iff.1 hnW1).1
 have hl2:W1.heap.size<W2.heap.size:=(Array.getElem?_eq_some_iff.1 hnW2).1
 have HLT:=hI0 (And.intro hlt hl2)
 have hT:(strB wTitle).toList=[98,105,116,101,109,112,111,114,97,108,32,100,117,109,112,32,49]:=by rw [ByteArray.toList_eq,bas_s];rfl
 have hN:(strB []).toList=[]:=by rw [ByteArray.toList_eq,bas_s]
 clear hbW1 hnW1 hbW2 hnW2 hlt hl2
 go_in
 go_wp2_with fail
 clear eW1 eW2
 go_loopw [0,6,7] (fun s p n wr=>((s=.string (strB tW0)∧p=.int .i64 0∧n=.int .i64 1∧Hid (∃S i d,CurAt wr W1.heap.size S i d [.int .i64 0,.int .i64 0,.int .i64 0,.int .i64 0,.slice none 0 0,.slice none 0 0,.slice none 0 0,.slice none 0 0,.slice none 0 0,.slice none 0 0]))∨(s=.string (strB tW1)∧p=.int .i64 0∧n=.int .i64 2∧Hid (∃S i d,CurAt wr W1.heap.size S i d [.int .i64 0,.int .i64 0,.int .i64 0,.int .i64 0,.slice none 0 0,.slice none 0 0,.slice none 0 0,.slice none 0 0,.slice none 0 0,.slice none 0 0]))∨(s=.string (strB tW2)∧p=.int .i64 0∧n=.int .i64 3∧Hid (∃S i d,CurAt wr W1.heap.size S i d [.int .i64 0,.int .i64 0,.int .i64 0,.int .i64 1,.slice none 0 0,.slice none 0 0,.slice none 0 0,.slice none 0 0,.slice none 0 0,.slice none 0 0]))∨(s=.string (strB ([]:List UInt8))∧p=.int .i64 8∧n=.int .i64 4∧Hid (∃S i d,CurAt wr W1.heap.size S i d [.int .i64 0,.int .i64 0,.int .i64 0,.int .i64 1,.slice none 0 0,.slice none 0 0,.slice none 0 0,.slice none 0 0,.slice none 0 0,.slice none 0 0])))∧Hid (Chg (·=W1.heap.size) W2 wr)) (fun _ _ n _=>4-(intOf n).toNat)
 case atStart=>exact ⟨.inl ⟨rfl,rfl,rfl,hI0 ⟨_,_,_,HC2.out⟩⟩,hI0 (Chg.refl _ _)⟩
 obtain ⟨hq,HC⟩:=hrel
 obtain ⟨wi,rfl⟩:=eN0 wr
 have HEw:=hI0 (HE2.out.chg HC.out (Nat.le_of_lt HLT.out.2))
 rcases hq with ⟨rfl,rfl,rfl,HCU⟩|⟨rfl,rfl,rfl,HCU⟩|⟨rfl,rfl,rfl,HCU⟩|⟨rfl,rfl,rfl,HCU⟩
 ·obtain ⟨S,i,d,hx⟩:=HCU.out
  have HX:=hI0 hx
  have KC:=hI0 (cutC tW0 wTitle tW1 true wi HEw.out.now (by decide) cut0)
  clear hx HCU
  go_wp2_with fail
  (with_reducible refine KC.out.mono ?_)
  rintro _ w3 ⟨rfl,hb3⟩
  have HX3:=hI0 (HX.out.below hb3)
  have HC3:=hI0 (HC.out.then_below hb3)
  clear KC hb3 HX
  generalize strB wTitle=S1 at *
  go_wp2_with fail
  go_roundw
  case rel=>exact ⟨.inr (.inl ⟨rfl,rfl,rfl,hI0 ⟨_,_,_,HX3.out⟩⟩),HC3⟩
  case measure=>simp [intOf]
 ·obtain ⟨S,i,d,hx⟩:=HCU.out
  have HX:=hI0 hx
  have KC:=hI0 (cutC tW1 lW2 tW2 true wi HEw.out.now (by decide) cut1)
  clear hx HCU
  go_wp2_with fail
  (with_reducible refine KC.out.mono ?_)
  rintro _ w3 ⟨rfl,hb3⟩
  have HX3:=hI0 (HX.out.below hb3)
  have HC3:=hI0 (HC.out.then_below hb3)
  clear KC hb3 HX
  have KS:=second_any W1.heap.size lW2 _ _ _ _ _ _ _ _ w3 (HE2.out.chg HC3.out (Nat.le_of_lt HLT.out.2)) HX3.out (by decide)
  rw [secB0,sec10,sec20,sec30,sec40] at KS
  have KS2:=hI0 KS
  clear KS
  generalize strB lW2=S1 at *
  go_wp2_with fail
  (with_reducible refine KS2.out.mono ?_)
  rintro _ w4 ⟨rfl,hx4,hc4⟩
  have HX4:=hI0 hx4
  have HC4:=hI0 (HC3.out.trans hc4 (fun _ _ h=>h))
  clear KS2 hx4 hc4
  go_wp2_with fail
  go_roundw
  case rel=>exact ⟨.inr (.inr (.inl ⟨rfl,rfl,rfl,hI0 ⟨_,_,_,HX4.out⟩⟩)),HC4⟩
  case measure=>simp [intOf]
 ·obtain ⟨S,i,d,hx⟩:=HCU.out
  have HX:=hI0 hx
  have KC:=hI0 (cutC tW2 wEnd [] true wi HEw.out.now (by decide) cut2)
  clear hx HCU
  go_wp2_with fail
  (with_reducible refine KC.out.mono ?_)
  rintro _ w3 ⟨rfl,hb3⟩
  have HX3:=hI0 (HX.out.below hb3)
  have HC3:=hI0 (HC.out.then_below hb3)
  clear KC hb3 HX
  have KS:=hI0 (bodyend_any W1.heap.size _ _ _ _ w3 HX3.out)
  generalize strB wEnd=S1 at *
  go_wp2_with fail
  (with_reducible refine KS.out.mono ?_)
  rintro _ w4 ⟨rfl,hx4,hc4⟩
  have HX4:=hI0 hx4
  have HC4:=hI0 (HC3.out.trans hc4 (fun _ _ h=>h))
  clear KS hx4 hc4
  go_wp2_with fail
  go_roundw
  case rel=>exact ⟨.inr (.inr (.inr (⟨rfl,rfl,rfl,hI0 ⟨_,_,_,HX4.out⟩⟩))),HC4⟩
  case measure=>simp [intOf]
 ·obtain ⟨S,i,d,hx⟩:=HCU.out
  have HX:=hI0 hx
  clear HCU
  have c12:=cW1 12 HX.out rfl
  have c11:=cW1 11 HX.out rfl
  have c10:=cW1 10 HX.out rfl
  have c9:=cW1 9 HX.out rfl
  have c8:=cW1 8 HX.out rfl
  have c7:=cW1 7 HX.out rfl
  have c6:=cW1 6 HX.out rfl
  have c5:=cW1 5 HX.out rfl
  have c4:=cW1 4 HX.out rfl
  have c3:=cW1 3 HX.out rfl
  have KE:Hid (Calls prog 20 #[.agg #[.int .i64 0,.int .i64 0,.int .i64 0,.int .i64 1,.slice none 0 0,.slice none 0 0,.slice none 0 0,.slice none 0 0,.slice none 0 0,.slice none 0 0]] wi fun e w'=>∃u,e=.returned (.tuple #[u,.int .i64 0])∧Bl wi w'):=hI0 ((recEncodeState_any sW0 wi (sW0_is _ _) (sW0_lim _)).mono fun e w' ⟨u,h1,_,h3,_⟩=>⟨u,by rw [h1,sW0_f],h3⟩)
  clear hx
  go_wp2_with fail
  clear c3 c4 c5 c6 c7 c8 c9 c10 c11 c12
  (with_reducible refine KE.out.mono ?_)
  rintro _ w4 ⟨u,rfl,hb4⟩
  have HX4:=hI0 (HX.out.below hb4)
  have HC4:=hI0 (HC.out.then_below hb4)
  have HR4:Hid (w4.heap[w.heap.size]? =some (.cells cZ0 29 (0,0))):=hI0 ((HC4.out.block _ (by have:=HLT.out;omega) (fun e=>by have:=HLT.out;omega)).trans HR2.out)
  clear KE hb4
  have c12:=cW1 12 HX4.out rfl
  have c11:=cW1 11 HX4.out rfl
  have c10:=cW1 10 HX4.out rfl
  have c9:=cW1 9 HX4.out rfl
  have c8:=cW1 8 HX4.out rfl
  have c7:=cW1 7 HX4.out rfl
  have c6:=cW1 6 HX4.out rfl
  have c5:=cW1 5 HX4.out rfl
  have c4:=cW1 4 HX4.out rfl
  have c3:=cW1 3 HX4.out rfl
  have g9:=cW1 9 HR4.out rfl
  have f9:w4.frozen? ⟨w.heap.size,9,none⟩=false:=fW0 _ _ _ _ _ HR4.out
  have g8:=cW1 8 HR4.out rfl
  have f8:w4.frozen? ⟨w.heap.size,8,none⟩=false:=fW0 _ _ _ _ _ HR4.out
  have g7:=cW1 7 HR4.out rfl
  have f7:w4.frozen? ⟨w.heap.size,7,none⟩=false:=fW0 _ _ _ _ _ HR4.out
  have g6:=cW1 6 HR4.out rfl
  have f6:w4.frozen? ⟨w.heap.size,6,none⟩=false:=fW0 _ _ _ _ _ HR4.out
  have g5:=cW1 5 HR4.out rfl
  have f5:w4.frozen? ⟨w.heap.size,5,none⟩=false:=fW0 _ _ _ _ _ HR4.out
  have g4:=cW1 4 HR4.out rfl
  have f4:w4.frozen? ⟨w.heap.size,4,none⟩=false:=fW0 _ _ _ _ _ HR4.out
  have g3:=cW1 3 HR4.out rfl
  have f3:w4.frozen? ⟨w.heap.size,3,none⟩=false:=fW0 _ _ _ _ _ HR4.out
  have g2:=cW1 2 HR4.out rfl
  have f2:w4.frozen? ⟨w.heap.size,2,none⟩=false:=fW0 _ _ _ _ _ HR4.out
  have g1:=cW1 1 HR4.out rfl
  have f1:w4.frozen? ⟨w.heap.size,1,none⟩=false:=fW0 _ _ _ _ _ HR4.out
  have g0:=cW1 0 HR4.out rfl
  have f0:w4.frozen? ⟨w.heap.size,0,none⟩=false:=fW0 _ _ _ _ _ HR4.out
  have HF:=hI0 (dten_set HR4.out (.int .i64 0) (.int .i64 0) (.int .i64 0) (.int .i64 1) (.slice none 0 0) (.slice none 0 0) (.slice none 0 0) (.slice none 0 0) (.slice none 0 0) (.slice none 0 0))
  have HFB:Hid (Bl w ((((((((((w4.setCell ⟨w.heap.size,0,none⟩ (.int .i64 0)).setCell ⟨w.heap.size,1,none⟩ (.int .i64 0)).setCell ⟨w.heap.size,2,none⟩ (.int .i64 0)).setCell ⟨w.heap.size,3,none⟩ (.int .i64 1)).setCell ⟨w.heap.size,4,none⟩ (.slice none 0 0)).setCell ⟨w.heap.size,5,none⟩ (.slice none 0 0)).setCell ⟨w.heap.size,6,none⟩ (.slice none 0 0)).setCell ⟨w.heap.size,7,none⟩ (.slice none 0 0)).setCell ⟨w.heap.size,8,none⟩ (.slice none 0 0)).setCell ⟨w.heap.size,9,none⟩ (.slice none 0 0))):=hI0 ((HB2.out.trans (HC4.out.below (B:=w.heap.size) HB2.out.size (fun i (hi:i=W1.heap.size)=>by have:=HLT.out;omega))).trans ((dten_chg w4 w.heap.size (.int .i64 0) (.int .i64 0) (.int .i64 0) (.int .i64 1) (.slice none 0 0) (.slice none 0 0) (.slice none 0 0) (.slice none 0 0) (.slice none 0 0) (.slice none 0 0)).below (B:=w.heap.size) (by have:=HC4.out.size;have:=HB2.out.size;omega) (fun i (hi:i=w.heap.size)=>by omega)))
  go_wp2_with fail
  generalize ((((((((((w4.setCell ⟨w.heap.size,0,none⟩ (.int .i64 0)).setCell ⟨w.heap.size,1,none⟩ (.int .i64 0)).setCell ⟨w.heap.size,2,none⟩ (.int .i64 0)).setCell ⟨w.heap.size,3,none⟩ (.int .i64 1)).setCell ⟨w.heap.size,4,none⟩ (.slice none 0 0)).setCell ⟨w.heap.size,5,none⟩ (.slice none 0 0)).setCell ⟨w.heap.size,6,none⟩ (.slice none 0 0)).setCell ⟨w.heap.size,7,none⟩ (.slice none 0 0)).setCell ⟨w.heap.size,8,none⟩ (.slice none 0 0)).setCell ⟨w.heap.size,9,none⟩ (.slice none 0 0))=Z at *
  obtain ⟨y0,y1,y2,y3,y4,y5,y6,y7,y8,y9⟩:=cX10 HF.out
  exact bodyPost_ret (v:=.tuple #[.agg #[.int .i64 0,.int .i64 0,.int .i64 0,.int .i64 1,.slice none 0 0,.slice none 0 0,.slice none 0 0,.slice none 0 0,.slice none 0 0,.slice none 0 0],.int .i64 0,.int .i64 0]) (by simp [results,results15,go_sem,y0,y1,y2,y3,y4,y5,y6,y7,y8,y9]) rfl ⟨rfl,HFB.out⟩
end Go.Proofs.YtgfhknnklapldaaGreatDoor
