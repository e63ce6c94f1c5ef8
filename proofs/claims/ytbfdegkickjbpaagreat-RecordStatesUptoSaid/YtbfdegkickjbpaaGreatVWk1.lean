/-
 Wk1
-/
import Derived.Test.YtbfdegkickjbpaaGreatVRc3
import Derived.Test.YtbfdegkickjbpaaGreatVSeg1
namespace Go.Proofs.YtbfdegkickjbpaaGreat
open Tryz
set_option maxRecDepth 99999
set_option maxHeartbeats 0
open Go.RowKit Go.Lib Go.IntWalk Go.Sort Go.Shelf
theorem zq2 {P:Prop} (i:Nat) (h:Tg i→P:=by
 intro zT2
 first
  |guard_hyp zT2:Tg 2;obtain ⟨W,hW⟩:=eN0 (w.alloc (.cells #[.int .i64 1,.int .i64 5,.int .i64 5,.int .i64 1,.slice none 0 0,.slice none 0 0,.slice none 0 0,.slice none 0 0,.slice none 0 0,.slice none 0 0] 29))
  |guard_hyp zT2:Tg 1;obtain ⟨W,hW⟩:=eN0 (w.alloc (.cells #[.int .i64 1,.int .i64 5,.int .i64 5,.int .i64 1,.slice none 0 0,.slice (some ⟨D,0,none⟩) 1 1,.slice none 0 0,.slice none 0 0,.slice none 0 0,.slice none 0 0] 29))
  |show Calls prog 24 #[.agg #[.int .i64 c.tx,.int .i64 c.time,.int .i64 c.wall,.int .i64 c.next,.slice c.eA c.ents.length c.eC,.slice c.sA c.stms.length c.sC,.slice c.tA c.tabs.length c.tC,.slice c.pA c.pla.length c.pC,.slice c.qA c.pol.length c.qC,.slice c.hA c.hor.length c.hC]] w (EncSO c w)
   obtain ⟨W,hW⟩:=eN0 (w.alloc (.cells #[.int .i64 c.tx,.int .i64 c.time,.int .i64 c.wall,.int .i64 c.next,.slice c.eA c.ents.length c.eC,.slice c.sA c.stms.length c.sC,.slice c.tA c.tabs.length c.tC,.slice c.pA c.pla.length c.pC,.slice c.qA c.pol.length c.qC,.slice c.hA c.hor.length c.hC] 47))
 have hbW:=bN0 hW
 have hWs:w.heap.size<W.heap.size:=by rw [hW];simp
 have hT:=hN0 hW
 have HBW:=hI0 hbW
 have HWS:=hI0 hWs
 have HT:=hI0 hT
 first
  |guard_hyp zT2:Tg 2;have KC:=chkNilX W
  |guard_hyp zT2:Tg 1;have hDl:=(Array.getElem?_eq_some_iff.1 hD).1
   have hOl:=(Array.getElem?_eq_some_iff.1 hO).1
   have hxW:RdV W (ltw W) (.slice (some ⟨R,0,none⟩) 1 1) xs7v:=(Rd.keep hx (Keeps.below hbW)).wide (fun b (hb:b<w.heap.size)=>by show b<W.heap.size;omega)
   have KC:=chkOpenX D O R W ((hbW.block D hDl).trans hD) ((hbW.block O hOl).trans hO) hxW xs7v_go
   have HF:=hI0 (And.intro hDl (And.intro hOl (And.intro hD (And.intro hO hx))))
   clear hDl hOl hxW hD hO hx
  |have KC0:Calls prog 104 #[.agg #[.int .i64 c.tx,.int .i64 c.time,.int .i64 c.wall,.int .i64 c.next,.slice c.eA c.ents.length c.eC,.slice c.sA c.stms.length c.sC,.slice c.tA c.tabs.length c.tC,.slice c.pA c.pla.length c.pC,.slice c.qA c.pol.length c.qC,.slice c.hA c.hor.length c.hC]] W _:=checkState_any c W (hc.below hbW)
   obtain ⟨k,hk⟩:=eN0 (stateF c)
   rw [←hk] at KC0
   have HC:=hI0 (hc.below hbW)
   have HL:=hI0 hl
   have HK:=hI0 hk
   obtain ⟨z1,z2⟩:=hc.ents.bd
   obtain ⟨z3,z4⟩:=hc.stms.bd
   obtain ⟨z5,z6⟩:=hc.pla.bd
   obtain ⟨z7,z8⟩:=hc.tabs.bd
   obtain ⟨z9,z10⟩:=hc.pol.bd
   obtain ⟨z11,z12⟩:=hc.hor.bd
 obtain ⟨c0,c1,c2,c3,c4,c5,c6,c7,c8,c9⟩:=cX10 hT
 first
  |guard_hyp zT2:Tg 0;clear hbW hWs hT hc hl hk
   by_cases h0:k=0
   case neg=>
    go_in
    go_wp2_with fail
    rw [←hW]
    clear hW
    (with_reducible refine KC0.mono ?_)
    rintro _ w1 ⟨rfl,hb1⟩
    have HB1:=bT0 HBW hb1
    clear hb1 KC0 c0 c1 c2 c3 c4 c5 c6 c7 c8 c9
    go_wp2_with fail
    go_ret2
    refine ⟨.slice none 0 0,by rw [←HK.out]<;>rfl,?_,HB1.out,fun h=>absurd (HK.out.trans h) h0⟩
    rw [show outS c=[] from if_neg (fun h=>h0 (HK.out.trans h))]
    exact Rd.nil _ _ _
   have KC:Calls prog 104 #[.agg #[.int .i64 c.tx,.int .i64 c.time,.int .i64 c.wall,.int .i64 c.next,.slice c.eA c.ents.length c.eC,.slice c.sA c.stms.length c.sC,.slice c.tA c.tabs.length c.tC,.slice c.pA c.pla.length c.pC,.slice c.qA c.pol.length c.qC,.slice c.hA c.hor.length c.hC]] W fun e w'=>e=.returned (.int .i64 0)∧Bl W w':=by rw [h0] at KC0;exact KC0
   have HK0:Hid (stateF c=0):=hI0 (by rw [←HK.out];exact h0)
   obtain ⟨f,f0,f1,f2,f3,f4⟩:∃f:Nat→List UInt8,f 0=[]∧f 1=f 0++encI c.tx∧f 2=f 1++encI c.time∧f 3=f 2++encI c.wall∧f 4=f 3++encI c.next:=⟨fun k=>([c.tx,c.time,c.wall,c.next].take k).flatMap encI,by simp,by simp,by simp,by simp,by simp⟩
   have HF:=hI0 (And.intro f0 (And.intro f1 (And.intro f2 (And.intro f3 f4))))
   have i1:=encI_length c.tx
   have i2:=encI_length c.time
   have i3:=encI_length c.wall
   have i4:=encI_length c.next
   have n0:(f 0).length=0:=by rw [f0];rfl
   have n1:(f 1).length≤10:=by rw [f1,List.length_append];omega
   have n2:(f 2).length≤20:=by rw [f2,List.length_append];omega
   have n3:(f 3).length≤30:=by rw [f3,List.length_append];omega
   have HN:=hI0 (And.intro n0 (And.intro n1 (And.intro n2 n3)))
   clear KC0 h0 f0 f1 f2 f3 f4 i1 i2 i3 i4 n0 n1 n2 n3
  |clear hbW hWs hT
 go_in
 go_wp2_with fail
 rw [←hW]
 clear hW
 (with_reducible refine KC.mono ?_)
 rintro _ w1 ⟨rfl,hb1⟩
 have HB1:=bT0 HBW hb1
 have hT1:=(hb1.block w.heap.size HWS.out).trans HT.out
 have hwB:w.heap.size<w1.heap.size:=by have:=hb1.size;have:=HWS.out;omega
 first
  |done
  |guard_hyp zT2:Tg 0;have hi1:=HC.out.below hb1
   have hcw:=st_W HK0.out hi1 HL.out
   have hcr:stR w1 w1.heap.size c:=⟨hi1.ents,hi1.stms,hi1.tabs,hi1.pla,hi1.pol,hi1.hor⟩
   clear hi1
  |skip
 clear hb1 KC c0 c1 c2 c3 c4 c5 c6 c7 c8 c9
 obtain ⟨B,hBe⟩:=eN0 w1.heap.size
 obtain ⟨W2,hW2⟩:=eN0 (w1.alloc (.cells #[.slice none 0 0] 97))
 have hb2:=bN0 hW2
 have hs2:W2.heap.size=B+1:=by rw [hW2,hBe];simp
 first
  |guard_hyp zT2:Tg 0;have hA2:BufAt W2 B B (f 0):=⟨.slice none 0 0,by rw [hW2,hBe];exact heap_alloc_new _ _,by rw [HF.out.1];exact OwnB.nil _ _⟩
   obtain ⟨W3,hW3⟩:=eN0 (W2.alloc (.cells #[.int .i64 c.tx,.int .i64 c.time,.int .i64 c.wall,.int .i64 c.next] 3))
  |have hA2:BufAt W2 B B []:=⟨.slice none 0 0,by rw [hW2,hBe];exact heap_alloc_new _ _,OwnB.nil _ _⟩
   obtain ⟨W3,hW3⟩:=eN0 (W2.alloc (.cells #[.int .i64 1,.int .i64 5,.int .i64 5,.int .i64 1] 3))
 have hb3:=bN0 hW3
 first
  |guard_hyp zT2:Tg 0;have hN3:W3.heap[B+1]? =some (.cells #[.int .i64 c.tx,.int .i64 c.time,.int .i64 c.wall,.int .i64 c.next] 3 (0,0)):=by rw [hW3,←hs2];exact heap_alloc_new _ _
  |have hN3:W3.heap[B+1]? =some (.cells #[.int .i64 1,.int .i64 5,.int .i64 5,.int .i64 1] 3 (0,0)):=by rw [hW3,←hs2];exact heap_alloc_new _ _
 have hs3:W3.heap.size=B+2:=by rw [hW3];simp [hs2]
 have HA3:=hI0 (hA2.below hb3)
 have HN3:=hI0 hN3
 have hb13:Bl w1 W3:=hb2.trans (hb3.mono hb2.size)
 have HB3:=bT0 HB1 hb13
 have HT3:=hI0 ((hb13.block w.heap.size hwB).trans hT1)
 have HWB:Hid (w.heap.size<B):=hI0 (by rw [hBe];exact hwB)
 have HS3:=hI0 hs3
 first
  |done
  |guard_hyp zT2:Tg 0;have HCW:Hid (stW W3 B c):=hI0 (by rw [hBe];exact hcw.keep hb13)
   have HCR:Hid (stR W3 B c):=hI0 (by rw [hBe];exact hcr.keep hb13)
  |skip
 have hT2:=(hb2.block w.heap.size hwB).trans hT1
 obtain ⟨c0,c1,c2,c3,c4,c5,c6,c7,c8,c9⟩:=cX10 hT2
 first
  |guard_hyp zT2:Tg 0;clear hb2 hA2 hb3 hN3 hb13 hT1 hT2 hwB hs3 hcw hcr
  |clear hb2 hA2 hb3 hN3 hb13 hT1 hT2 hwB hs3
 go_upto_region 5 with (fail)
 rw [←hW2,←hBe]
 clear hW2 hBe
 go_wp2_with fail
 rw [←hW3]
 clear hW3 hs2 c0 c1 c2 c3 c4 c5 c6 c7 c8 c9
 first
  |guard_hyp zT2:Tg 0;go_loopw [25] (fun i wr=>∃k:Nat,i=.int .i64 (k:Int)∧k≤4∧Hid (BufAt wr B B (f k))∧Hid (Below B W3 wr)∧Hid (KeepO B W3 wr)) (fun i _=>4-(intOf i).toNat)
  |go_loopw [25] (fun i wr=>∃k:Nat,i=.int .i64 (k:Int)∧k≤4∧Hid (BufAt wr B B (([2,10,10,2]:List UInt8).take k))∧Hid (Below B W3 wr)∧Hid (KeepO B W3 wr)) (fun i _=>4-(intOf i).toNat)
 case atStart=>exact ⟨0,rfl,by omega,HA3,hI0 (Below.refl _ _),hI0 (KeepO.refl _ _)⟩
 obtain ⟨k,rfl,hk,HA,HB,HK⟩:=hrel
 obtain ⟨wo,rfl⟩:=eN0 wr
 have hNo:=(HK.out.2 (B+1) (by have:=HS3.out;omega) (by omega) (by intro cur;rw [HN3.out];simp)).trans HN3.out
 obtain rfl|rfl|rfl|rfl|rfl:k=0∨k=1∨k=2∨k=3∨k=4:=by omega
 ·exact zq61 3
 ·exact zq61 2
 ·exact zq61 0
 ·exact zq61 1
 ·clear hNo
  first
   |guard_hyp zT2:Tg 0;have HA0:Hid (BufAt wo B B (f 4)):=HA
   |have HA0:Hid (BufAt wo B B [2,10,10,2]):=HA
  clear HA
  first
   |guard_hyp zT2:Tg 0;obtain ⟨L0,hL0⟩:=eN0 (f 4)
    rw [←hL0] at HA0
    obtain ⟨L1,hL1⟩:=eN0 (L0++encE c.ents)
    obtain ⟨L2,hL2⟩:=eN0 (L1++encM c.stms)
    obtain ⟨L3,hL3⟩:=eN0 (L2++encTT c.tabs)
    obtain ⟨L4,hL4⟩:=eN0 (L3++encH c.pla)
    obtain ⟨L5,hL5⟩:=eN0 (L4++encP c.pol)
    obtain ⟨L6,hL6⟩:=eN0 (L5++encZ c.hor)
    have hLe:L6=encSt c:=by
     obtain ⟨q0,q1,q2,q3,q4⟩:=HF.out
     rw [hL6,hL5,hL4,hL3,hL2,hL1,hL0,q4,q3,q2,q1,q0]
     unfold encSt
     simp only [List.nil_append]
    have m6:L6.length≤10000000000:=by rw [hLe];exact HCW.out.len
    have m5:L5.length≤10000000000:=by rw [hL6,List.length_append] at m6;omega
    have m4:L4.length≤10000000000:=by rw [hL5,List.length_append] at m5;omega
    have m3:L3.length≤10000000000:=by rw [hL4,List.length_append] at m4;omega
    have m2:L2.length≤10000000000:=by rw [hL3,List.length_append] at m3;omega
    have m1:L1.length≤10000000000:=by rw [hL2,List.length_append] at m2;omega
    have m0:L0.length≤10000000000:=by rw [hL1,List.length_append] at m1;omega
    have KP:=putE_c B L0 c.eA c.eC c.ents wo HA0.out (HCR.out.keep (HB.out)).ents (HCW.out.keep (HB.out)).ents (by rw [←hL1];exact m1)
    rw [←hL1] at KP
   |have KP:=put0Entry B B [2,10,10,2] wo (Nat.le_refl _) HA0.out (by decide)
  have hTc:=(HB.out.block w.heap.size HWB.out).trans HT3.out
  have c4:=cW1 4 hTc rfl
  clear hTc
  go_wp2_with fail
  (with_reducible refine KP.mono ?_)
  rintro _ y1 ⟨rfl,hA2,hb2,hk2⟩
  first
   |guard_hyp zT2:Tg 0;have HA1:Hid (BufAt y1 B B L1):=hI0 hA2
   |have HA1:Hid (BufAt y1 B B [2,10,10,2,0]):=hI0 hA2
  have HBq1:Hid (Below B W3 y1):=hI0 (HB.out.trans hb2)
  clear hA2 hb2 hk2 KP c4
  first
   |guard_hyp zT2:Tg 2;have KP:=put0Delta B B [2,10,10,2,0] y1 (Nat.le_refl _) HA1.out (by decide)
   |guard_hyp zT2:Tg 1;have hbx:Below B W3 y1:=HBq1.out
    have hw3:Bl w y1:=HB3.out.trans (hbx.mono (by have:=HWB.out;omega))
    have KP:=put1Delta B B D [2,10,10,2,0] ⟨#[116]⟩ O (some ⟨R,0,none⟩) 1 1 0 3 xs7v y1 (Nat.le_refl _) HA1.out ((hw3.block D HF.out.1).trans HF.out.2.2.1) (by have:=HF.out.1;have:=HWB.out;omega) ((Rd.keep HF.out.2.2.2.2 (Keeps.below hw3)).wide (fun b (hb:b<w.heap.size)=>by show b<B;have:=HWB.out;omega)) xs7v_put.1 (by have:=xs7v_put.2;omega) (by omega) (by omega) (by omega) (by omega) ((hw3.block O HF.out.2.1).trans HF.out.2.2.2.1) (by have:=HF.out.2.1;have:=HWB.out;omega) (by decide) (by decide)
    clear hbx hw3
   |have KP:=putM_c B L1 c.sA c.sC c.stms y1 HA1.out (HCR.out.keep (HBq1.out)).stms (HCW.out.keep (HBq1.out)).stms (by rw [←hL2];exact m2)
    rw [←hL2] at KP
  have hTc:=(HBq1.out.block w.heap.size HWB.out).trans HT3.out
  have c5:=cW1 5 hTc rfl
  clear hTc
  go_wp2_with fail
  (with_reducible refine KP.mono ?_)
  rintro _ y2 ⟨rfl,hA2,hb2,hk2⟩
  first
   |guard_hyp zT2:Tg 2;have HA2:Hid (BufAt y2 B B [2,10,10,2,0,0]):=hI0 hA2
    have HB2:Hid (Below B W3 y2):=hI0 (HBq1.out.trans hb2)
   |guard_hyp zT2:Tg 1;have HA2:Hid (BufAt y2 B B [2,10,10,2,0,2,2,116,0,2,2,1,14,0,6]):=hI0 hA2
    have HB2:Hid (Below B W3 y2):=hI0 (HBq1.out.trans hb2)
   |have HA2:Hid (BufAt y2 B B L2):=hI0 hA2
    have HBq2:Hid (Below B W3 y2):=hI0 (HBq1.out.trans hb2)
  clear hA2 hb2 hk2 KP c5
  first
   |guard_hyp zT2:Tg 2;have KP:=put0Hold B B [2,10,10,2,0,0] y2 (Nat.le_refl _) HA2.out (by decide)
    have hTc:=(HB2.out.block w.heap.size HWB.out).trans HT3.out
   |guard_hyp zT2:Tg 1;have KP:=put0Hold B B [2,10,10,2,0,2,2,116,0,2,2,1,14,0,6] y2 (Nat.le_refl _) HA2.out (by decide)
    have hTc:=(HB2.out.block w.heap.size HWB.out).trans HT3.out
   |have KP:=putTT_c B L2 c.tA c.tC c.tabs y2 HA2.out (HCR.out.keep (HBq2.out)).tabs (HCW.out.keep (HBq2.out)).tabs (by rw [←hL3];exact m3)
    rw [←hL3] at KP
    have hTc:=(HBq2.out.block w.heap.size HWB.out).trans HT3.out
  have c6:=cW1 6 hTc rfl
  clear hTc
  go_wp2_with fail
  (with_reducible refine KP.mono ?_)
  rintro _ y3 ⟨rfl,hA2,hb2,hk2⟩
  first
   |guard_hyp zT2:Tg 2;have HA3:Hid (BufAt y3 B B [2,10,10,2,0,0,0]):=hI0 hA2
    have HBq3:Hid (Below B W3 y3):=hI0 (HB2.out.trans hb2)
   |guard_hyp zT2:Tg 1;have HA3:Hid (BufAt y3 B B [2,10,10,2,0,2,2,116,0,2,2,1,14,0,6,0]):=hI0 hA2
    have HBq3:Hid (Below B W3 y3):=hI0 (HB2.out.trans hb2)
   |have HA3:Hid (BufAt y3 B B L3):=hI0 hA2
    have HBq3:Hid (Below B W3 y3):=hI0 (HBq2.out.trans hb2)
  clear hA2 hb2 hk2 KP c6
  first
   |guard_hyp zT2:Tg 2;have KP:=put0Str B B [2,10,10,2,0,0,0] y3 (Nat.le_refl _) HA3.out (by decide)
   |guard_hyp zT2:Tg 1;have KP:=put0Str B B [2,10,10,2,0,2,2,116,0,2,2,1,14,0,6,0] y3 (Nat.le_refl _) HA3.out (by decide)
   |have KP:=putH_c B L3 c.pA c.pC c.pla y3 HA3.out (HCR.out.keep (HBq3.out)).pla (HCW.out.keep (HBq3.out)).pla (by rw [←hL4];exact m4)
    rw [←hL4] at KP
  have hTc:=(HBq3.out.block w.heap.size HWB.out).trans HT3.out
  have c7:=cW1 7 hTc rfl
  clear hTc
  go_wp2_with fail
  (with_reducible refine KP.mono ?_)
  rintro _ y4 ⟨rfl,hA2,hb2,hk2⟩
  first
   |guard_hyp zT2:Tg 2;have HA4:Hid (BufAt y4 B B [2,10,10,2,0,0,0,0]):=hI0 hA2
    have HB4:Hid (Below B W3 y4):=hI0 (HBq3.out.trans hb2)
   |guard_hyp zT2:Tg 1;have HA4:Hid (BufAt y4 B B [2,10,10,2,0,2,2,116,0,2,2,1,14,0,6,0,0]):=hI0 hA2
    have HB4:Hid (Below B W3 y4):=hI0 (HBq3.out.trans hb2)
   |have HA4:Hid (BufAt y4 B B L4):=hI0 hA2
    have HBq4:Hid (Below B W3 y4):=hI0 (HBq3.out.trans hb2)
  clear hA2 hb2 hk2 KP c7
  first
   |guard_hyp zT2:Tg 2;have KP:=put0Policy B B [2,10,10,2,0,0,0,0] y4 (Nat.le_refl _) HA4.out (by decide)
    have hTc:=(HB4.out.block w.heap.size HWB.out).trans HT3.out
   |guard_hyp zT2:Tg 1;have KP:=put0Policy B B [2,10,10,2,0,2,2,116,0,2,2,1,14,0,6,0,0] y4 (Nat.le_refl _) HA4.out (by decide)
    have hTc:=(HB4.out.block w.heap.size HWB.out).trans HT3.out
   |have KP:=putP_c B L4 c.qA c.qC c.pol y4 HA4.out (HCR.out.keep (HBq4.out)).pol (HCW.out.keep (HBq4.out)).pol (by rw [←hL5];exact m5)
    rw [←hL5] at KP
    have hTc:=(HBq4.out.block w.heap.size HWB.out).trans HT3.out
  have c8:=cW1 8 hTc rfl
  clear hTc
  go_wp2_with fail
  (with_reducible refine KP.mono ?_)
  rintro _ y5 ⟨rfl,hA2,hb2,hk2⟩
  first
   |guard_hyp zT2:Tg 2;have HA5:Hid (BufAt y5 B B [2,10,10,2,0,0,0,0,0]):=hI0 hA2
    have HB5:Hid (Below B W3 y5):=hI0 (HB4.out.trans hb2)
   |guard_hyp zT2:Tg 1;have HA5:Hid (BufAt y5 B B [2,10,10,2,0,2,2,116,0,2,2,1,14,0,6,0,0,0]):=hI0 hA2
    have HB5:Hid (Below B W3 y5):=hI0 (HB4.out.trans hb2)
   |have HA5:Hid (BufAt y5 B B L5):=hI0 hA2
    have HBq5:Hid (Below B W3 y5):=hI0 (HBq4.out.trans hb2)
  clear hA2 hb2 hk2 KP c8
  first
   |guard_hyp zT2:Tg 2;have KP:=put0Horizon B B [2,10,10,2,0,0,0,0,0] y5 (Nat.le_refl _) HA5.out (by decide)
    have hTc:=(HB5.out.block w.heap.size HWB.out).trans HT3.out
   |guard_hyp zT2:Tg 1;have KP:=put0Horizon B B [2,10,10,2,0,2,2,116,0,2,2,1,14,0,6,0,0,0] y5 (Nat.le_refl _) HA5.out (by decide)
    have hTc:=(HB5.out.block w.heap.size HWB.out).trans HT3.out
   |have KP:=putZ_c B L5 c.hA c.hC c.hor y5 HA5.out (HCR.out.keep (HBq5.out)).hor (HCW.out.keep (HBq5.out)).hor (by rw [←hL6];exact m6)
    rw [←hL6] at KP
    have hTc:=(HBq5.out.block w.heap.size HWB.out).trans HT3.out
  have c9:=cW1 9 hTc rfl
  clear hTc
  go_wp2_with fail
  (with_reducible refine KP.mono ?_)
  rintro _ y6 ⟨rfl,hA2,hb2,hk2⟩
  first
   |guard_hyp zT2:Tg 2;have HA6:Hid (BufAt y6 B B [2,10,10,2,0,0,0,0,0,0]):=hI0 hA2
    have HB6:Hid (Below B W3 y6):=hI0 (HB5.out.trans hb2)
   |guard_hyp zT2:Tg 1;have HA6:Hid (BufAt y6 B B [2,10,10,2,0,2,2,116,0,2,2,1,14,0,6,0,0,0,0]):=hI0 hA2
    have HB6:Hid (Below B W3 y6):=hI0 (HB5.out.trans hb2)
   |have HA6:Hid (BufAt y6 B B L6):=hI0 hA2
    have HBq6:Hid (Below B W3 y6):=hI0 (HBq5.out.trans hb2)
  clear hA2 hb2 hk2 KP c9
  obtain ⟨v,hB,hO⟩:=HA6.out
  obtain ⟨Av,cv,rfl,x1,x2,x3⟩:=Rd.open_ (Rd.of_own hO)
  have q0:=cW1 0 hB rfl
  have HO:=hI0 ((Rd.of_own hO).wide (fun b hb=>(⟨by have:=hb.1;have:=HWB.out;omega,hb.2⟩:w.heap.size≤b∧b<y6.heap.size)))
  first
   |guard_hyp zT2:Tg 0;have HBF:Hid (Bl w y6):=hI0 (HB3.out.trans (HBq6.out.mono (by have:=HWB.out;omega)))
    have HLE:=hI0 hLe
    have HM6:=hI0 m6
    clear hB hO x1 x2 x3 hLe hL0 hL1 hL2 hL3 hL4 hL5 hL6 m0 m1 m2 m3 m4 m5
   |have HBF:Hid (Bl w y6):=hI0 (HB3.out.trans (HB6.out.mono (by have:=HWB.out;omega)))
    clear hB hO x1 x2 x3
  go_wp2_with fail
  go_ret2
  first
   |guard_hyp zT2:Tg 0;have HS0:Hid (stateF c=0):=HK0
    refine ⟨_,by rw [HS0.out]<;>rfl,?_,HBF.out,fun _=>by rw [←HLE.out];exact HM6.out⟩
    rw [show outS c=encSt c from if_pos HS0.out,←HLE.out]
    exact HO.out
   |exact ⟨_,rfl,HO.out,HBF.out⟩) : P := h ⟨⟩
theorem zq13 {P:Prop} (i:Nat) (h:Tg i→P:=by
 intro zT13
 have hBl:=h.lt
 have hw0:base≤w.heap.size:=by omega
 first
  |guard_hyp zT13:Tg 2;have HLn:=hI0 hl
   clear hl
   obtain ⟨W,hW⟩:=eN0 (w.alloc (.cells #[.int .i64 a,.int .i64 b] 180))
  |guard_hyp zT13:Tg 1;obtain ⟨W,hW⟩:=eN0 (w.alloc (.cells #[.string S,.slice none 0 0,.slice (some ⟨O,0,none⟩) 1 1] 63))
  |have HLn:=hI0 hl
   clear hl
   obtain ⟨W,hW⟩:=eN0 (w.alloc (.cells #[.string nm,.slice colA cols.length colC,.slice keyA key.length keyC,.slice forA fors.length forC,.slice chkA chks.length chkC] 75))
 have hbW:=bN0 hW
 have hWs:=sN0 hW
 have hWh:=hN0 hW
 have HW:=hI0 hW
 clear hW
 first
  |done
  |guard_hyp zT13:Tg 2
  |guard_hyp zT13:Tg 1;have HV:=hI0 hx
   have HOK:=hI0 hok
   have HRL:=hI0 hr
   have HO:=hI0 hO
   clear hx hok hr hO
  |have HC:=hI0 hc
   have HCS:=hI0 hcS
   have HK:=hI0 hk
   have HKS:=hI0 hkS
   have HF:=hI0 hf
   have HFS:=hI0 hfS
   have HX:=hI0 hx
   have HXS:=hI0 hxS
   clear hc hcS hk hkS hf hfS hx hxS
 go_in
 go_wp2_with fail
 rw [←HW.out]
 have hA0:BufAt W base B l:=h.below hbW
 have hB0:Below base w W:=hbW.mono hw0
 have hK0:KeepO B w W:=KeepO.of_below hbW
 clear h hbW
 first
  |guard_hyp zT13:Tg 2;refine rR0 [.int .i64 a,.int .i64 b] w.heap.size ?_ (fun zh=>?_)
  |guard_hyp zT13:Tg 1;refine rR0 [.string S,.slice none 0 0,.slice (some ⟨O,0,none⟩) 1 1] w.heap.size ?_ (fun zh=>?_)
  |refine rR0 [.string nm,.slice colA cols.length colC,.slice keyA key.length keyC,.slice forA fors.length forC,.slice chkA chks.length chkC] w.heap.size ?_ (fun zh=>?_)
 ·exact zq114
 refine hT 0 4 ?_
 refine hT 1 5 ?_
 refine hT 2 6 ?_
 refine hT 3 7 ?_
 refine hU 4 8 (v:=?_) zh ?_ ?_
 rotate_left
 ·exact zq112
 refine hC 5 9 ?_
 first
  |guard_hyp zT13:Tg 2;(with_reducible refine (bufInt_any base B (l) a _ hbB hA0.drew ha1 ha2 zi0).mono ?_)
  |guard_hyp zT13:Tg 1;(with_reducible refine (bufText_any base B (l) S _ hbB hA0.drew hS (by omega)).mono ?_)
  |(with_reducible refine (bufText_any base B (l) nm _ hbB hA0.drew hnm zi0).mono ?_)
 rintro _ w1 ⟨rfl,hA1,hb',hk'⟩
 have hB1:Below base w w1:=hB0.trans (Below.undrew hb')
 have hK1:KeepO B w w1:=hK0.trans hk'
 have hWh':=(hk'.2 w.heap.size (by have:W.drew.heap.size=W.heap.size:=rfl;have:=hWs;first|omega|(have:=hsz0;omega)) (by omega) zi2).trans (show W.drew.heap[w.heap.size]? =_ from hWh)
 have hsz1:w.heap.size+1≤w1.heap.size:=by have:=hk'.1;have:W.drew.heap.size=W.heap.size:=rfl;first|omega|(have:=hsz0;omega)
 clear hWh hb' hk'
 have hWh:=hWh'
 clear hWh'
 refine ⟨_,rfl,keepAnd (fun j u hj=>(cW0 _ w.heap.size j _ _ _ hWh).trans (by simpa using hj)) ?_⟩
 clear zh
 intro zh
 simp only [aP]
 refine rD0 ?_
 clear zh
 clear hA0 hB0 hK0
 first
  |done
  |guard_hyp zT13:Tg 2
  |have q1:=cW1 1 hWh rfl
 go_wp2_with fail
 first
  |guard_hyp zT13:Tg 2;refine rR0 [.int .i64 a,.int .i64 b] w.heap.size ?_ (fun zh=>?_)
   ·exact zq114
   refine hT 0 10 ?_
   refine hT 1 11 ?_
   refine hT 2 12 ?_
   refine hT 3 13 ?_
   refine hU 4 14 (v:=?_) zh ?_ ?_
   rotate_left
   ·intro w' hSw;(try dsimp only at hSw);have q1:=hSw 1 _ rfl;go_simp<;>with_reducible rfl
   refine hC 5 15 ?_
   (with_reducible refine (bufInt_any base B (l++encI a) b _ hbB hA1.drew hb1 hb2 zi0).mono ?_)
  |guard_hyp zT13:Tg 1;(with_reducible refine (put0Int base B (l++(encI S.size++S.data.toList)) _ hbB hA1 (by rw [List.length_append,List.length_append,show S.data.toList.length=S.size from rfl];have:=encI_length S.size;omega)).mono ?_)
  |(with_reducible refine (putCol base B (l++(encI nm.size++nm.data.toList)) colA colC cols encCol _ hbB hA1 (HC.out.keep (Keeps.below hB1)) (fun x hx V m hA hB hK hlm=>wCol_x base B m x V hbB hA (HCS.out x hx) hlm) zi0).mono ?_)
 rintro _ w2 ⟨rfl,hA2,hb',hk'⟩
 first
  |guard_hyp zT13:Tg 2;have hB2:Below base w w2:=hB1.trans (Below.undrew hb')
  |have hB2:Below base w w2:=hB1.trans hb'
 have hK2:KeepO B w w2:=hK1.trans hk'
 first
  |guard_hyp zT13:Tg 2;have hWh':=(hk'.2 w.heap.size (by have:w1.drew.heap.size=w1.heap.size:=rfl;have:=hWs;first|omega|(have:=hsz1;omega)) (by omega) zi6).trans (show w1.drew.heap[w.heap.size]? =_ from hWh)
  |have hWh':=(hk'.2 w.heap.size (by have:w1.drew.heap.size=w1.heap.size:=rfl;have:=hWs;first|omega|(have:=hsz1;omega)) (by omega) zi32).trans (show w1.heap[w.heap.size]? =_ from hWh)
 have hsz2:w.heap.size+1≤w2.heap.size:=by have:=hk'.1;have:w1.drew.heap.size=w1.heap.size:=rfl;first|omega|(have:=hsz1;omega)
 clear hWh hb' hk'
 have hWh:=hWh'
 clear hWh'
 first
  |guard_hyp zT13:Tg 2;refine ⟨_,rfl,keepAnd (fun j u hj=>(cW0 _ w.heap.size j _ _ _ hWh).trans (by simpa using hj)) ?_⟩
   clear zh
   intro zh
   simp only [aP]
   refine rD0 ?_
   clear zh
  |clear q1
 clear hA1 hB1 hK1
 first
  |done
  |guard_hyp zT13:Tg 2
  |first
    |done
    |guard_hyp zT13:Tg 1;have HVk:Hid (RdV w2 (·<base) (.slice xA xn xc) xs):=hI0 (Rd.keep HV.out (fun b hb=>hB2.block b hb))
    |skip
   have q2:=cW1 2 hWh rfl
   go_wp2_with fail
   first
    |guard_hyp zT13:Tg 1;(with_reducible refine (put1Fact base B O (l++(encI S.size++S.data.toList)++encI 0) xA xn xc f t xs _ hbB hA2 ((hB2.block O hOb).trans HO.out) hOb HVk.out HOK.out HRL.out hf1 hf2 ht1 ht2 (by rw [List.length_append,List.length_append,List.length_append,show S.data.toList.length=S.size from rfl];have:=encI_length S.size;have:=encI_length 0;omega)).mono ?_)
    |(with_reducible refine (putNum base B (l++(encI nm.size++nm.data.toList)++(encI cols.length++cols.flatMap encCol)) keyA keyC key encI _ hbB hA2 (HK.out.keep (Keeps.below hB2)) (fun n hn V m hA hB hK hlm=>wNum_any base B m n V hbB hA (HKS.out n hn).1 (HKS.out n hn).2 (by rw [List.length_append] at hlm;omega)) zi0).mono ?_)
   rintro _ w3 ⟨rfl,hA3,hb',hk'⟩
   have hB3:Below base w w3:=hB2.trans hb'
   have hK3:KeepO B w w3:=hK2.trans hk'
   have hWh':=(hk'.2 w.heap.size (by have:w2.drew.heap.size=w2.heap.size:=rfl;have:=hWs;first|omega|(have:=hsz2;omega)) (by omega) (by intro cur;rw [show w2.heap[w.heap.size]? =_ from hWh];simp)).trans (show w2.heap[w.heap.size]? =_ from hWh)
   have hsz3:w.heap.size+1≤w3.heap.size:=by have:=hk'.1;have:w2.drew.heap.size=w2.heap.size:=rfl;first|omega|(have:=hsz2;omega)
   clear hWh hb' hk'
   have hWh:=hWh'
   clear hWh'
   clear q2
   clear hA2 hB2 hK2
   first
    |done
    |guard_hyp zT13:Tg 1
    |have q3:=cW1 3 hWh rfl
     go_wp2_with fail
     (with_reducible refine (putFor base B (l++(encI nm.size++nm.data.toList)++(encI cols.length++cols.flatMap encCol)++(encI key.length++key.flatMap encI)) forA forC fors encFor _ hbB hA3 (HF.out.keep (Keeps.below hB3)) (fun x hx V m hA hB hK hlm=>wFor_x base B m x V hbB hA ((HFS.out x hx).keep (hB3.trans hB)) hlm) zi0).mono ?_)
     rintro _ w4 ⟨rfl,hA4,hb',hk'⟩
     have hB4:Below base w w4:=hB3.trans hb'
     have hK4:KeepO B w w4:=hK3.trans hk'
     have hWh':=(hk'.2 w.heap.size (by have:w3.drew.heap.size=w3.heap.size:=rfl;have:=hWs;first|omega|(have:=hsz3;omega)) (by omega) (by intro cur;rw [show w3.heap[w.heap.size]? =_ from hWh];simp)).trans (show w3.heap[w.heap.size]? =_ from hWh)
     have hsz4:w.heap.size+1≤w4.heap.size:=by have:=hk'.1;have:w3.drew.heap.size=w3.heap.size:=rfl;first|omega|(have:=hsz3;omega)
     clear hWh hb' hk'
     have hWh:=hWh'
     clear hWh'
     clear q3
     clear hA3 hB3 hK3
     have q4:=cW1 4 hWh rfl
     go_wp2_with fail
     (with_reducible refine (putExp base B (l++(encI nm.size++nm.data.toList)++(encI cols.length++cols.flatMap encCol)++(encI key.length++key.flatMap encI)++(encI fors.length++fors.flatMap encFor)) chkA chkC chks encX _ hbB hA4 (HX.out.keep (Keeps.below hB4)) (fun x hx V m hA hB hK hlm=>wExp_any 24 x base B m V hbB hA (HXS.out x hx).2 (exIs_keep (Keeps.below (hB4.trans hB)) 24 x (HXS.out x hx).1) hlm) zi0).mono ?_)
     rintro _ w5 ⟨rfl,hA5,hb',hk'⟩
     have hB5:Below base w w5:=hB4.trans hb'
     have hK5:KeepO B w w5:=hK4.trans hk'
     have hWh':=(hk'.2 w.heap.size (by have:w4.drew.heap.size=w4.heap.size:=rfl;have:=hWs;first|omega|(have:=hsz4;omega)) (by omega) (by intro cur;rw [show w4.heap[w.heap.size]? =_ from hWh];simp)).trans (show w4.heap[w.heap.size]? =_ from hWh)
     have hsz5:w.heap.size+1≤w5.heap.size:=by have:=hk'.1;have:w4.drew.heap.size=w4.heap.size:=rfl;first|omega|(have:=hsz4;omega)
     clear hWh hb' hk'
     have hWh:=hWh'
     clear hWh'
     clear q4
     clear hA4 hB4 hK4
 go_wp2_with fail
 go_end0
 first
  |guard_hyp zT13:Tg 2;refine ⟨rfl,?_,hB2,hK2⟩
   have e:l++(encI a++(encI b))=l++encI a++encI b:=by simp only [List.append_assoc]
  |guard_hyp zT13:Tg 1;refine ⟨rfl,?_,hB3,hK3⟩
   have e:l++((encI S.size++S.data.toList)++(encI 0++(encI 1++(encR xs++(encI f++encI t)))))=l++(encI S.size++S.data.toList)++encI 0++(encI 1++(encR xs++(encI f++encI t))):=by simp
  |refine ⟨rfl,?_,hB5,hK5⟩
   have e:l++((encI nm.size++nm.data.toList)++((encI cols.length++cols.flatMap encCol)++((encI key.length++key.flatMap encI)++((encI fors.length++fors.flatMap encFor)++((encI chks.length++chks.flatMap encX))))))=l++(encI nm.size++nm.data.toList)++(encI cols.length++cols.flatMap encCol)++(encI key.length++key.flatMap encI)++(encI fors.length++fors.flatMap encFor)++(encI chks.length++chks.flatMap encX):=by simp only [List.append_assoc]
 rw [e]
 first
  |guard_hyp zT13:Tg 2;exact hA2
  |guard_hyp zT13:Tg 1;exact hA3
  |exact hA5) : P := h ⟨⟩
theorem zq16 {P:Prop} (i:Nat) (h:Tg i→P:=by
 intro zT16
 have hBl:=h.lt
 have hw0:base≤w.heap.size:=by omega
 first
  |guard_hyp zT16:Tg 4;have HLn:=hI0 hl
   clear hl
   obtain ⟨W,hW⟩:=eN0 (w.alloc (.cells #[.string S,.int .i64 n] 117))
  |guard_hyp zT16:Tg 3;have HLn:=hI0 hl
   clear hl
   obtain ⟨W,hW⟩:=eN0 (w.alloc (.cells #[.string S,.int .i64 n] 122))
  |guard_hyp zT16:Tg 2;obtain ⟨W,hW⟩:=eN0 (w.alloc (.cells #[.slice xA xn xc,.int .i64 f,.int .i64 t] 68))
  |have HLn:=hI0 hl
   clear hl
   first
    |guard_hyp zT16:Tg 1;obtain ⟨W,hW⟩:=eN0 (w.alloc (.cells #[.string S,.int .i64 n,.bool b] 77))
    |obtain ⟨W,hW⟩:=eN0 (w.alloc (.cells #[.string S,.string Q,.int .i64 a,.int .i64 b,.int .i64 c,.int .i64 d] 109))
 have hbW:=bN0 hW
 have hWs:=sN0 hW
 have hWh:=hN0 hW
 have HW:=hI0 hW
 clear hW
 first
  |done
  |guard_hyp zT16:Tg 2;have HV:=hI0 hx
   have HOK:=hI0 hok
   have HRL:=hI0 hr
   clear hx hok hr
  |skip
 go_in
 go_wp2_with fail
 rw [←HW.out]
 have hA0:BufAt W base B l:=h.below hbW
 have hB0:Below base w W:=hbW.mono hw0
 have hK0:KeepO B w W:=KeepO.of_below hbW
 clear h hbW
 first
  |guard_hyp zT16:Tg 2;have HVw:Hid (RdV W.drew (·<W.drew.heap.size) (.slice xA xn xc) xs):=hI0 (Rd.wide (Rd.keep HV.out (Keeps.below hB0.drew)) (fun b hb=>by show b<W.heap.size;have hb':b<base:=hb;omega))
   refine rR0 [.slice xA xn xc,.int .i64 f,.int .i64 t] w.heap.size ?_ (fun zh=>?_)
  |guard_hyp zT16:Tg 1;refine rR0 [.string S,.int .i64 n,.bool b] w.heap.size ?_ (fun zh=>?_)
  |guard_hyp zT16:Tg 0;refine rR0 [.string S,.string Q,.int .i64 a,.int .i64 b,.int .i64 c,.int .i64 d] w.heap.size ?_ (fun zh=>?_)
  |refine rR0 [.string S,.int .i64 n] w.heap.size ?_ (fun zh=>?_)
 ·exact zq114
 refine hT 0 4 ?_
 refine hT 1 5 ?_
 refine hT 2 6 ?_
 refine hT 3 7 ?_
 refine hU 4 8 (v:=?_) zh ?_ ?_
 rotate_left
 ·exact zq112
 refine hC 5 9 ?_
 first
  |guard_hyp zT16:Tg 2;(with_reducible refine (bufRow_any base B (l) _ xs _ hbB hA0.drew HVw.out HOK.out HRL.out (by omega)).mono ?_)
  |(with_reducible refine (bufText_any base B (l) S _ hbB hA0.drew hS zi0).mono ?_)
 rintro _ w1 ⟨rfl,hA1,hb',hk'⟩
 have hB1:Below base w w1:=hB0.trans (Below.undrew hb')
 have hK1:KeepO B w w1:=hK0.trans hk'
 have hWh':=(hk'.2 w.heap.size (by have:W.drew.heap.size=W.heap.size:=rfl;have:=hWs;first|omega|(have:=hsz0;omega)) (by omega) zi2).trans (show W.drew.heap[w.heap.size]? =_ from hWh)
 have hsz1:w.heap.size+1≤w1.heap.size:=by have:=hk'.1;have:W.drew.heap.size=W.heap.size:=rfl;first|omega|(have:=hsz0;omega)
 clear hWh hb' hk'
 have hWh:=hWh'
 clear hWh'
 refine ⟨_,rfl,keepAnd (fun j u hj=>(cW0 _ w.heap.size j _ _ _ hWh).trans (by simpa using hj)) ?_⟩
 clear zh
 intro zh
 simp only [aP]
 refine rD0 ?_
 clear zh
 clear hA0 hB0 hK0
 go_wp2_with fail
 first
  |guard_hyp zT16:Tg 2;refine rR0 [.slice xA xn xc,.int .i64 f,.int .i64 t] w.heap.size ?_ (fun zh=>?_)
  |guard_hyp zT16:Tg 1;refine rR0 [.string S,.int .i64 n,.bool b] w.heap.size ?_ (fun zh=>?_)
  |guard_hyp zT16:Tg 0;refine rR0 [.string S,.string Q,.int .i64 a,.int .i64 b,.int .i64 c,.int .i64 d] w.heap.size ?_ (fun zh=>?_)
  |refine rR0 [.string S,.int .i64 n] w.heap.size ?_ (fun zh=>?_)
 ·exact zq114
 refine hT 0 10 ?_
 refine hT 1 11 ?_
 refine hT 2 12 ?_
 refine hT 3 13 ?_
 refine hU 4 14 (v:=?_) zh ?_ ?_
 rotate_left
 ·first
   |guard_hyp zT16:Tg 2;intro w' hSw;(try dsimp only at hSw);have q1:=hSw 1 _ rfl;have q2:=hSw 2 _ rfl;go_simp<;>with_reducible rfl
   |intro w' hSw;(try dsimp only at hSw);have q1:=hSw 1 _ rfl;go_simp<;>with_reducible rfl
 refine hC 5 15 ?_
 first
  |guard_hyp zT16:Tg 2;(with_reducible refine (bufPeriod_any base B (l++encR xs) f t _ hbB hA1.drew hf1 hf2 ht1 ht2 (by have:=HRL.out;(try simp only [List.length_append]);omega)).mono ?_)
  |guard_hyp zT16:Tg 0;(with_reducible refine (bufText_any base B (l++(encI S.size++S.data.toList)) Q _ hbB hA1.drew hQ zi0).mono ?_)
  |(with_reducible refine (bufInt_any base B (l++(encI S.size++S.data.toList)) n _ hbB hA1.drew hn1 hn2 zi0).mono ?_)
 rintro _ w2 ⟨rfl,hA2,hb',hk'⟩
 have hB2:Below base w w2:=hB1.trans (Below.undrew hb')
 have hK2:KeepO B w w2:=hK1.trans hk'
 have hWh':=(hk'.2 w.heap.size (by have:w1.drew.heap.size=w1.heap.size:=rfl;have:=hWs;first|omega|(have:=hsz1;omega)) (by omega) zi6).trans (show w1.drew.heap[w.heap.size]? =_ from hWh)
 have hsz2:w.heap.size+1≤w2.heap.size:=by have:=hk'.1;have:w1.drew.heap.size=w1.heap.size:=rfl;first|omega|(have:=hsz1;omega)
 clear hWh hb' hk'
 have hWh:=hWh'
 clear hWh'
 refine ⟨_,rfl,keepAnd (fun j u hj=>(cW0 _ w.heap.size j _ _ _ hWh).trans (by simpa using hj)) ?_⟩
 clear zh
 intro zh
 simp only [aP]
 refine rD0 ?_
 clear zh
 clear hA1 hB1 hK1
 go_wp2_with fail
 first
  |done
  |first|guard_hyp zT16:Tg 0|guard_hyp zT16:Tg 1
   first
    |guard_hyp zT16:Tg 1;refine rR0 [.string S,.int .i64 n,.bool b] w.heap.size ?_ (fun zh=>?_)
    |refine rR0 [.string S,.string Q,.int .i64 a,.int .i64 b,.int .i64 c,.int .i64 d] w.heap.size ?_ (fun zh=>?_)
   ·exact zq114
   refine hT 0 16 ?_
   refine hT 1 17 ?_
   refine hT 2 18 ?_
   refine hT 3 19 ?_
   first
    |guard_hyp zT16:Tg 1;refine hU 4 20 (v:=?_) zh ?_ ?_
    |refine hT 4 20 ?_
     refine hU 5 21 (v:=?_) zh ?_ ?_
   rotate_left
   ·first
     |guard_hyp zT16:Tg 1;intro w' hSw;(try dsimp only at hSw);have q2:=hSw 2 _ rfl;go_simp<;>with_reducible rfl
     |intro w' hSw;(try dsimp only at hSw);have q2:=hSw 2 _ rfl;have q3:=hSw 3 _ rfl;go_simp<;>with_reducible rfl
   first
    |guard_hyp zT16:Tg 1;refine hC 5 21 ?_
     (with_reducible refine (bufBool_any base B (l++(encI S.size++S.data.toList)++encI n) b _ hbB hA2.drew zi0).mono ?_)
    |refine hC 6 22 ?_
     (with_reducible refine (bufPeriod_any base B (l++(encI S.size++S.data.toList)++(encI Q.size++Q.data.toList)) a b _ hbB hA2.drew ha1 ha2 hb1 hb2 zi0).mono ?_)
   rintro _ w3 ⟨rfl,hA3,hb',hk'⟩
   have hB3:Below base w w3:=hB2.trans (Below.undrew hb')
   have hK3:KeepO B w w3:=hK2.trans hk'
   have hWh':=(hk'.2 w.heap.size (by have:w2.drew.heap.size=w2.heap.size:=rfl;have:=hWs;first|omega|(have:=hsz2;omega)) (by omega) zi14).trans (show w2.drew.heap[w.heap.size]? =_ from hWh)
   have hsz3:w.heap.size+1≤w3.heap.size:=by have:=hk'.1;have:w2.drew.heap.size=w2.heap.size:=rfl;first|omega|(have:=hsz2;omega)
   clear hWh hb' hk'
   have hWh:=hWh'
   clear hWh'
   refine ⟨_,rfl,keepAnd (fun j u hj=>(cW0 _ w.heap.size j _ _ _ hWh).trans (by simpa using hj)) ?_⟩
   clear zh
   intro zh
   simp only [aP]
   refine rD0 ?_
   clear zh
   clear hA2 hB2 hK2
   go_wp2_with fail
   first
    |done
    |guard_hyp zT16:Tg 1
    |refine rR0 [.string S,.string Q,.int .i64 a,.int .i64 b,.int .i64 c,.int .i64 d] w.heap.size ?_ (fun zh=>?_)
     ·exact zq114
     refine hT 0 23 ?_
     refine hT 1 24 ?_
     refine hT 2 25 ?_
     refine hT 3 26 ?_
     refine hT 4 27 ?_
     refine hU 5 28 (v:=?_) zh ?_ ?_
     rotate_left
     ·intro w' hSw;(try dsimp only at hSw);have q4:=hSw 4 _ rfl;have q5:=hSw 5 _ rfl;go_simp<;>with_reducible rfl
     refine hC 6 29 ?_
     (with_reducible refine (bufPeriod_any base B (l++(encI S.size++S.data.toList)++(encI Q.size++Q.data.toList)++(encI a++encI b)) c d _ hbB hA3.drew hc1 hc2 hd1 hd2 zi0).mono ?_)
     rintro _ w4 ⟨rfl,hA4,hb',hk'⟩
     have hB4:Below base w w4:=hB3.trans (Below.undrew hb')
     have hK4:KeepO B w w4:=hK3.trans hk'
     have hWh':=(hk'.2 w.heap.size (by have:w3.drew.heap.size=w3.heap.size:=rfl;have:=hWs;first|omega|(have:=hsz3;omega)) (by omega) zi22).trans (show w3.drew.heap[w.heap.size]? =_ from hWh)
     have hsz4:w.heap.size+1≤w4.heap.size:=by have:=hk'.1;have:w3.drew.heap.size=w3.heap.size:=rfl;first|omega|(have:=hsz3;omega)
     clear hWh hb' hk'
     have hWh:=hWh'
     clear hWh'
     refine ⟨_,rfl,keepAnd (fun j u hj=>(cW0 _ w.heap.size j _ _ _ hWh).trans (by simpa using hj)) ?_⟩
     clear zh
     intro zh
     simp only [aP]
     refine rD0 ?_
     clear zh
     clear hA3 hB3 hK3
     go_wp2_with fail
  |skip
 go_end0
 first
  |guard_hyp zT16:Tg 2;refine ⟨rfl,?_,hB2,hK2⟩
   have e:l++(encR xs++(encI f++encI t))=l++encR xs++(encI f++encI t):=by simp
  |guard_hyp zT16:Tg 1;refine ⟨rfl,?_,hB3,hK3⟩
   have e:l++((encI S.size++S.data.toList)++(encI n++(flagE b)))=l++(encI S.size++S.data.toList)++encI n++flagE b:=by simp only [List.append_assoc]
  |guard_hyp zT16:Tg 0;refine ⟨rfl,?_,hB4,hK4⟩
   have e:l++((encI S.size++S.data.toList)++((encI Q.size++Q.data.toList)++((encI a++encI b)++((encI c++encI d)))))=l++(encI S.size++S.data.toList)++(encI Q.size++Q.data.toList)++(encI a++encI b)++(encI c++encI d):=by simp only [List.append_assoc]
  |refine ⟨rfl,?_,hB2,hK2⟩
   have e:l++((encI S.size++S.data.toList)++(encI n))=l++(encI S.size++S.data.toList)++encI n:=by simp only [List.append_assoc]
 rw [e]
 first
  |guard_hyp zT16:Tg 1;exact hA3
  |guard_hyp zT16:Tg 0;exact hA4
  |exact hA2) : P := h ⟨⟩
theorem zq29 {P:Prop} (i:Nat) (h:Tg i→P:=by
 intro zT29
 have hBl:=h.lt
 have KI:=bufInt_any base B l 1 w hbB h (by omega) (by omega) (by omega)
 have e0:=encI_length 1
 have HD:=hI0 hD
 first
  |guard_hyp zT29:Tg 1;have K1:∀W,BufAt W base B (l++encI 1)→Below base w W→Calls prog 155 #[.pointer (some ⟨B,0,none⟩),.agg #[.slice xA xn xc,.int .i64 f,.int .i64 t]] W (BufOut base B (l++encI 1++(encR xs++(encI f++encI t))) W):=fun W hA hB=>fact_any base B _ xA xn xc f t xs W hbB hA (Rd.keep hx (fun b hb=>hB.block b hb)) hok hr hf1 hf2 ht1 ht2 (by rw [List.length_append];omega)
  |have K1:∀W,BufAt W base B (l++encI 1)→Below base w W→Calls prog 50 #[.pointer (some ⟨B,0,none⟩),.agg #[.string S,.slice none 0 0,.slice (some ⟨O,0,none⟩) 1 1]] W (BufOut base B (l++encI 1++((encI S.size++S.data.toList)++(encI 0++(encI 1++(encR xs++(encI f++encI t)))))) W):=fun W hA hB=>delta1 base B _ S O xA xn xc f t xs W hbB hA (Rd.keep hx (fun b hb=>hB.block b hb)) hok hr hf1 hf2 ht1 ht2 ((hB.block O hOb).trans hO) hOb hS (by rw [List.length_append];omega)
 have HK1:=hI0 K1
 clear K1 hD
 go_in
 go_wp2_with fail
 (with_reducible refine KI.mono ?_)
 rintro _ w1 ⟨rfl,hA1,hb1,hk1⟩
 have HA1:=hI0 hA1
 have HB1:=hI0 hb1
 have HK:=hI0 hk1
 have hs1:w.heap.size≤w1.heap.size:=hk1.1
 clear hA1 hb1 hk1 KI
 go_wp2_with fail
 first
  |guard_hyp zT29:Tg 1;go_loopw [16] (fun i wr=>(i=.int .i64 0∧wr=w1)∨(i=.int .i64 1∧BufAt wr base B (l++encI 1++(encR xs++(encI f++encI t)))∧Below base w wr∧KeepO B w wr)) (fun i _=>1-(intOf i).toNat)
  |go_loopw [16] (fun i wr=>(i=.int .i64 0∧wr=w1)∨(i=.int .i64 1∧BufAt wr base B (l++encI 1++((encI S.size++S.data.toList)++(encI 0++(encI 1++(encR xs++(encI f++encI t))))))∧Below base w wr∧KeepO B w wr)) (fun i _=>1-(intOf i).toNat)
 case atStart=>exact .inl ⟨rfl,rfl⟩
 rcases hrel with ⟨rfl,hw⟩|⟨rfl,hA,hB,hK⟩
 ·rw [hw]
  clear hw
  have hD1:=(HB1.out.block D hDb).trans HD.out
  obtain ⟨g0,g1,g2⟩:=cX3 hD1
  first
   |guard_hyp zT29:Tg 1;obtain ⟨W1,hW1⟩:=eN0 (w1.alloc (.cells #[.slice xA xn xc,.int .i64 f,.int .i64 t] 68))
   |obtain ⟨W1,hW1⟩:=eN0 (w1.alloc (.cells #[.string S,.slice none 0 0,.slice (some ⟨O,0,none⟩) 1 1] 63))
  have hbW:Bl w1 W1:=by subst hW1;exact Below.of_alloc _
  have hAW:=HA1.out.below hbW
  have hBW:Below base w W1:=HB1.out.trans (hbW.mono (by omega))
  have KV:=HK1.out W1 hAW hBW
  have HKW:=hI0 (HK.out.trans (KeepO.of_below hbW))
  have HBW:=hI0 hBW
  clear hAW hBW hbW hD1
  go_wp2_with fail
  rw [←hW1]
  clear hW1
  clear g0 g1 g2
  (with_reducible refine KV.mono ?_)
  rintro _ w2 ⟨rfl,hA2,hb2,hk2⟩
  have HF:=hI0 (And.intro hA2 (And.intro (HBW.out.trans hb2) (HKW.out.trans hk2)))
  clear hA2 hb2 hk2 KV
  go_wp2_with fail
  go_roundw
  case rel=>exact .inr ⟨by go_num,HF.out⟩
  case measure=>simp [intOf]
 ·have HF:=hI0 (And.intro hA (And.intro hB hK))
  clear hA hB hK
  go_wp2_with fail
  go_end0
  rw [←List.append_assoc]
  exact ⟨rfl,HF.out⟩) : P := h ⟨⟩
theorem zq43 {P:Prop} (h:P:=by
 unfold RdE
 rw [List.flatMap_singleton]
 refine ⟨by rw [hl];simp,_,1,rfl,Nat.le_refl _,by unfold maxLen;decide,fun h=>(Option.some_ne_none _ h).elim,fun _=>⟨_,rfl,(Array.getElem?_eq_some_iff.1 h).1,fun j u hu=>?_⟩⟩
 have hadd:(⟨b,0,none⟩:Addr).add j=⟨b,j,none⟩:=by unfold Addr.add;split<;>simp_all
 rw [hadd,cW0 w b j (enc x).toArray e (0,0) h]
 simpa using hu) : P := h
theorem zq61 {P:Prop} (i:Nat) (h:Tg i→P:=by
 intro zT61
 first
  |guard_hyp zT61:Tg 3;have g:=cW1 0 hNo rfl
   first
    |guard_hyp zT2:Tg 0;have KI:=bufInt_any B B _ c.tx wo (Nat.le_refl _) HA.out (by have:=HCW.out.tx;omega) (by have:=HCW.out.tx;omega) (by have:=HN.out;omega)
    |have KI:=bufInt_any B B _ 1 wo (Nat.le_refl _) HA.out (by omega) (by omega) (by decide)
  |guard_hyp zT61:Tg 2;have g:=cW1 1 hNo rfl
   first
    |guard_hyp zT2:Tg 0;have KI:=bufInt_any B B _ c.time wo (Nat.le_refl _) HA.out (by have:=HCW.out.time;omega) (by have:=HCW.out.time;omega) (by have:=HN.out;omega)
    |have KI:=bufInt_any B B _ 5 wo (Nat.le_refl _) HA.out (by omega) (by omega) (by decide)
  |guard_hyp zT61:Tg 1;have g:=cW1 3 hNo rfl
   first
    |guard_hyp zT2:Tg 0;have KI:=bufInt_any B B _ c.next wo (Nat.le_refl _) HA.out (by have:=HCW.out.next;omega) (by have:=HCW.out.next;omega) (by have:=HN.out;omega)
    |have KI:=bufInt_any B B _ 1 wo (Nat.le_refl _) HA.out (by omega) (by omega) (by decide)
  |have g:=cW1 2 hNo rfl
   first
    |guard_hyp zT2:Tg 0;have KI:=bufInt_any B B _ c.wall wo (Nat.le_refl _) HA.out (by have:=HCW.out.wall;omega) (by have:=HCW.out.wall;omega) (by have:=HN.out;omega)
    |have KI:=bufInt_any B B _ 5 wo (Nat.le_refl _) HA.out (by omega) (by omega) (by decide)
 clear hNo
 go_wp2_with fail
 (with_reducible refine KI.mono ?_)
 rintro _ w2 ⟨rfl,hA2,hb2,hk2⟩
 first
  |guard_hyp zT61:Tg 3
   first
    |guard_hyp zT2:Tg 0;have HA2:Hid (BufAt w2 B B (f 1)):=hI0 (by rw [HF.out.2.1];exact hA2)
    |have HA2:Hid (BufAt w2 B B (([2,10,10,2]:List UInt8).take 1)):=hI0 hA2
  |guard_hyp zT61:Tg 2
   first
    |guard_hyp zT2:Tg 0;have HA2:Hid (BufAt w2 B B (f 2)):=hI0 (by rw [HF.out.2.2.1];exact hA2)
    |have HA2:Hid (BufAt w2 B B (([2,10,10,2]:List UInt8).take 2)):=hI0 hA2
  |guard_hyp zT61:Tg 1
   first
    |guard_hyp zT2:Tg 0;have HA2:Hid (BufAt w2 B B (f 4)):=hI0 (by rw [HF.out.2.2.2.2];exact hA2)
    |have HA2:Hid (BufAt w2 B B (([2,10,10,2]:List UInt8).take 4)):=hI0 hA2
  |guard_hyp zT2:Tg 0;have HA2:Hid (BufAt w2 B B (f 3)):=hI0 (by rw [HF.out.2.2.2.1];exact hA2)
  |have HA2:Hid (BufAt w2 B B (([2,10,10,2]:List UInt8).take 3)):=hI0 hA2
 have HB2:Hid (Below B W3 w2):=hI0 (HB.out.trans hb2)
 have HK2:Hid (KeepO B W3 w2):=hI0 (HK.out.trans hk2)
 clear hA2 hb2 hk2 KI g
 go_wp2_with fail
 go_roundw
 first
  |guard_hyp zT61:Tg 3
   case rel=>exact ⟨1,by go_num,by omega,HA2,HB2,HK2⟩
  |guard_hyp zT61:Tg 2
   case rel=>exact ⟨2,by go_num,by omega,HA2,HB2,HK2⟩
  |guard_hyp zT61:Tg 1
   case rel=>exact ⟨4,by go_num,by omega,HA2,HB2,HK2⟩
  |case rel=>exact ⟨3,by go_num,by omega,HA2,HB2,HK2⟩
 case measure=>simp [intOf]) : P := h ⟨⟩
theorem zq112 {P:Prop} (h:P:=by
 intro w' hSw;(try dsimp only at hSw);have q0:=hSw 0 _ rfl;go_simp<;>with_reducible rfl) : P := h
theorem zi32 {P:Prop} (h:P:=by intro cur;rw [show w1.heap[w.heap.size]? =_ from hWh];simp):P:=h
theorem rdBlkX {α:Type} {K:Nat} {enc:α→List Value} {w:World} {b:Nat} {x:α} {e:TypeId} (h:w.heap[b]? =some (.cells (enc x).toArray e (0,0))) (hl:(enc x).length=K):RdE K enc w (ltw w) (.slice (some ⟨b,0,none⟩) 1 1) [x]:=by
 exact zq43
def xs7v:List Val:=[⟨1,7,⟨#[]⟩⟩]
theorem chkNilX (w:World):Calls prog 11 #[.agg #[.int .i64 1,.int .i64 5,.int .i64 5,.int .i64 1,.slice none 0 0,.slice none 0 0,.slice none 0 0,.slice none 0 0,.slice none 0 0,.slice none 0 0]] w fun e w'=>e=.returned (.int .i64 0)∧Bl w w':=
 check_any ⟨1,5,5,1,none,0,[],none,0,[],none,0,[],none,0,[],none,0,[],none,0,[]⟩ w
  ⟨Rd.nil _ _ _,(fun x hx=>by cases hx),Rd.nil _ _ _,(fun x hx=>by cases hx),Rd.nil _ _ _,Rd.nil _ _ _,Rd.nil _ _ _,Rd.nil _ _ _⟩
theorem chkOpenX (D O R:Nat) (w:World) (hD:w.heap[D]? =some (.cells #[.string ⟨#[116]⟩,.slice none 0 0,.slice (some ⟨O,0,none⟩) 1 1] 63 (0,0))) (hO:w.heap[O]? =some (.cells #[.slice (some ⟨R,0,none⟩) 1 1,.int .i64 0,.int .i64 3] 68 (0,0))) (hx:RdV w (ltw w) (.slice (some ⟨R,0,none⟩) 1 1) xs7v) (hg:∀x∈xs7v,goV x):
  Calls prog 11 #[.agg #[.int .i64 1,.int .i64 5,.int .i64 5,.int .i64 1,.slice none 0 0,.slice (some ⟨D,0,none⟩) 1 1,.slice none 0 0,.slice none 0 0,.slice none 0 0,.slice none 0 0]] w fun e w'=>e=.returned (.int .i64 0)∧Bl w w':=
 check_any ⟨1,5,5,1,none,0,[],some ⟨D,0,none⟩,1,[⟨⟨#[116]⟩,none,0,[],some ⟨O,0,none⟩,1,[⟨some ⟨R,0,none⟩,1,1,xs7v,0,3⟩]⟩],none,0,[],none,0,[],none,0,[],none,0,[]⟩ w
  ⟨Rd.nil _ _ _,(fun x hx=>by cases hx),rdBlkX hD rfl,(fun x hx=>by rw [List.mem_singleton] at hx;subst hx;exact ⟨Rd.nil _ _ _,⟨rdBlkX hO rfl,fun p hp=>by rw [List.mem_singleton] at hp;subst hp;exact ⟨‹RdV w _ _ xs7v›,hg⟩⟩,⟨by simp,by simp⟩⟩),Rd.nil _ _ _,Rd.nil _ _ _,Rd.nil _ _ _,Rd.nil _ _ _⟩
theorem bufText_any (base B:Nat) (l:List UInt8) (S:ByteArray) (w:World) (hbB:base≤B) (h:BufAt w base B l) (hS:S.size≤300) (hl:l.length+4000≤140737488300000):
  Calls prog 109 #[.pointer (some ⟨B,0,none⟩),.string S] w (BufOut base B (l++(encI S.size++S.data.toList)) w):=by
 exact zq21 1
theorem fact_any (base B:Nat) (l:List UInt8) (xA:Option Addr) (xn xc:Nat) (f t:Int) (xs:List Val) (w:World) (hbB:base≤B) (h:BufAt w base B l) (hx:RdV w (·<base) (.slice xA xn xc) xs) (hok:∀x∈xs,putV x) (hr:(encR xs).length≤4000) (hf1: -9223372036854775808≤f) (hf2:f≤9223372036854775807) (ht1: -9223372036854775808≤t) (ht2:t≤9223372036854775807) (hl:l.length≤1000000):
  Calls prog 155 #[.pointer (some ⟨B,0,none⟩),.agg #[.slice xA xn xc,.int .i64 f,.int .i64 t]] w (BufOut base B (l++(encR xs++(encI f++encI t))) w):=by
 exact zq16 2
theorem put1Fact (base B D:Nat) (l:List UInt8) (xA:Option Addr) (xn xc:Nat) (f t:Int) (xs:List Val) (w:World) (hbB:base≤B) (h:BufAt w base B l) (hD:w.heap[D]? =some (.cells #[.slice xA xn xc,.int .i64 f,.int .i64 t] 68 (0,0))) (hDb:D<base) (hx:RdV w (·<base) (.slice xA xn xc) xs) (hok:∀x∈xs,putV x) (hr:(encR xs).length≤4000) (hf1: -9223372036854775808≤f) (hf2:f≤9223372036854775807) (ht1: -9223372036854775808≤t) (ht2:t≤9223372036854775807) (hl:l.length≤900000):
  Calls prog 154 #[.pointer (some ⟨B,0,none⟩),.slice (some ⟨D,0,none⟩) 1 1,.func (.func 155) #[] #[]] w (BufOut base B (l++(encI 1++(encR xs++(encI f++encI t)))) w):=by
 exact zq29 1
theorem delta1 (base B:Nat) (l:List UInt8) (S:ByteArray) (O:Nat) (xA:Option Addr) (xn xc:Nat) (f t:Int) (xs:List Val) (w:World) (hbB:base≤B) (h:BufAt w base B l) (hx:RdV w (·<base) (.slice xA xn xc) xs) (hok:∀x∈xs,putV x) (hr:(encR xs).length≤4000) (hf1: -9223372036854775808≤f) (hf2:f≤9223372036854775807) (ht1: -9223372036854775808≤t) (ht2:t≤9223372036854775807) (hO:w.heap[O]? =some (.cells #[.slice xA xn xc,.int .i64 f,.int .i64 t] 68 (0,0))) (hOb:O<base) (hS:S.size≤300) (hl:l.length≤800000):
  Calls prog 50 #[.pointer (some ⟨B,0,none⟩),.agg #[.string S,.slice none 0 0,.slice (some ⟨O,0,none⟩) 1 1]] w (BufOut base B (l++((encI S.size++S.data.toList)++(encI 0++(encI 1++(encR xs++(encI f++encI t)))))) w):=by
 exact zq13 1
theorem put1Delta (base B D:Nat) (l:List UInt8) (S:ByteArray) (O:Nat) (xA:Option Addr) (xn xc:Nat) (f t:Int) (xs:List Val) (w:World) (hbB:base≤B) (h:BufAt w base B l) (hD:w.heap[D]? =some (.cells #[.string S,.slice none 0 0,.slice (some ⟨O,0,none⟩) 1 1] 63 (0,0))) (hDb:D<base) (hx:RdV w (·<base) (.slice xA xn xc) xs) (hok:∀x∈xs,putV x) (hr:(encR xs).length≤4000) (hf1: -9223372036854775808≤f) (hf2:f≤9223372036854775807) (ht1: -9223372036854775808≤t) (ht2:t≤9223372036854775807) (hO:w.heap[O]? =some (.cells #[.slice xA xn xc,.int .i64 f,.int .i64 t] 68 (0,0))) (hOb:O<base) (hS:S.size≤300) (hl:l.length≤700000):
  Calls prog 49 #[.pointer (some ⟨B,0,none⟩),.slice (some ⟨D,0,none⟩) 1 1,.func (.func 50) #[] #[]] w (BufOut base B (l++(encI 1++((encI S.size++S.data.toList)++(encI 0++(encI 1++(encR xs++(encI f++encI t))))))) w):=by
 exact zq29 0
theorem xs7v_go:∀x∈xs7v,goV x:=by
 intro x hx
 rw [xs7v,List.mem_singleton] at hx
 subst hx
 unfold goV maxLen
 decide
theorem xs7v_valid:validRowF xs7v=true:=by decide
theorem xs7v_put:(∀x∈xs7v,putV x)∧(encR xs7v).length≤2446:=valid_all (by have:=xs7v_valid;unfold validRowF at this;exact this) xs7v_go
def EncVO (l:List UInt8) (w0:World) (e:Ending) (w:World):Prop:=∃u,e=.returned (.tuple #[u,.int .i64 0])∧RdB w (fun b=>w0.heap.size≤b∧b<w.heap.size) u l∧Bl w0 w
theorem encNilV (w:World):Calls prog 14 #[.agg #[.int .i64 1,.int .i64 5,.int .i64 5,.int .i64 1,.slice none 0 0,.slice none 0 0,.slice none 0 0,.slice none 0 0,.slice none 0 0,.slice none 0 0]] w (EncVO [2,10,10,2,0,0,0,0,0,0] w):=by
 exact zq2 2
theorem encOpenV (D O R:Nat) (w:World) (hD:w.heap[D]? =some (.cells #[.string ⟨#[116]⟩,.slice none 0 0,.slice (some ⟨O,0,none⟩) 1 1] 63 (0,0))) (hO:w.heap[O]? =some (.cells #[.slice (some ⟨R,0,none⟩) 1 1,.int .i64 0,.int .i64 3] 68 (0,0))) (hx:RdV w (ltw w) (.slice (some ⟨R,0,none⟩) 1 1) xs7v):Calls prog 14 #[.agg #[.int .i64 1,.int .i64 5,.int .i64 5,.int .i64 1,.slice none 0 0,.slice (some ⟨D,0,none⟩) 1 1,.slice none 0 0,.slice none 0 0,.slice none 0 0,.slice none 0 0]] w (EncVO [2,10,10,2,0,2,2,116,0,2,2,1,14,0,6,0,0,0,0] w):=by
 exact zq2 1
end Go.Proofs.YtbfdegkickjbpaaGreat
