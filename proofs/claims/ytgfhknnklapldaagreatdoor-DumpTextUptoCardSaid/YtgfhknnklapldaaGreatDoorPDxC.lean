/-
 The reference's text of a state.
-/
import Derived.Test.YtgfhknnklapldaaGreatDoorPDxB
import Derived.Test.YtgfhknnklapldaaGreatDoorPSsA
namespace Go.Proofs.YtgfhknnklapldaaGreatDoor
open Go.Proofs.Tryz
set_option maxRecDepth 99999
set_option maxHeartbeats 0
open Go.RowKit Go.Lib Go.IntWalk Go.Sort Go.Shelf
theorem rwrite_any (c:RSt) (w:World) (hc:c.is w (ltw w)) (hl:c.lim w) (D:duW c):Calls prog 29 #[.agg c.enc.toArray] w (StO (textS c) w):=by
 have hrw:=hl.rows
 obtain ⟨ctx,ctm,cwl,cnx,ceA,ceC,cents,csA,csC,cstms,ctA,ctC,ctabs,cpA,cpC,cpla,cqA,cqC,cpol,chA,chC,chor⟩:=c
 obtain ⟨d1,d2,d3,d4,d5,d6,d7,d8,d9,d10,d11⟩:=D
 simp only at d1 d2 d3 d4 d5 d6 d7 d8 d9 d10 d11 hrw
 obtain ⟨y1,y2,y3,y4,y5,y6,y7,y8⟩:=hc
 simp only at y1 y2 y3 y4 y5 y6 y7 y8
 have HVe:=hI0 y1
 have HVs:=hI0 y3
 have HVt:=hI0 y4
 have HVp:=hI0 y6
 have HVq:=hI0 y7
 have HVh:=hI0 y8
 have z1:=RdE.bd y1
 have z2:=RdE.bd y3
 have z3:=RdE.bd y4
 have z4:=RdE.bd y6
 have z5:=RdE.bd y7
 have z6:=RdE.bd y8
 have HBcents:Hid (∀x∈cents,∀W,Bl w W→Calls prog 85 #[.agg x.enc.toArray] W (StO (jn (entI x)) W)):=hI0 fun x hx W hW=>rentry_any x W (d5 x hx).1 (d5 x hx).2 ((y2 x hx).below hW).create
 have HBcstms:=hI0 d6
 have HBctabs:Hid (∀x∈ctabs,∀W,Bl w W→Calls prog 35 #[.agg x.enc.toArray] W (StO (tvT x) W)):=hI0 fun x hx W hW=>rlines_any x W ((y5 x hx).below hW) (d7 x hx).1 (d7 x hx).2 (hrw x hx).1
 have HBcpla:=hI0 d8
 have HBcpol:=hI0 d9
 have HBchor:=hI0 d10
 obtain ⟨L0,hL0⟩:=eN0 (lineB [wTitle]++lineB (stI ⟨ctx,ctm,cwl,cnx,ceA,ceC,cents,csA,csC,cstms,ctA,ctC,ctabs,cpA,cpC,cpla,cqA,cqC,cpol,chA,chC,chor⟩))
 obtain ⟨L1,hL1⟩:=eN0 (L0++cents.flatMap (fun x=>lineB (entI x)))
 obtain ⟨L2,hL2⟩:=eN0 (L1++cstms.flatMap (fun x=>lineB (stmI x)))
 obtain ⟨L3,hL3⟩:=eN0 (L2++ctabs.flatMap tvT)
 obtain ⟨L4,hL4⟩:=eN0 (L3++cpla.flatMap (fun x=>lineB (hldI x)))
 obtain ⟨L5,hL5⟩:=eN0 (L4++cpol.flatMap (fun x=>lineB (polI x)))
 obtain ⟨L6,hL6⟩:=eN0 (L5++chor.flatMap (fun x=>lineB (horI x)))
 have hTX:textS ⟨ctx,ctm,cwl,cnx,ceA,ceC,cents,csA,csC,cstms,ctA,ctC,ctabs,cpA,cpC,cpla,cqA,cqC,cpol,chA,chC,chor⟩=L6++lineB [wEnd]:=by rw [hL6,hL5,hL4,hL3,hL2,hL1,hL0];rfl
 have HTX:=hI0 hTX
 rw [hTX,List.length_append] at d11
 have hn0:L0.length≤L1.length:=by rw [hL1,List.length_append];omega
 have hn1:L1.length≤L2.length:=by rw [hL2,List.length_append];omega
 have hn2:L2.length≤L3.length:=by rw [hL3,List.length_append];omega
 have hn3:L3.length≤L4.length:=by rw [hL4,List.length_append];omega
 have hn4:L4.length≤L5.length:=by rw [hL5,List.length_append];omega
 have hn5:L5.length≤L6.length:=by rw [hL6,List.length_append];omega
 have HL0:Hid ((L0++cents.flatMap (fun x=>lineB (entI x))).length≤10000000000):=hI0 (by rw [←hL1];omega)
 have HL1:Hid ((L1++cstms.flatMap (fun x=>lineB (stmI x))).length≤10000000000):=hI0 (by rw [←hL2];omega)
 have HL2:Hid ((L2++ctabs.flatMap tvT).length≤10000000000):=hI0 (by rw [←hL3];omega)
 have HL3:Hid ((L3++cpla.flatMap (fun x=>lineB (hldI x))).length≤10000000000):=hI0 (by rw [←hL4];omega)
 have HL4:Hid ((L4++cpol.flatMap (fun x=>lineB (polI x))).length≤10000000000):=hI0 (by rw [←hL5];omega)
 have HL5:Hid ((L5++chor.flatMap (fun x=>lineB (horI x))).length≤10000000000):=hI0 (by rw [←hL6];omega)
 have hz6:(strB L6).size≤10000000000:=strB_sz (by omega)
 have HE0:Hid (L1=L0++cents.flatMap (fun x=>lineB (entI x))):=hI0 hL1
 have HE1:Hid (L2=L1++cstms.flatMap (fun x=>lineB (stmI x))):=hI0 hL2
 have HE2:Hid (L3=L2++ctabs.flatMap tvT):=hI0 hL3
 have HE3:Hid (L4=L3++cpla.flatMap (fun x=>lineB (hldI x))):=hI0 hL4
 have HE4:Hid (L5=L4++cpol.flatMap (fun x=>lineB (polI x))):=hI0 hL5
 have HE5:Hid (L6=L5++chor.flatMap (fun x=>lineB (horI x))):=hI0 hL6
 have HN0:Hid (-9223372036854775808≤ctx∧ctx≤9223372036854775807):=hI0 (by omega)
 have n0:(itoa ctx).length≤21:=itoa_length_le _ HN0.out.1 HN0.out.2
 have HN1:Hid (-9223372036854775808≤ctm∧ctm≤9223372036854775807):=hI0 (by omega)
 have n1:(itoa ctm).length≤21:=itoa_length_le _ HN1.out.1 HN1.out.2
 have HN2:Hid (-9223372036854775808≤cwl∧cwl≤9223372036854775807):=hI0 (by omega)
 have n2:(itoa cwl).length≤21:=itoa_length_le _ HN2.out.1 HN2.out.2
 have HN3:Hid (-9223372036854775808≤cnx∧cnx≤9223372036854775807):=hI0 (by omega)
 have n3:(itoa cnx).length≤21:=itoa_length_le _ HN3.out.1 HN3.out.2
 have HS:Hid ((⟨#[98,105,116,101,109,112,111,114,97,108,32,100,117,109,112,32,49,10,115,116,97,116,101,32]⟩:ByteArray)++strB (itoa ctx)++⟨#[32]⟩++strB (itoa ctm)++⟨#[32]⟩++strB (itoa cwl)++⟨#[32]⟩++strB (itoa cnx)++⟨#[10]⟩=strB L0):=hI0 (by
  rw [hL0]
  apply bas_eq
  simp only [bas_l,bas_s]
  rw [lineB_jn,lineB_jn,jn_one]
  unfold stI
  rw [jn_cons (by simp),jn_cons (by simp),jn_cons (by simp),jn_cons (by simp),jn_one]
  simp [wTitle,wState])
 clear d1 d2 d3 d4 d5 d6 d7 d8 d9 d10 d11 y1 y2 y3 y4 y5 y6 y7 y8 hl hTX hn0 hn1 hn2 hn3 hn4 hn5 hL0 hL1 hL2 hL3 hL4 hL5 hL6 hrw
 show Calls prog 29 #[.agg #[.int .i64 ctx,.int .i64 ctm,.int .i64 cwl,.int .i64 cnx,.slice ceA cents.length ceC,.slice csA cstms.length csC,.slice ctA ctabs.length ctC,.slice cpA cpla.length cpC,.slice cqA cpol.length cqC,.slice chA chor.length chC]] w _
 have HX0:Hid ((w.alloc (.cells #[.int .i64 ctx,.int .i64 ctm,.int .i64 cwl,.int .i64 cnx,.slice ceA cents.length ceC,.slice csA cstms.length csC,.slice ctA ctabs.length ctC,.slice cpA cpla.length cpC,.slice cqA cpol.length cqC,.slice chA chor.length chC] 29)).heap[w.heap.size]? =some (.cells #[.int .i64 ctx,.int .i64 ctm,.int .i64 cwl,.int .i64 cnx,.slice ceA cents.length ceC,.slice csA cstms.length csC,.slice ctA ctabs.length ctC,.slice cpA cpla.length cpC,.slice cqA cpol.length cqC,.slice chA chor.length chC] 29 (0,0))):=hI0 (heap_alloc_new w _)
 have HBX:Hid (Bl w (w.alloc (.cells #[.int .i64 ctx,.int .i64 ctm,.int .i64 cwl,.int .i64 cnx,.slice ceA cents.length ceC,.slice csA cstms.length csC,.slice ctA ctabs.length ctC,.slice cpA cpla.length cpC,.slice cqA cpol.length cqC,.slice chA chor.length chC] 29))):=hI0 (Below.of_alloc _)
 go_in
 go_wp2_with fail
 refine wp_region_noPanic ?_
 refine wp_region_held_drew (S:=(fun Y=>Y.heap[w.heap.size]? =some (.cells #[.int .i64 ctx,.int .i64 ctm,.int .i64 cwl,.int .i64 cnx,.slice ceA cents.length ceC,.slice csA cstms.length csC,.slice ctA ctabs.length ctC,.slice cpA cpla.length cpC,.slice cqA cpol.length cqC,.slice chA chor.length chC] 29 (0,0)))) (by kernel_rfl) ?_ (fun zh=>?_)
 ·exact HX0.out
 refine hT 0 16 ?_
 refine hU 1 17 (v:=?_) zh ?_ ?_
 rotate_left
 ·intro w' hSw;(try dsimp only at hSw);have c0:=cW1 (v:=.int .i64 ctx) 0 hSw rfl;go_simp<;>with_reducible rfl
 refine hT 5 21 ?_
 refine hU 6 22 (v:=?_) zh ?_ ?_
 rotate_left
 ·intro w' hSw;(try dsimp only at hSw);have c1:=cW1 (v:=.int .i64 ctm) 1 hSw rfl;go_simp<;>with_reducible rfl
 refine hT 10 26 ?_
 refine hU 11 27 (v:=?_) zh ?_ ?_
 rotate_left
 ·intro w' hSw;(try dsimp only at hSw);have c2:=cW1 (v:=.int .i64 cwl) 2 hSw rfl;go_simp<;>with_reducible rfl
 refine hT 15 31 ?_
 refine hU 16 32 (v:=?_) zh ?_ ?_
 rotate_left
 ·intro w' hSw;(try dsimp only at hSw);have c3:=cW1 (v:=.int .i64 cnx) 3 hSw rfl;go_simp<;>with_reducible rfl
 refine hC 2 18 ?_
 (with_reducible refine (rnum_any ctx _ HN0.out.1 HN0.out.2).mono ?_)
 rintro _ w1 ⟨rfl,hb1⟩
 have hB1:Bl w w1:=HBX.out.drew.trans (hb1.mono HBX.out.drew.size)
 refine ⟨_,rfl,keepAnd (keepRow hb1 zh) ?_⟩
 clear zh
 intro zh
 simp only [aP]
 refine catH 3 19 (⟨#[98,105,116,101,109,112,111,114,97,108,32,100,117,109,112,32,49,10,115,116,97,116,101,32]⟩) (strB (itoa ctx)) ?_
 refine catH 4 20 (⟨#[98,105,116,101,109,112,111,114,97,108,32,100,117,109,112,32,49,10,115,116,97,116,101,32]⟩++strB (itoa ctx)) (⟨#[32]⟩) ?_
 refine hC 7 23 ?_
 (with_reducible refine (rnum_any ctm w1 HN1.out.1 HN1.out.2).mono ?_)
 rintro _ w2 ⟨rfl,hb2⟩
 have hB2:Bl w w2:=hB1.trans (hb2.mono hB1.size)
 refine ⟨_,rfl,keepAnd (keepRow hb2 zh) ?_⟩
 clear zh
 intro zh
 simp only [aP]
 refine catH 8 24 (⟨#[98,105,116,101,109,112,111,114,97,108,32,100,117,109,112,32,49,10,115,116,97,116,101,32]⟩++strB (itoa ctx)++⟨#[32]⟩) (strB (itoa ctm)) ?_
 refine catH 9 25 (⟨#[98,105,116,101,109,112,111,114,97,108,32,100,117,109,112,32,49,10,115,116,97,116,101,32]⟩++strB (itoa ctx)++⟨#[32]⟩++strB (itoa ctm)) (⟨#[32]⟩) ?_
 refine hC 12 28 ?_
 (with_reducible refine (rnum_any cwl w2 HN2.out.1 HN2.out.2).mono ?_)
 rintro _ w3 ⟨rfl,hb3⟩
 have hB3:Bl w w3:=hB2.trans (hb3.mono hB2.size)
 refine ⟨_,rfl,keepAnd (keepRow hb3 zh) ?_⟩
 clear zh
 intro zh
 simp only [aP]
 refine catH 13 29 (⟨#[98,105,116,101,109,112,111,114,97,108,32,100,117,109,112,32,49,10,115,116,97,116,101,32]⟩++strB (itoa ctx)++⟨#[32]⟩++strB (itoa ctm)++⟨#[32]⟩) (strB (itoa cwl)) ?_
 refine catH 14 30 (⟨#[98,105,116,101,109,112,111,114,97,108,32,100,117,109,112,32,49,10,115,116,97,116,101,32]⟩++strB (itoa ctx)++⟨#[32]⟩++strB (itoa ctm)++⟨#[32]⟩++strB (itoa cwl)) (⟨#[32]⟩) ?_
 refine hC 17 33 ?_
 (with_reducible refine (rnum_any cnx w3 HN3.out.1 HN3.out.2).mono ?_)
 rintro _ w4 ⟨rfl,hb4⟩
 have hB4:Bl w w4:=hB3.trans (hb4.mono hB3.size)
 refine ⟨_,rfl,keepAnd (keepRow hb4 zh) ?_⟩
 clear zh
 intro zh
 simp only [aP]
 refine catH 18 34 (⟨#[98,105,116,101,109,112,111,114,97,108,32,100,117,109,112,32,49,10,115,116,97,116,101,32]⟩++strB (itoa ctx)++⟨#[32]⟩++strB (itoa ctm)++⟨#[32]⟩++strB (itoa cwl)++⟨#[32]⟩) (strB (itoa cnx)) ?_
 refine catH 19 35 (⟨#[98,105,116,101,109,112,111,114,97,108,32,100,117,109,112,32,49,10,115,116,97,116,101,32]⟩++strB (itoa ctx)++⟨#[32]⟩++strB (itoa ctm)++⟨#[32]⟩++strB (itoa cwl)++⟨#[32]⟩++strB (itoa cnx)) (⟨#[10]⟩) ?_
 refine hT 20 3 ?_
 refine rD0 ?_
 have HBx:=hI0 zh
 have HB0:=hI0 hB4
 have cf:=cW1 4 HBx.out rfl
 clear zh hB1 hB2 hB3 hB4 hb1 hb2 hb3 hb4 HX0 HBX
 go_wp2_with fail
 rw [HS.out]
 clear HS n0 n1 n2 n3
 obtain ⟨wb,hwb⟩:=eN0 w4
 rw [←hwb] at HBx HB0 cf ⊢
 clear hwb
 clear cf
 go_loopw [3,39] (fun o i wr=>∃k:Nat,o=.string (strB (L0++(cents.take k).flatMap (fun x=>lineB (entI x))))∧i=.int .i64 (k:Int)∧k≤cents.length∧Hid (Bl wb wr)) (fun _ i _=>cents.length-(intOf i).toNat)
 case atStart=>exact ⟨0,by simp,rfl,Nat.zero_le _,hI0 (Below.refl _ _)⟩
 obtain ⟨k,rfl,rfl,hk,HW⟩:=hrel
 obtain ⟨wi,rfl⟩:=eN0 wr
 have HWw:Hid (Bl w wi):=hI0 (HB0.out.trans (HW.out.mono HB0.out.size))
 by_cases hlt:k<cents.length
 case neg=>
  have HF:Hid (strB (L0++(cents.take k).flatMap (fun x=>lineB (entI x)))=strB (L0++cents.flatMap (fun x=>lineB (entI x)))):=hI0 (by rw [List.take_of_length_le (by omega)])
  rw [HF.out]
  clear HF
  rw [←HE0.out]
  have HBx2:=hI0 (keepRow HW.out HBx.out)
  have HB1:=HWw
  have cf:=cW1 5 HBx2.out rfl
  clear HBx
  have HBx:=HBx2
  go_wp2_with fail
  obtain ⟨wb,hwb⟩:=eN0 wi
  rw [←hwb] at HBx HB1 cf ⊢
  have HB0:=HB1
  clear hwb HB1 HBx2 HW HWw
  clear cf
  go_loopw [3,52] (fun o i wr=>∃k:Nat,o=.string (strB (L1++(cstms.take k).flatMap (fun x=>lineB (stmI x))))∧i=.int .i64 (k:Int)∧k≤cstms.length∧Hid (Bl wb wr)) (fun _ i _=>cstms.length-(intOf i).toNat)
  case atStart=>exact ⟨0,by simp,rfl,Nat.zero_le _,hI0 (Below.refl _ _)⟩
  obtain ⟨k,rfl,rfl,hk,HW⟩:=hrel
  obtain ⟨wi,rfl⟩:=eN0 wr
  have HWw:Hid (Bl w wi):=hI0 (HB0.out.trans (HW.out.mono HB0.out.size))
  by_cases hlt:k<cstms.length
  case neg=>
   have HF:Hid (strB (L1++(cstms.take k).flatMap (fun x=>lineB (stmI x)))=strB (L1++cstms.flatMap (fun x=>lineB (stmI x)))):=hI0 (by rw [List.take_of_length_le (by omega)])
   rw [HF.out]
   clear HF
   rw [←HE1.out]
   have HBx2:=hI0 (keepRow HW.out HBx.out)
   have HB1:=HWw
   have cf:=cW1 6 HBx2.out rfl
   clear HBx
   have HBx:=HBx2
   go_wp2_with fail
   obtain ⟨wb,hwb⟩:=eN0 wi
   rw [←hwb] at HBx HB1 cf ⊢
   have HB0:=HB1
   clear hwb HB1 HBx2 HW HWw
   clear cf
   go_loopw [3,72] (fun o i wr=>∃k:Nat,o=.string (strB (L2++(ctabs.take k).flatMap tvT))∧i=.int .i64 (k:Int)∧k≤ctabs.length∧Hid (Bl wb wr)) (fun _ i _=>ctabs.length-(intOf i).toNat)
   case atStart=>exact ⟨0,by simp,rfl,Nat.zero_le _,hI0 (Below.refl _ _)⟩
   obtain ⟨k,rfl,rfl,hk,HW⟩:=hrel
   obtain ⟨wi,rfl⟩:=eN0 wr
   have HWw:Hid (Bl w wi):=hI0 (HB0.out.trans (HW.out.mono HB0.out.size))
   by_cases hlt:k<ctabs.length
   case neg=>
    have HF:Hid (strB (L2++(ctabs.take k).flatMap tvT)=strB (L2++ctabs.flatMap tvT)):=hI0 (by rw [List.take_of_length_le (by omega)])
    rw [HF.out]
    clear HF
    rw [←HE2.out]
    have HBx2:=hI0 (keepRow HW.out HBx.out)
    have HB1:=HWw
    have cf:=cW1 7 HBx2.out rfl
    clear HBx
    have HBx:=HBx2
    go_wp2_with fail
    obtain ⟨wb,hwb⟩:=eN0 wi
    rw [←hwb] at HBx HB1 cf ⊢
    have HB0:=HB1
    clear hwb HB1 HBx2 HW HWw
    clear cf
    go_loopw [3,84] (fun o i wr=>∃k:Nat,o=.string (strB (L3++(cpla.take k).flatMap (fun x=>lineB (hldI x))))∧i=.int .i64 (k:Int)∧k≤cpla.length∧Hid (Bl wb wr)) (fun _ i _=>cpla.length-(intOf i).toNat)
    case atStart=>exact ⟨0,by simp,rfl,Nat.zero_le _,hI0 (Below.refl _ _)⟩
    obtain ⟨k,rfl,rfl,hk,HW⟩:=hrel
    obtain ⟨wi,rfl⟩:=eN0 wr
    have HWw:Hid (Bl w wi):=hI0 (HB0.out.trans (HW.out.mono HB0.out.size))
    by_cases hlt:k<cpla.length
    case neg=>
     have HF:Hid (strB (L3++(cpla.take k).flatMap (fun x=>lineB (hldI x)))=strB (L3++cpla.flatMap (fun x=>lineB (hldI x)))):=hI0 (by rw [List.take_of_length_le (by omega)])
     rw [HF.out]
     clear HF
     rw [←HE3.out]
     have HBx2:=hI0 (keepRow HW.out HBx.out)
     have HB1:=HWw
     have cf:=cW1 8 HBx2.out rfl
     clear HBx
     have HBx:=HBx2
     go_wp2_with fail
     obtain ⟨wb,hwb⟩:=eN0 wi
     rw [←hwb] at HBx HB1 cf ⊢
     have HB0:=HB1
     clear hwb HB1 HBx2 HW HWw
     clear cf
     go_loopw [3,132] (fun o i wr=>∃k:Nat,o=.string (strB (L4++(cpol.take k).flatMap (fun x=>lineB (polI x))))∧i=.int .i64 (k:Int)∧k≤cpol.length∧Hid (Bl wb wr)) (fun _ i _=>cpol.length-(intOf i).toNat)
     case atStart=>exact ⟨0,by simp,rfl,Nat.zero_le _,hI0 (Below.refl _ _)⟩
     obtain ⟨k,rfl,rfl,hk,HW⟩:=hrel
     obtain ⟨wi,rfl⟩:=eN0 wr
     have HWw:Hid (Bl w wi):=hI0 (HB0.out.trans (HW.out.mono HB0.out.size))
     by_cases hlt:k<cpol.length
     case neg=>
      have HF:Hid (strB (L4++(cpol.take k).flatMap (fun x=>lineB (polI x)))=strB (L4++cpol.flatMap (fun x=>lineB (polI x)))):=hI0 (by rw [List.take_of_length_le (by omega)])
      rw [HF.out]
      clear HF
      rw [←HE4.out]
      have HBx2:=hI0 (keepRow HW.out HBx.out)
      have HB1:=HWw
      have cf:=cW1 9 HBx2.out rfl
      clear HBx
      have HBx:=HBx2
      go_wp2_with fail
      obtain ⟨wb,hwb⟩:=eN0 wi
      rw [←hwb] at HBx HB1 cf ⊢
      have HB0:=HB1
      clear hwb HB1 HBx2 HW HWw
      clear cf
      go_loopw [3,152] (fun o i wr=>∃k:Nat,o=.string (strB (L5++(chor.take k).flatMap (fun x=>lineB (horI x))))∧i=.int .i64 (k:Int)∧k≤chor.length∧Hid (Bl wb wr)) (fun _ i _=>chor.length-(intOf i).toNat)
      case atStart=>exact ⟨0,by simp,rfl,Nat.zero_le _,hI0 (Below.refl _ _)⟩
      obtain ⟨k,rfl,rfl,hk,HW⟩:=hrel
      obtain ⟨wi,rfl⟩:=eN0 wr
      have HWw:Hid (Bl w wi):=hI0 (HB0.out.trans (HW.out.mono HB0.out.size))
      by_cases hlt:k<chor.length
      case neg=>
       have HF:Hid (strB (L5++(chor.take k).flatMap (fun x=>lineB (horI x)))=strB (L5++chor.flatMap (fun x=>lineB (horI x)))):=hI0 (by rw [List.take_of_length_le (by omega)])
       rw [HF.out]
       clear HF
       rw [←HE5.out]
       have HBx2:=hI0 (keepRow HW.out HBx.out)
       have HB1:=HWw
       have hz6':(strB L6).size≤10000000000:=hz6
       go_wp2_with fail
       go_ret
       refine ⟨?_,HWw.out⟩
       rw [HTX.out]
       refine congrArg (fun s=>Ending.returned (.string s)) ?_
       apply bas_eq
       simp only [bas_l,bas_s]
       rfl
      obtain ⟨b2,off,hA,hF,hc⟩:=RdE.at_ (K:=2) (enc:=Hor.enc) (fun _=>rfl) (by omega) (HVh.out.keep (Keeps.below HWw.out)) hlt
      have hq:=hc k hlt
      have hst:=takeA (g:=(fun x=>lineB (horI x))) hlt
      obtain ⟨hso,hsv⟩:=fitG (g:=(fun x=>lineB (horI x))) hlt HL5.out
      have h1x:=HBchor.out chor[k] (List.getElem_mem hlt)
      clear hc
      subst hA
      generalize chor[k]=x at *
      have HST:Hid (strB (L5++(chor.take (k+1)).flatMap (fun x=>lineB (horI x)))=strB (L5++(chor.take k).flatMap (fun x=>lineB (horI x)))++strB (lineB (horI x))):=hI0 (bas_pl (by rw [hst,←List.append_assoc]<;>rfl))
      clear hst
      generalize strB (L5++(chor.take k).flatMap (fun x=>lineB (horI x)))=so at *
      obtain ⟨xn,xv⟩:=x
      have g0:wi.cell? ⟨b2,off+k*2,none⟩=some (.string xn):=hq 0 _ (by omega) rfl
      have g1:wi.cell? ⟨b2,off+k*2+1,none⟩=some (.int .i64 xv):=hq 1 _ (by omega) rfl
      clear hq
      obtain ⟨V1,hV1⟩:=eN0 (wi.alloc (.cells #[.string xn,.int .i64 xv] 93))
      have hbV1:=bN0 hV1
      have hnV1:=hN0 hV1
      have eV1:wi.alloc (.cells #[.string xn,.int .i64 xv] 93)=V1:=by rw [hV1]
      clear hV1
      have HX1:=hI0 hnV1
      have HQ1:Hid (xn.size≤1000):=hI0 (by have q:=h1x;simp only at q;omega)
      have HQ2:Hid (-9223372036854775808≤xv∧xv≤9223372036854775807):=hI0 (by have q:=h1x;simp only at q;omega)
      have m1:=qS_len HQ1.out
      have m2:(itoa xv).length≤21:=itoa_length_le _ HQ2.out.1 HQ2.out.2
      have HIX:Hid (horI ⟨xn,xv⟩=horI ⟨xn,xv⟩):=hI0 rfl
      clear h1x hsv hnV1
      go_wp2_with fail
      clear eV1 g0 g1
      refine wp_region_noPanic ?_
      refine wp_region_held_drew (S:=(fun Y=>Y.heap[wi.heap.size]? =some (.cells #[.string xn,.int .i64 xv] 93 (0,0)))) (by kernel_rfl) ?_ (fun zh=>?_)
      ·exact HX1.out
      refine hT 0 156 ?_
      refine hT 1 157 ?_
      refine hU 2 158 (v:=?_) zh ?_ ?_
      rotate_left
      ·intro w' hSw;(try dsimp only at hSw);have c0:=cW1 (v:=.string xn) 0 hSw rfl;go_simp<;>with_reducible rfl
      refine hT 6 162 ?_
      refine hU 7 163 (v:=?_) zh ?_ ?_
      rotate_left
      ·intro w' hSw;(try dsimp only at hSw);have c1:=cW1 (v:=.int .i64 xv) 1 hSw rfl;go_simp<;>with_reducible rfl
      refine hC 3 159 ?_
      (with_reducible refine (rquote_any xn _ HQ1.out).mono ?_)
      rintro _ x1w ⟨rfl,hc0⟩
      have hD0:Bl wi x1w:=hbV1.drew.trans (hc0.mono hbV1.drew.size)
      refine ⟨_,rfl,keepAnd (keepRow hc0 zh) ?_⟩
      clear zh
      intro zh
      simp only [aP]
      refine catH 4 160 (⟨#[104,111,114,105,122,111,110,32]⟩) (strB (qS xn)) ?_
      refine catH 5 161 (⟨#[104,111,114,105,122,111,110,32]⟩++strB (qS xn)) (⟨#[32]⟩) ?_
      refine hC 8 164 ?_
      (with_reducible refine (rnum_any xv x1w HQ2.out.1 HQ2.out.2).mono ?_)
      rintro _ x2w ⟨rfl,hc1⟩
      have hD1:Bl wi x2w:=hD0.trans (hc1.mono hD0.size)
      refine ⟨_,rfl,keepAnd (keepRow hc1 zh) ?_⟩
      clear zh
      intro zh
      simp only [aP]
      refine catH 9 165 (⟨#[104,111,114,105,122,111,110,32]⟩++strB (qS xn)++⟨#[32]⟩) (strB (itoa xv)) ?_
      refine catH 10 166 (⟨#[104,111,114,105,122,111,110,32]⟩++strB (qS xn)++⟨#[32]⟩++strB (itoa xv)) (⟨#[10]⟩) ?_
      refine catH 11 167 (so) (⟨#[104,111,114,105,122,111,110,32]⟩++strB (qS xn)++⟨#[32]⟩++strB (itoa xv)++⟨#[10]⟩) ?_
      refine hT 12 3 ?_
      refine rD0 ?_
      go_wp2_with fail
      go_roundw
      case rel=>exact ⟨k+1,by rw [HST.out];refine congrArg (fun s=>Value.string (so++s)) ?_;apply bas_eq;simp only [bas_l,bas_s];rw [lineB_jn];unfold horI;rw [jn_cons (by simp),jn_cons (by simp),jn_one];simp [wHorizon],by go_num,by omega,bT0 HW hD1⟩
      case measure=>simp [intOf];omega
     obtain ⟨b2,off,hA,hF,hc⟩:=RdE.at_ (K:=2) (enc:=Pol.enc) (fun _=>rfl) (by omega) (HVq.out.keep (Keeps.below HWw.out)) hlt
     have hq:=hc k hlt
     have hst:=takeA (g:=(fun x=>lineB (polI x))) hlt
     obtain ⟨hso,hsv⟩:=fitG (g:=(fun x=>lineB (polI x))) hlt HL4.out
     have h1x:=HBcpol.out cpol[k] (List.getElem_mem hlt)
     clear hc
     subst hA
     generalize cpol[k]=x at *
     have HST:Hid (strB (L4++(cpol.take (k+1)).flatMap (fun x=>lineB (polI x)))=strB (L4++(cpol.take k).flatMap (fun x=>lineB (polI x)))++strB (lineB (polI x))):=hI0 (bas_pl (by rw [hst,←List.append_assoc]<;>rfl))
     clear hst
     generalize strB (L4++(cpol.take k).flatMap (fun x=>lineB (polI x)))=so at *
     obtain ⟨xn,xv⟩:=x
     have g0:wi.cell? ⟨b2,off+k*2,none⟩=some (.string xn):=hq 0 _ (by omega) rfl
     have g1:wi.cell? ⟨b2,off+k*2+1,none⟩=some (.int .i64 xv):=hq 1 _ (by omega) rfl
     clear hq
     obtain ⟨V1,hV1⟩:=eN0 (wi.alloc (.cells #[.string xn,.int .i64 xv] 90))
     have hbV1:=bN0 hV1
     have hnV1:=hN0 hV1
     have eV1:wi.alloc (.cells #[.string xn,.int .i64 xv] 90)=V1:=by rw [hV1]
     clear hV1
     have HX1:=hI0 hnV1
     have HQ1:Hid (xn.size≤1000):=hI0 (by have q:=h1x;simp only at q;omega)
     have HQ2:Hid (-9223372036854775808≤xv∧xv≤9223372036854775807):=hI0 (by have q:=h1x;simp only at q;omega)
     have m1:=qS_len HQ1.out
     have m2:(itoa xv).length≤21:=itoa_length_le _ HQ2.out.1 HQ2.out.2
     have HIX:Hid (polI ⟨xn,xv⟩=polI ⟨xn,xv⟩):=hI0 rfl
     clear h1x hsv hnV1
     go_wp2_with fail
     clear eV1 g0 g1
     refine wp_region_noPanic ?_
     refine wp_region_held_drew (S:=(fun Y=>Y.heap[wi.heap.size]? =some (.cells #[.string xn,.int .i64 xv] 90 (0,0)))) (by kernel_rfl) ?_ (fun zh=>?_)
     ·exact HX1.out
     refine hT 0 136 ?_
     refine hT 1 137 ?_
     refine hU 2 138 (v:=?_) zh ?_ ?_
     rotate_left
     ·intro w' hSw;(try dsimp only at hSw);have c0:=cW1 (v:=.string xn) 0 hSw rfl;go_simp<;>with_reducible rfl
     refine hT 6 142 ?_
     refine hU 7 143 (v:=?_) zh ?_ ?_
     rotate_left
     ·intro w' hSw;(try dsimp only at hSw);have c1:=cW1 (v:=.int .i64 xv) 1 hSw rfl;go_simp<;>with_reducible rfl
     refine hC 3 139 ?_
     (with_reducible refine (rquote_any xn _ HQ1.out).mono ?_)
     rintro _ x1w ⟨rfl,hc0⟩
     have hD0:Bl wi x1w:=hbV1.drew.trans (hc0.mono hbV1.drew.size)
     refine ⟨_,rfl,keepAnd (keepRow hc0 zh) ?_⟩
     clear zh
     intro zh
     simp only [aP]
     refine catH 4 140 (⟨#[112,111,108,105,99,121,32]⟩) (strB (qS xn)) ?_
     refine catH 5 141 (⟨#[112,111,108,105,99,121,32]⟩++strB (qS xn)) (⟨#[32]⟩) ?_
     refine hC 8 144 ?_
     (with_reducible refine (rnum_any xv x1w HQ2.out.1 HQ2.out.2).mono ?_)
     rintro _ x2w ⟨rfl,hc1⟩
     have hD1:Bl wi x2w:=hD0.trans (hc1.mono hD0.size)
     refine ⟨_,rfl,keepAnd (keepRow hc1 zh) ?_⟩
     clear zh
     intro zh
     simp only [aP]
     refine catH 9 145 (⟨#[112,111,108,105,99,121,32]⟩++strB (qS xn)++⟨#[32]⟩) (strB (itoa xv)) ?_
     refine catH 10 146 (⟨#[112,111,108,105,99,121,32]⟩++strB (qS xn)++⟨#[32]⟩++strB (itoa xv)) (⟨#[10]⟩) ?_
     refine catH 11 147 (so) (⟨#[112,111,108,105,99,121,32]⟩++strB (qS xn)++⟨#[32]⟩++strB (itoa xv)++⟨#[10]⟩) ?_
     refine hT 12 3 ?_
     refine rD0 ?_
     go_wp2_with fail
     go_roundw
     case rel=>exact ⟨k+1,by rw [HST.out];refine congrArg (fun s=>Value.string (so++s)) ?_;apply bas_eq;simp only [bas_l,bas_s];rw [lineB_jn];unfold polI;rw [jn_cons (by simp),jn_cons (by simp),jn_one];simp [wPolicy],by go_num,by omega,bT0 HW hD1⟩
     case measure=>simp [intOf];omega
    obtain ⟨b2,off,hA,hF,hc⟩:=RdE.at_ (K:=6) (enc:=Hld.enc) (fun _=>rfl) (by omega) (HVp.out.keep (Keeps.below HWw.out)) hlt
    have hq:=hc k hlt
    have hst:=takeA (g:=(fun x=>lineB (hldI x))) hlt
    obtain ⟨hso,hsv⟩:=fitG (g:=(fun x=>lineB (hldI x))) hlt HL3.out
    have h1x:=HBcpla.out cpla[k] (List.getElem_mem hlt)
    clear hc
    subst hA
    generalize cpla[k]=x at *
    have HST:Hid (strB (L3++(cpla.take (k+1)).flatMap (fun x=>lineB (hldI x)))=strB (L3++(cpla.take k).flatMap (fun x=>lineB (hldI x)))++strB (lineB (hldI x))):=hI0 (bas_pl (by rw [hst,←List.append_assoc]<;>rfl))
    clear hst
    generalize strB (L3++(cpla.take k).flatMap (fun x=>lineB (hldI x)))=so at *
    obtain ⟨xn,xt,x1,x2,x3,x4⟩:=x
    have g0:wi.cell? ⟨b2,off+k*6,none⟩=some (.string xn):=hq 0 _ (by omega) rfl
    have g1:wi.cell? ⟨b2,off+k*6+1,none⟩=some (.string xt):=hq 1 _ (by omega) rfl
    have g2:wi.cell? ⟨b2,off+k*6+2,none⟩=some (.int .i64 x1):=hq 2 _ (by omega) rfl
    have g3:wi.cell? ⟨b2,off+k*6+3,none⟩=some (.int .i64 x2):=hq 3 _ (by omega) rfl
    have g4:wi.cell? ⟨b2,off+k*6+4,none⟩=some (.int .i64 x3):=hq 4 _ (by omega) rfl
    have g5:wi.cell? ⟨b2,off+k*6+5,none⟩=some (.int .i64 x4):=hq 5 _ (by omega) rfl
    clear hq
    obtain ⟨V1,hV1⟩:=eN0 (wi.alloc (.cells #[.string xn,.string xt,.int .i64 x1,.int .i64 x2,.int .i64 x3,.int .i64 x4] 87))
    have hbV1:=bN0 hV1
    have hnV1:=hN0 hV1
    have eV1:wi.alloc (.cells #[.string xn,.string xt,.int .i64 x1,.int .i64 x2,.int .i64 x3,.int .i64 x4] 87)=V1:=by rw [hV1]
    clear hV1
    have HX1:=hI0 hnV1
    have HQ1:Hid (xn.size≤1000):=hI0 (by have q:=h1x;simp only at q;omega)
    have HQ2:Hid (xt.size≤1000):=hI0 (by have q:=h1x;simp only at q;omega)
    have m1:=qS_len HQ1.out
    have m2:=qS_len HQ2.out
    have HR0:Hid (-9223372036854775808≤x1∧x1≤9223372036854775807):=hI0 (by have q:=h1x;simp only at q;omega)
    have m3:(itoa x1).length≤21:=itoa_length_le _ HR0.out.1 HR0.out.2
    have HR1:Hid (-9223372036854775808≤x2∧x2≤9223372036854775807):=hI0 (by have q:=h1x;simp only at q;omega)
    have m4:(itoa x2).length≤21:=itoa_length_le _ HR1.out.1 HR1.out.2
    have HR2:Hid (-9223372036854775808≤x3∧x3≤9223372036854775807):=hI0 (by have q:=h1x;simp only at q;omega)
    have m5:(itoa x3).length≤21:=itoa_length_le _ HR2.out.1 HR2.out.2
    have HR3:Hid (-9223372036854775808≤x4∧x4≤9223372036854775807):=hI0 (by have q:=h1x;simp only at q;omega)
    have m6:(itoa x4).length≤21:=itoa_length_le _ HR3.out.1 HR3.out.2
    have HIX:Hid (hldI ⟨xn,xt,x1,x2,x3,x4⟩=hldI ⟨xn,xt,x1,x2,x3,x4⟩):=hI0 rfl
    clear h1x hsv hnV1
    go_wp2_with fail
    clear eV1 g0 g1 g2 g3 g4 g5
    refine wp_region_noPanic ?_
    refine wp_region_held_drew (S:=(fun Y=>Y.heap[wi.heap.size]? =some (.cells #[.string xn,.string xt,.int .i64 x1,.int .i64 x2,.int .i64 x3,.int .i64 x4] 87 (0,0)))) (by kernel_rfl) ?_ (fun zh=>?_)
    ·exact HX1.out
    refine hT 0 88 ?_
    refine hT 1 89 ?_
    refine hU 2 90 (v:=?_) zh ?_ ?_
    rotate_left
    ·intro w' hSw;(try dsimp only at hSw);have c0:=cW1 (v:=.string xn) 0 hSw rfl;go_simp<;>with_reducible rfl
    refine hT 6 94 ?_
    refine hU 7 95 (v:=?_) zh ?_ ?_
    rotate_left
    ·intro w' hSw;(try dsimp only at hSw);have c1:=cW1 (v:=.string xt) 1 hSw rfl;go_simp<;>with_reducible rfl
    refine hT 11 99 ?_
    refine hT 12 100 ?_
    refine hT 13 101 ?_
    refine hU 14 102 (v:=?_) zh ?_ ?_
    rotate_left
    ·intro w' hSw;(try dsimp only at hSw);have c2:=cW1 (v:=.int .i64 x1) 2 hSw rfl;go_simp<;>with_reducible rfl
    refine hT 18 106 ?_
    refine hT 19 107 ?_
    refine hT 20 108 ?_
    refine hU 21 109 (v:=?_) zh ?_ ?_
    rotate_left
    ·intro w' hSw;(try dsimp only at hSw);have c3:=cW1 (v:=.int .i64 x2) 3 hSw rfl;go_simp<;>with_reducible rfl
    refine hT 25 113 ?_
    refine hT 26 114 ?_
    refine hT 27 115 ?_
    refine hU 28 116 (v:=?_) zh ?_ ?_
    rotate_left
    ·intro w' hSw;(try dsimp only at hSw);have c4:=cW1 (v:=.int .i64 x3) 4 hSw rfl;go_simp<;>with_reducible rfl
    refine hT 32 120 ?_
    refine hT 33 121 ?_
    refine hT 34 122 ?_
    refine hU 35 123 (v:=?_) zh ?_ ?_
    rotate_left
    ·intro w' hSw;(try dsimp only at hSw);have c5:=cW1 (v:=.int .i64 x4) 5 hSw rfl;go_simp<;>with_reducible rfl
    refine hC 3 91 ?_
    (with_reducible refine (rquote_any xn _ HQ1.out).mono ?_)
    rintro _ x1w ⟨rfl,hc0⟩
    have hD0:Bl wi x1w:=hbV1.drew.trans (hc0.mono hbV1.drew.size)
    refine ⟨_,rfl,keepAnd (keepRow hc0 zh) ?_⟩
    clear zh
    intro zh
    simp only [aP]
    refine catH 4 92 (⟨#[104,111,108,100,32]⟩) (strB (qS xn)) ?_
    refine catH 5 93 (⟨#[104,111,108,100,32]⟩++strB (qS xn)) (⟨#[32]⟩) ?_
    refine hC 8 96 ?_
    (with_reducible refine (rquote_any xt x1w HQ2.out).mono ?_)
    rintro _ x2w ⟨rfl,hc1⟩
    have hD1:Bl wi x2w:=hD0.trans (hc1.mono hD0.size)
    refine ⟨_,rfl,keepAnd (keepRow hc1 zh) ?_⟩
    clear zh
    intro zh
    simp only [aP]
    refine catH 9 97 (⟨#[104,111,108,100,32]⟩++strB (qS xn)++⟨#[32]⟩) (strB (qS xt)) ?_
    refine catH 10 98 (⟨#[104,111,108,100,32]⟩++strB (qS xn)++⟨#[32]⟩++strB (qS xt)) (⟨#[32]⟩) ?_
    refine hC 15 103 ?_
    (with_reducible refine (rnum_any x1 x2w HR0.out.1 HR0.out.2).mono ?_)
    rintro _ x3w ⟨rfl,hc2⟩
    have hD2:Bl wi x3w:=hD1.trans (hc2.mono hD1.size)
    refine ⟨_,rfl,keepAnd (keepRow hc2 zh) ?_⟩
    clear zh
    intro zh
    simp only [aP]
    refine catH 16 104 (⟨#[104,111,108,100,32]⟩++strB (qS xn)++⟨#[32]⟩++strB (qS xt)++⟨#[32]⟩) (strB (itoa x1)) ?_
    refine catH 17 105 (⟨#[104,111,108,100,32]⟩++strB (qS xn)++⟨#[32]⟩++strB (qS xt)++⟨#[32]⟩++strB (itoa x1)) (⟨#[32]⟩) ?_
    refine hC 22 110 ?_
    (with_reducible refine (rnum_any x2 x3w HR1.out.1 HR1.out.2).mono ?_)
    rintro _ x4w ⟨rfl,hc3⟩
    have hD3:Bl wi x4w:=hD2.trans (hc3.mono hD2.size)
    refine ⟨_,rfl,keepAnd (keepRow hc3 zh) ?_⟩
    clear zh
    intro zh
    simp only [aP]
    refine catH 23 111 (⟨#[104,111,108,100,32]⟩++strB (qS xn)++⟨#[32]⟩++strB (qS xt)++⟨#[32]⟩++strB (itoa x1)++⟨#[32]⟩) (strB (itoa x2)) ?_
    refine catH 24 112 (⟨#[104,111,108,100,32]⟩++strB (qS xn)++⟨#[32]⟩++strB (qS xt)++⟨#[32]⟩++strB (itoa x1)++⟨#[32]⟩++strB (itoa x2)) (⟨#[32]⟩) ?_
    refine hC 29 117 ?_
    (with_reducible refine (rnum_any x3 x4w HR2.out.1 HR2.out.2).mono ?_)
    rintro _ x5w ⟨rfl,hc4⟩
    have hD4:Bl wi x5w:=hD3.trans (hc4.mono hD3.size)
    refine ⟨_,rfl,keepAnd (keepRow hc4 zh) ?_⟩
    clear zh
    intro zh
    simp only [aP]
    refine catH 30 118 (⟨#[104,111,108,100,32]⟩++strB (qS xn)++⟨#[32]⟩++strB (qS xt)++⟨#[32]⟩++strB (itoa x1)++⟨#[32]⟩++strB (itoa x2)++⟨#[32]⟩) (strB (itoa x3)) ?_
    refine catH 31 119 (⟨#[104,111,108,100,32]⟩++strB (qS xn)++⟨#[32]⟩++strB (qS xt)++⟨#[32]⟩++strB (itoa x1)++⟨#[32]⟩++strB (itoa x2)++⟨#[32]⟩++strB (itoa x3)) (⟨#[32]⟩) ?_
    refine hC 36 124 ?_
    (with_reducible refine (rnum_any x4 x5w HR3.out.1 HR3.out.2).mono ?_)
    rintro _ x6w ⟨rfl,hc5⟩
    have hD5:Bl wi x6w:=hD4.trans (hc5.mono hD4.size)
    refine ⟨_,rfl,keepAnd (keepRow hc5 zh) ?_⟩
    clear zh
    intro zh
    simp only [aP]
    refine catH 37 125 (⟨#[104,111,108,100,32]⟩++strB (qS xn)++⟨#[32]⟩++strB (qS xt)++⟨#[32]⟩++strB (itoa x1)++⟨#[32]⟩++strB (itoa x2)++⟨#[32]⟩++strB (itoa x3)++⟨#[32]⟩) (strB (itoa x4)) ?_
    refine catH 38 126 (⟨#[104,111,108,100,32]⟩++strB (qS xn)++⟨#[32]⟩++strB (qS xt)++⟨#[32]⟩++strB (itoa x1)++⟨#[32]⟩++strB (itoa x2)++⟨#[32]⟩++strB (itoa x3)++⟨#[32]⟩++strB (itoa x4)) (⟨#[10]⟩) ?_
    refine catH 39 127 (so) (⟨#[104,111,108,100,32]⟩++strB (qS xn)++⟨#[32]⟩++strB (qS xt)++⟨#[32]⟩++strB (itoa x1)++⟨#[32]⟩++strB (itoa x2)++⟨#[32]⟩++strB (itoa x3)++⟨#[32]⟩++strB (itoa x4)++⟨#[10]⟩) ?_
    refine hT 40 3 ?_
    refine rD0 ?_
    go_wp2_with fail
    go_roundw
    case rel=>exact ⟨k+1,by rw [HST.out];refine congrArg (fun s=>Value.string (so++s)) ?_;apply bas_eq;simp only [bas_l,bas_s];rw [lineB_jn];unfold hldI;rw [jn_cons (by simp),jn_cons (by simp),jn_cons (by simp),jn_cons (by simp),jn_cons (by simp),jn_cons (by simp),jn_one];simp [wHold],by go_num,by omega,bT0 HW hD5⟩
    case measure=>simp [intOf];omega
   obtain ⟨b2,off,hA,hF,hc⟩:=RdE.at_ (K:=2) (enc:=RTv.enc) (fun _=>rfl) (by omega) (HVt.out.keep (Keeps.below HWw.out)) hlt
   have hq:=hc k hlt
   have hst:=takeA (g:=tvT) hlt
   obtain ⟨hso,hsv⟩:=fitG (g:=tvT) hlt HL2.out
   have h1x:=HBctabs.out ctabs[k] (List.getElem_mem hlt)
   clear hc
   subst hA
   generalize ctabs[k]=x at *
   have HST:Hid (strB (L2++(ctabs.take (k+1)).flatMap tvT)=strB (L2++(ctabs.take k).flatMap tvT)++strB (tvT x)):=hI0 (bas_pl (by rw [hst,←List.append_assoc]<;>rfl))
   clear hst
   generalize strB (L2++(ctabs.take k).flatMap tvT)=so at *
   obtain ⟨xn,xA,xC,xvs⟩:=x
   have g0:wi.cell? ⟨b2,off+k*2,none⟩=some (.string xn):=hq 0 _ (by omega) rfl
   have g1:wi.cell? ⟨b2,off+k*2+1,none⟩=some (.slice xA xvs.length xC):=hq 1 _ (by omega) rfl
   clear hq
   have hvs:(strB (tvT ⟨xn,xA,xC,xvs⟩)).size≤10000000000:=strB_sz hsv
   have hW1:Bl wi (wi.alloc (.cells #[.string xn,.slice xA xvs.length xC] 37)):=Below.of_alloc _
   have KV:Hid (Calls prog 35 #[.agg #[.string xn,.slice xA xvs.length xC]] (wi.alloc (.cells #[.string xn,.slice xA xvs.length xC] 37)) (StO (tvT ⟨xn,xA,xC,xvs⟩) (wi.alloc (.cells #[.string xn,.slice xA xvs.length xC] 37)))):=hI0 (h1x (wi.alloc (.cells #[.string xn,.slice xA xvs.length xC] 37)) (bU0 HWw hW1))
   have HW1:=bT0 HW hW1
   clear h1x hW1 hsv
   go_wp2_with fail
   clear g0 g1
   (with_reducible refine KV.out.mono ?_)
   rintro _ w2 ⟨rfl,hb2⟩
   have HW2:=bT0 HW1 hb2
   generalize strB (tvT ⟨xn,xA,xC,xvs⟩)=vs at *
   have hz2:so.size+vs.size≤9223372036854775807:=by omega
   clear hb2 KV
   go_wp2_with fail
   go_roundw
   case rel=>exact ⟨k+1,by rw [HST.out],by go_num,by omega,HW2⟩
   case measure=>simp [intOf];omega
  obtain ⟨b2,off,hA,hF,hc⟩:=RdE.at_ (K:=2) (enc:=Stm.enc) (fun _=>rfl) (by omega) (HVs.out.keep (Keeps.below HWw.out)) hlt
  have hq:=hc k hlt
  have hst:=takeA (g:=(fun x=>lineB (stmI x))) hlt
  obtain ⟨hso,hsv⟩:=fitG (g:=(fun x=>lineB (stmI x))) hlt HL1.out
  have h1x:=HBcstms.out cstms[k] (List.getElem_mem hlt)
  clear hc
  subst hA
  generalize cstms[k]=x at *
  have HST:Hid (strB (L1++(cstms.take (k+1)).flatMap (fun x=>lineB (stmI x)))=strB (L1++(cstms.take k).flatMap (fun x=>lineB (stmI x)))++strB (lineB (stmI x))):=hI0 (bas_pl (by rw [hst,←List.append_assoc]<;>rfl))
  clear hst
  generalize strB (L1++(cstms.take k).flatMap (fun x=>lineB (stmI x)))=so at *
  obtain ⟨xt,xw⟩:=x
  have g0:wi.cell? ⟨b2,off+k*2,none⟩=some (.int .i64 xt):=hq 0 _ (by omega) rfl
  have g1:wi.cell? ⟨b2,off+k*2+1,none⟩=some (.int .i64 xw):=hq 1 _ (by omega) rfl
  clear hq
  obtain ⟨V1,hV1⟩:=eN0 (wi.alloc (.cells #[.int .i64 xt,.int .i64 xw] 82))
  have hbV1:=bN0 hV1
  have hnV1:=hN0 hV1
  have eV1:wi.alloc (.cells #[.int .i64 xt,.int .i64 xw] 82)=V1:=by rw [hV1]
  clear hV1
  have HX1:=hI0 hnV1
  have HQ1:Hid (-9223372036854775808≤xt∧xt≤9223372036854775807):=hI0 (by have q:=h1x;simp only at q;omega)
  have HQ2:Hid (-9223372036854775808≤xw∧xw≤9223372036854775807):=hI0 (by have q:=h1x;simp only at q;omega)
  have m1:(itoa xt).length≤21:=itoa_length_le _ HQ1.out.1 HQ1.out.2
  have m2:(itoa xw).length≤21:=itoa_length_le _ HQ2.out.1 HQ2.out.2
  have HIX:Hid (stmI ⟨xt,xw⟩=stmI ⟨xt,xw⟩):=hI0 rfl
  clear h1x hsv hnV1
  go_wp2_with fail
  clear eV1 g0 g1
  refine wp_region_noPanic ?_
  refine wp_region_held_drew (S:=(fun Y=>Y.heap[wi.heap.size]? =some (.cells #[.int .i64 xt,.int .i64 xw] 82 (0,0)))) (by kernel_rfl) ?_ (fun zh=>?_)
  ·exact HX1.out
  refine hT 0 56 ?_
  refine hT 1 57 ?_
  refine hU 2 58 (v:=?_) zh ?_ ?_
  rotate_left
  ·intro w' hSw;(try dsimp only at hSw);have c0:=cW1 (v:=.int .i64 xt) 0 hSw rfl;go_simp<;>with_reducible rfl
  refine hT 6 62 ?_
  refine hU 7 63 (v:=?_) zh ?_ ?_
  rotate_left
  ·intro w' hSw;(try dsimp only at hSw);have c1:=cW1 (v:=.int .i64 xw) 1 hSw rfl;go_simp<;>with_reducible rfl
  refine hC 3 59 ?_
  (with_reducible refine (rnum_any xt _ HQ1.out.1 HQ1.out.2).mono ?_)
  rintro _ x1w ⟨rfl,hc0⟩
  have hD0:Bl wi x1w:=hbV1.drew.trans (hc0.mono hbV1.drew.size)
  refine ⟨_,rfl,keepAnd (keepRow hc0 zh) ?_⟩
  clear zh
  intro zh
  simp only [aP]
  refine catH 4 60 (⟨#[115,116,97,109,112,32]⟩) (strB (itoa xt)) ?_
  refine catH 5 61 (⟨#[115,116,97,109,112,32]⟩++strB (itoa xt)) (⟨#[32]⟩) ?_
  refine hC 8 64 ?_
  (with_reducible refine (rnum_any xw x1w HQ2.out.1 HQ2.out.2).mono ?_)
  rintro _ x2w ⟨rfl,hc1⟩
  have hD1:Bl wi x2w:=hD0.trans (hc1.mono hD0.size)
  refine ⟨_,rfl,keepAnd (keepRow hc1 zh) ?_⟩
  clear zh
  intro zh
  simp only [aP]
  refine catH 9 65 (⟨#[115,116,97,109,112,32]⟩++strB (itoa xt)++⟨#[32]⟩) (strB (itoa xw)) ?_
  refine catH 10 66 (⟨#[115,116,97,109,112,32]⟩++strB (itoa xt)++⟨#[32]⟩++strB (itoa xw)) (⟨#[10]⟩) ?_
  refine catH 11 67 (so) (⟨#[115,116,97,109,112,32]⟩++strB (itoa xt)++⟨#[32]⟩++strB (itoa xw)++⟨#[10]⟩) ?_
  refine hT 12 3 ?_
  refine rD0 ?_
  go_wp2_with fail
  go_roundw
  case rel=>exact ⟨k+1,by rw [HST.out];refine congrArg (fun s=>Value.string (so++s)) ?_;apply bas_eq;simp only [bas_l,bas_s];rw [lineB_jn];unfold stmI;rw [jn_cons (by simp),jn_cons (by simp),jn_one];simp [wStamp],by go_num,by omega,bT0 HW hD1⟩
  case measure=>simp [intOf];omega
 obtain ⟨b2,off,hA,hF,hc⟩:=RdE.at_ (K:=16) (enc:=REn.enc) (fun _=>rfl) (by omega) (HVe.out.keep (Keeps.below HWw.out)) hlt
 have hq:=hc k hlt
 have hst:=takeA (g:=(fun x=>lineB (entI x))) hlt
 obtain ⟨hso,hsv⟩:=fitG (g:=(fun x=>lineB (entI x))) hlt HL0.out
 have h1x:=HBcents.out cents[k] (List.getElem_mem hlt)
 clear hc
 subst hA
 generalize cents[k]=x at *
 have HST:Hid (strB (L0++(cents.take (k+1)).flatMap (fun x=>lineB (entI x)))=strB (L0++(cents.take k).flatMap (fun x=>lineB (entI x)))++(strB (jn (entI x))++⟨#[10]⟩)):=hI0 (bas_lf (by rw [hst,←List.append_assoc]<;>rfl))
 clear hst
 generalize strB (L0++(cents.take k).flatMap (fun x=>lineB (entI x)))=so at *
 have hvs:(strB (jn (entI x))).size≤10000000000:=strB_sz (by rw [lineB_jn,List.length_append] at hsv;omega)
 clear hsv
 have hcl:∀j v,x.enc[j]? =some v→wi.cell? ⟨b2,off+k*16+j,none⟩=some v:=fun j v hj=>hq j v (by have:=(List.getElem?_eq_some_iff.1 hj).1;exact this) hj
 have HCL:=hI0 hcl
 have H1X:=hI0 h1x
 have hxl:x.enc.length=16:=rfl
 have hx1:x.enc.toArray.toList.all Value.oneCell'=true:=rfl
 have hxs:x.enc.toArray.size=16:=rfl
 clear hq hcl h1x
 generalize hcs:x.enc=cs at *
 have HCS:=hI0 hcs
 have hz0:(wi.alloc (.cells #[.int .i64 0,.string ⟨#[]⟩,.string ⟨#[]⟩,.slice none 0 0,.slice none 0 0,.slice none 0 0,.slice none 0 0,.int .i64 0,.string ⟨#[]⟩,.string ⟨#[]⟩,.string ⟨#[]⟩,.int .i64 0,.bool false,.int .i64 0,.int .i64 0,.string ⟨#[]⟩] 79)).heap[wi.heap.size]? =some (.cells #[.int .i64 0,.string ⟨#[]⟩,.string ⟨#[]⟩,.slice none 0 0,.slice none 0 0,.slice none 0 0,.slice none 0 0,.int .i64 0,.string ⟨#[]⟩,.string ⟨#[]⟩,.string ⟨#[]⟩,.int .i64 0,.bool false,.int .i64 0,.int .i64 0,.string ⟨#[]⟩] 79 (0,0)):=heap_alloc_new _ _
 have HZ0:=hI0 hz0
 clear hcs hz0
 go_wp2_with (first|(refine ldE 41 sz_den ag_den HCL.out hxl ?_)|(refine stU 5 42 sz_den HZ0.out rfl ?_ hxs rfl hx1;intro W4 hX4 hc4)|(refine ldR 5 sz_den ag_den hX4 ?_ hxs))
 have hb4:Bl wi W4:=(Below.of_alloc _).trans (hc4.below (by simp) (fun i hi=>by omega))
 have HB4:Hid (Bl wi W4):=hI0 hb4
 have KC:Hid (Calls prog 85 #[.agg cs.toArray] W4 (StO (jn (entI x)) W4)):=hI0 (H1X.out W4 (bU0 HWw hb4))
 clear HCL HZ0 hX4 hc4 hxl hx1 hxs hb4
 (with_reducible refine KC.out.mono ?_)
 rintro _ W5 ⟨rfl,hb5⟩
 have HW2:=hI0 ((HW.out.trans (HB4.out.mono HW.out.size)).trans (hb5.mono (HW.out.trans (HB4.out.mono HW.out.size)).size))
 generalize strB (jn (entI x))=vs at *
 have hz1:vs.size+(⟨#[10]⟩:ByteArray).size≤9223372036854775807:=by simp only [bas_mk,List.size_toArray,List.length_cons,List.length_nil];omega
 have hz2:so.size+(vs++(⟨#[10]⟩:ByteArray)).size≤9223372036854775807:=by simp only [bas_app,bas_mk,List.size_toArray,List.length_cons,List.length_nil];omega
 clear hb5 KC
 go_wp2_with fail
 go_roundw
 case rel=>exact ⟨k+1,by rw [HST.out],by go_num,by omega,HW2⟩
 case measure=>simp [intOf];omega
theorem rtext_any (c:RSt) (w:World) (hc:c.is w (ltw w)) (hl:c.lim w):Calls prog 11 #[.agg c.enc.toArray] w (TxOut c w):=by
 have KE:Hid (∀W,Bl w W→Calls prog 28 #[.agg c.enc.toArray] W fun e w'=>e=.returned (.int .i64 (stateF c))∧Bl W w'):=hI0 fun W hW=>kstate_any c W (hc.below hW) (hl.below hW)
 have KW:Hid (stateF c=0→∀W,Bl w W→Calls prog 29 #[.agg c.enc.toArray] W (StO (textS c) W)):=hI0 fun h0 W hW=>rwrite_any c W (hc.below hW) (hl.below hW) (du_W h0 hl)
 unfold TxOut txT
 generalize textS c=tx at *
 generalize stateF c=E at *
 have HT0:Hid (E≠0→(if E=0 then tx else [])=[]):=hI0 fun h=>if_neg h
 have HT1:Hid (E=0→(if E=0 then tx else [])=tx):=hI0 fun h=>if_pos h
 generalize (if E=0 then tx else [])=TT at *
 clear hc hl
 obtain ⟨ctx,ctm,cwl,cnx,ceA,ceC,cents,csA,csC,cstms,ctA,ctC,ctabs,cpA,cpC,cpla,cqA,cqC,cpol,chA,chC,chor⟩:=c
 have KE2:Hid (∀W,Bl w W→Calls prog 28 #[.agg #[.int .i64 ctx,.int .i64 ctm,.int .i64 cwl,.int .i64 cnx,.slice ceA cents.length ceC,.slice csA cstms.length csC,.slice ctA ctabs.length ctC,.slice cpA cpla.length cpC,.slice cqA cpol.length cqC,.slice chA chor.length chC]] W fun e w'=>e=.returned (.int .i64 E)∧Bl W w'):=KE
 have KW2:Hid (E=0→∀W,Bl w W→Calls prog 29 #[.agg #[.int .i64 ctx,.int .i64 ctm,.int .i64 cwl,.int .i64 cnx,.slice ceA cents.length ceC,.slice csA cstms.length csC,.slice ctA ctabs.length ctC,.slice cpA cpla.length cpC,.slice cqA cpol.length cqC,.slice chA chor.length chC]] W (StO tx W)):=KW
 clear KE KW
 show Calls prog 11 #[.agg #[.int .i64 ctx,.int .i64 ctm,.int .i64 cwl,.int .i64 cnx,.slice ceA cents.length ceC,.slice csA cstms.length csC,.slice ctA ctabs.length ctC,.slice cpA cpla.length cpC,.slice cqA cpol.length cqC,.slice chA chor.length chC]] w _
 obtain ⟨W1,hW1⟩:=eN0 (w.alloc (.cells #[.int .i64 ctx,.int .i64 ctm,.int .i64 cwl,.int .i64 cnx,.slice ceA cents.length ceC,.slice csA cstms.length csC,.slice ctA ctabs.length ctC,.slice cpA cpla.length cpC,.slice cqA cpol.length cqC,.slice chA chor.length chC] 29))
 have hbW1:=bN0 hW1
 have hnW1:=hN0 hW1
 have eW1:w.alloc (.cells #[.int .i64 ctx,.int .i64 ctm,.int .i64 cwl,.int .i64 cnx,.slice ceA cents.length ceC,.slice csA cstms.length csC,.slice ctA ctabs.length ctC,.slice cpA cpla.length cpC,.slice cqA cpol.length cqC,.slice chA chor.length chC] 29)=W1:=by rw [hW1]
 clear hW1
 have HB1:=hI0 hbW1
 have HX1:=hI0 hnW1
 have K1:=hI0 (KE2.out W1 HB1.out)
 obtain ⟨a0,a1,a2,a3,a4,a5,a6,a7,a8,a9⟩:=cX10 hnW1
 clear hbW1 hnW1
 go_in
 go_wp2_with fail
 clear eW1 a0 a1 a2 a3 a4 a5 a6 a7 a8 a9
 (with_reducible refine K1.out.mono ?_)
 rintro _ w2 ⟨rfl,hb2⟩
 have HB2:=bT0 HB1 hb2
 have HX2:=hI0 (keepRow hb2 HX1.out)
 clear hb2 K1
 by_cases h0:E=0
 case neg=>
  have hE:(E != 0)=true:=by rw [bne_iff_ne];exact h0
  have HN:=hI0 h0
  clear h0
  go_wp2_with fail
  go_ret2
  exact ⟨by rw [HT0.out HN.out];rfl,HB2.out⟩
 have hE:(E != 0)=false:=by rw [h0];rfl
 have HE:=hI0 h0
 have K2:=hI0 (KW2.out h0 w2 HB2.out)
 obtain ⟨a0,a1,a2,a3,a4,a5,a6,a7,a8,a9⟩:=cX10 HX2.out
 clear h0
 go_wp2_with fail
 clear a0 a1 a2 a3 a4 a5 a6 a7 a8 a9
 (with_reducible refine K2.out.mono ?_)
 rintro _ w3 ⟨rfl,hb3⟩
 go_wp2_with fail
 go_ret2
 exact ⟨by rw [HT1.out HE.out,HE.out];rfl,bU0 HB2 hb3⟩
end Go.Proofs.YtgfhknnklapldaaGreatDoor
