/-
 DuJ
-/
import Derived.Test.YtgfhknnklapldaaGreatDoorBDuI
import Derived.Laws.Cells
import Derived.Test.YtgfhknnklapldaaGreatDoorBBase
import Derived.Test.YtgfhknnklapldaaGreatDoorBRr1
import Derived.Test.YtgfhknnklapldaaGreatDoorBDuG
namespace Go.Proofs.YtgfhknnklapldaaGreatDoor
open Go.Proofs.Tryz
set_option maxRecDepth 99999
set_option maxHeartbeats 0
open Go.RowKit Go.Lib Go.IntWalk Go.Sort Go.Shelf
section
variable {P:Program} {ops:Array Oper} {Q:Exit→Act→World→Prop} {md:Region.Mode} {S:World→Prop} {fuel:Nat} {listed:Array Bool} {a:Act} {w:World}
theorem forkH1 (i:Nat) (hr:Region.ready md ops listed=[i])
  (h1:wpOp P ops Q i (fun a' w'=>S w'∧wpAnyH P md ops Q S fuel (listed.setIfInBounds i true) a' w') a w):wpAnyH P md ops Q S (fuel+1) listed a w:=by
 refine ⟨fun h0=>(by rw [hr] at h0;cases h0),fun k hk=>?_⟩
 rw [hr,List.mem_singleton] at hk
 subst hk
 exact h1
theorem forkH2 (i j:Nat) (hr:Region.ready md ops listed=[i,j])
  (h1:wpOp P ops Q i (fun a' w'=>S w'∧wpAnyH P md ops Q S fuel (listed.setIfInBounds i true) a' w') a w)
  (h2:wpOp P ops Q j (fun a' w'=>S w'∧wpAnyH P md ops Q S fuel (listed.setIfInBounds j true) a' w') a w):wpAnyH P md ops Q S (fuel+1) listed a w:=by
 refine ⟨fun h0=>(by rw [hr] at h0;cases h0),fun k hk=>?_⟩
 rw [hr] at hk
 rcases List.mem_cons.1 hk with rfl|hk
 ·exact h1
 ·rw [List.mem_singleton] at hk
  subst hk
  exact h2
end
section
variable {P:Program} {t e:TypeId} {w:World} {ops:Array Oper} {rest:List Oper} {o:Oper} {a:Act} {Q:Exit→Act→World→Prop} {cs:List Value} {b off:Nat}
theorem ldE (i:Nat) {n:Nat} (hz:∀w,(Go.sizeOf t).run P w=.ok n w) (ha:∀w,(isAgg t).run P w=.ok true w) (hc:∀j v,cs[j]? =some v→w.cell? ⟨b,off+j,none⟩=some v) (hs:cs.length=n) (hK:wpList P ops Q rest (a.put o.dst (.agg cs.toArray)) w) (hgd:o.guard=none:=by rfl) (hop:o.op=.load t (.tmp i):=by rfl) (hp:a.eval (.tmp i)=.pointer (some ⟨b,off,none⟩):=by rfl):wpList P ops Q (o::rest) a w:=
 wpList_plain hgd fun K' hK'=>by
  have h1:(loadCells ⟨b,off,none⟩ cs.length).run P w=.ok cs.toArray w:=run_loadCells_list (P:=P) w ⟨b,off,none⟩ cs (fun j v hj=>by
   have hadd:(⟨b,off,none⟩:Addr).add j=⟨b,off+j,none⟩:=by unfold Addr.add;split<;>simp_all
   rw [hadd];exact hc j v hj)
  have h2:(Instr.loadAt t (.pointer (some ⟨b,off,none⟩))).run P w=.ok (.agg cs.toArray) w:=by
   rw [hs] at h1
   simp [Instr.loadAt,loadVar,Instr.sureAddr,ha,hz,h1]
  unfold Oper.wp execOp
  simp only [hop,hp,Sem.run_bind,h2,Result.andThen_ok,Sem.run_pure]
  exact hK' _ _ hK
end
theorem sz_den (w:World):(Go.sizeOf 79).run prog w=.ok 16 w:=by simp [go_sem]
theorem ag_den (w:World):(isAgg 79).run prog w=.ok true w:=by simp [isAgg,go_sem]
theorem takeA {α:Type} {g:α→List UInt8} {l:List α} {k:Nat} (h:k<l.length):(l.take (k+1)).flatMap g=(l.take k).flatMap g++g l[k]:=by
 rw [List.take_succ_eq_append_getElem h,List.flatMap_append,List.flatMap_singleton]
theorem fitA {α:Type} {g:α→List UInt8} {L:List UInt8} {l:List α} {k:Nat} (h:k<l.length) (hl:(L++l.flatMap g).length≤10000000000):(L++(l.take k).flatMap g).length+(g l[k]).length≤10000000000:=by
 have q:=takeG_le (g:=g) (l:=l) (k+1)
 rw [takeA h,List.length_append] at q
 rw [List.length_append] at hl ⊢
 omega
def txT (c:RSt):List UInt8:=if stateF c=0 then textS c else []
def TxOut (c:RSt) (w0:World) (e:Ending) (w:World):Prop:=e=.returned (.tuple #[.string (strB (txT c)),.int .i64 (stateF c)])∧Bl w0 w
theorem EnvP.b {b:Nat} {w w':World} (h:EnvP b w) (hb:Bl w w'):EnvP b w':=by
 obtain ⟨w0,h1,h2,h3⟩:=h
 exact ⟨w0,h1,h2,h3.trans (hb.mono h3.size)⟩
theorem PrAt.cast {w:World} {b:Nat} {l m:List UInt8} (h:PrAt w b l) (e:l=m):PrAt w b m:=e▸h
theorem dtextE_any (c:RSt) (w:World) (hc:c.is w (ltw w)) (hl:c.lim w) (h0:¬stateF c=0):Calls prog 10 #[.agg c.enc.toArray] w (TxOut c w):=by
 have hb:Bl w (w.alloc (.cells c.enc.toArray 29)):=Below.of_alloc _
 have KE:=hI0 (recEncodeState_any c _ (hc.below hb) (hl.below hb))
 have HTX:Hid (txT c=[]):=hI0 (by unfold txT;rw [if_neg h0])
 unfold TxOut
 rw [HTX.out]
 unfold EncSO at KE
 generalize stateF c=E at *
 have hE:(E != 0)=true:=by rw [bne_iff_ne];exact h0
 clear hc hl h0
 obtain ⟨ctx,ctm,cwl,cnx,ceA,ceC,cents,csA,csC,cstms,ctA,ctC,ctabs,cpA,cpC,cpla,cqA,cqC,cpol,chA,chC,chor⟩:=c
 show Calls prog 10 #[.agg #[.int .i64 ctx,.int .i64 ctm,.int .i64 cwl,.int .i64 cnx,.slice ceA cents.length ceC,.slice csA cstms.length csC,.slice ctA ctabs.length ctC,.slice cpA cpla.length cpC,.slice cqA cpol.length cqC,.slice chA chor.length chC]] w _
 have KE2:Calls prog 20 #[.agg #[.int .i64 ctx,.int .i64 ctm,.int .i64 cwl,.int .i64 cnx,.slice ceA cents.length ceC,.slice csA cstms.length csC,.slice ctA ctabs.length ctC,.slice cpA cpla.length cpC,.slice cqA cpol.length cqC,.slice chA chor.length chC]] (w.alloc (.cells #[.int .i64 ctx,.int .i64 ctm,.int .i64 cwl,.int .i64 cnx,.slice ceA cents.length ceC,.slice csA cstms.length csC,.slice ctA ctabs.length ctC,.slice cpA cpla.length cpC,.slice cqA cpol.length cqC,.slice chA chor.length chC] 29)) _:=KE.out
 have HB:=hI0 hb
 clear KE hb
 go_in
 go_wp2_with fail
 (with_reducible refine KE2.mono ?_)
 rintro _ w2 ⟨u,rfl,-,hb2,-⟩
 go_wp2_with fail
 go_ret2
 exact ⟨rfl,bU0 HB hb2⟩
theorem dtextO_any (c:RSt) (w:World) (he:EnvD w) (hc:c.is w (ltw w)) (hl:c.lim w) (h0:stateF c=0):Calls prog 10 #[.agg c.enc.toArray] w (TxOut c w):=by
 have KE:∀W,Bl w W→Calls prog 20 #[.agg c.enc.toArray] W (fun e w'=>∃u,e=.returned (.tuple #[u,.int .i64 0])∧Bl W w'):=fun W hW=>
  (recEncodeState_any c W (hc.below hW) (hl.below hW)).mono fun e w' ⟨u,h1,_,h3,_⟩=>⟨u,by rw [h1,h0],h3⟩
 have D:=du_W h0 hl
 have HZ:=hI0 h0
 clear h0
 obtain ⟨ctx,ctm,cwl,cnx,ceA,ceC,cents,csA,csC,cstms,ctA,ctC,ctabs,cpA,cpC,cpla,cqA,cqC,cpol,chA,chC,chor⟩:=c
 obtain ⟨d1,d2,d3,d4,d5,d6,d7,d8,d9,d10,d11⟩:=D
 simp only at d1 d2 d3 d4 d5 d6 d7 d8 d9 d10 d11
 obtain ⟨y1,y2,y3,y4,y5,y6,y7,y8⟩:=hc
 simp only at y1 y2 y3 y4 y5 y6 y7 y8
 have HVe:=hI0 y1
 have HVs:=hI0 y3
 have HVt:=hI0 y4
 have HVp:=hI0 y6
 have HVq:=hI0 y7
 have HVh:=hI0 y8
 have z1:=RdE.bd y1
 have z2:=RdE.bd y3
 have z3:=RdE.bd y4
 have z4:=RdE.bd y6
 have z5:=RdE.bd y7
 have z6:=RdE.bd y8
 have HEN:Hid (∀x∈cents,(x.ok=true∧x.sz≤1048576)∧x.is w (ltw w)):=hI0 fun x hx=>⟨d5 x hx,y2 x hx⟩
 have HSM:=hI0 d6
 have HTV:Hid (∀x∈ctabs,(x.table.size≤24∧∀p∈x.vers,validVer p.2=true)∧x.is w (ltw w)):=hI0 fun x hx=>⟨d7 x hx,y5 x hx⟩
 have HPL:=hI0 d8
 have HPO:=hI0 d9
 have HHO:=hI0 d10
 obtain ⟨L0,hL0⟩:=eN0 (lineB [wTitle]++lineB (stI ⟨ctx,ctm,cwl,cnx,ceA,ceC,cents,csA,csC,cstms,ctA,ctC,ctabs,cpA,cpC,cpla,cqA,cqC,cpol,chA,chC,chor⟩))
 obtain ⟨L1,hL1⟩:=eN0 (L0++cents.flatMap (fun x=>lineB (entI x)))
 obtain ⟨L2,hL2⟩:=eN0 (L1++cstms.flatMap (fun x=>lineB (stmI x)))
 obtain ⟨L3,hL3⟩:=eN0 (L2++ctabs.flatMap tvT)
 obtain ⟨L4,hL4⟩:=eN0 (L3++cpla.flatMap (fun x=>lineB (hldI x)))
 obtain ⟨L5,hL5⟩:=eN0 (L4++cpol.flatMap (fun x=>lineB (polI x)))
 obtain ⟨L6,hL6⟩:=eN0 (L5++chor.flatMap (fun x=>lineB (horI x)))
 have hTX:textS ⟨ctx,ctm,cwl,cnx,ceA,ceC,cents,csA,csC,cstms,ctA,ctC,ctabs,cpA,cpC,cpla,cqA,cqC,cpol,chA,chC,chor⟩=L6++lineB [wEnd]:=by rw [hL6,hL5,hL4,hL3,hL2,hL1,hL0];rfl
 have HTX:=hI0 hTX
 rw [hTX,List.length_append] at d11
 have hn0:L0.length≤L1.length:=by rw [hL1,List.length_append];omega
 have hn1:L1.length≤L2.length:=by rw [hL2,List.length_append];omega
 have hn2:L2.length≤L3.length:=by rw [hL3,List.length_append];omega
 have hn3:L3.length≤L4.length:=by rw [hL4,List.length_append];omega
 have hn4:L4.length≤L5.length:=by rw [hL5,List.length_append];omega
 have hn5:L5.length≤L6.length:=by rw [hL6,List.length_append];omega
 have HL0:Hid ((L0++cents.flatMap (fun x=>lineB (entI x))).length≤10000000000):=hI0 (by rw [←hL1];omega)
 have HL1:Hid ((L1++cstms.flatMap (fun x=>lineB (stmI x))).length≤10000000000):=hI0 (by rw [←hL2];omega)
 have HL2:Hid ((L2++ctabs.flatMap tvT).length≤10000000000):=hI0 (by rw [←hL3];omega)
 have HL3:Hid ((L3++cpla.flatMap (fun x=>lineB (hldI x))).length≤10000000000):=hI0 (by rw [←hL4];omega)
 have HL4:Hid ((L4++cpol.flatMap (fun x=>lineB (polI x))).length≤10000000000):=hI0 (by rw [←hL5];omega)
 have HL5:Hid ((L5++chor.flatMap (fun x=>lineB (horI x))).length≤10000000000):=hI0 (by rw [←hL6];omega)
 have HL6:Hid ((L6++lineB [wEnd]).length≤10000000000):=hI0 (by rw [List.length_append];omega)
 have HEz:Hid (L1=L0++cents.flatMap (fun x=>lineB (entI x))):=hI0 hL1
 have HE1:Hid (L2=L1++cstms.flatMap (fun x=>lineB (stmI x))):=hI0 hL2
 have HE2:Hid (L3=L2++ctabs.flatMap tvT):=hI0 hL3
 have HE3:Hid (L4=L3++cpla.flatMap (fun x=>lineB (hldI x))):=hI0 hL4
 have HE4:Hid (L5=L4++cpol.flatMap (fun x=>lineB (polI x))):=hI0 hL5
 have HE5:Hid (L6=L5++chor.flatMap (fun x=>lineB (horI x))):=hI0 hL6
 have hlt0:(lineB [wTitle]).length=18:=rfl
 have hle0:L0.length≤10000000000:=by omega
 have hls:18+sumI (stI ⟨ctx,ctm,cwl,cnx,ceA,ceC,cents,csA,csC,cstms,ctA,ctC,ctabs,cpA,cpC,cpla,cqA,cqC,cpol,chA,chC,chor⟩)≤10000000000:=by rw [hL0,List.length_append,hlt0,lineB_len (stI ⟨ctx,ctm,cwl,cnx,ceA,ceC,cents,csA,csC,cstms,ctA,ctC,ctabs,cpA,cpC,cpla,cqA,cqC,cpol,chA,chC,chor⟩) (by simp [stI])] at hle0;exact hle0
 have HLS:=hI0 hls
 have HEL0:Hid (L0=lineB [wTitle]++lineB (stI ⟨ctx,ctm,cwl,cnx,ceA,ceC,cents,csA,csC,cstms,ctA,ctC,ctabs,cpA,cpC,cpla,cqA,cqC,cpol,chA,chC,chor⟩)):=hI0 hL0
 have HNB:Hid (∀n∈[ctx,ctm,cwl,cnx],-9223372036854775808≤n∧n≤9223372036854775807):=hI0 (by
  intro n hm
  simp only [List.mem_cons,List.not_mem_nil,or_false] at hm
  rcases hm with rfl|rfl|rfl|rfl<;>omega)
 clear d1 d2 d3 d4 d5 d6 d7 d8 d9 d10 d11 y1 y2 y3 y4 y5 y6 y7 y8 hl hTX hn0 hn1 hn2 hn3 hn4 hn5 hlt0 hle0 hls hL0 hL1 hL2 hL3 hL4 hL5 hL6
 show Calls prog 10 #[.agg #[.int .i64 ctx,.int .i64 ctm,.int .i64 cwl,.int .i64 cnx,.slice ceA cents.length ceC,.slice csA cstms.length csC,.slice ctA ctabs.length ctC,.slice cpA cpla.length cpC,.slice cqA cpol.length cqC,.slice chA chor.length chC]] w _
 obtain ⟨W1,hW1⟩:=eN0 (w.alloc (.cells #[.int .i64 ctx,.int .i64 ctm,.int .i64 cwl,.int .i64 cnx,.slice ceA cents.length ceC,.slice csA cstms.length csC,.slice ctA ctabs.length ctC,.slice cpA cpla.length cpC,.slice cqA cpol.length cqC,.slice chA chor.length chC] 29))
 have hbW1:=bN0 hW1
 have hnW1:=hN0 hW1
 have eW1:w.alloc (.cells #[.int .i64 ctx,.int .i64 ctm,.int .i64 cwl,.int .i64 cnx,.slice ceA cents.length ceC,.slice csA cstms.length csC,.slice ctA ctabs.length ctC,.slice cpA cpla.length cpC,.slice cqA cpol.length cqC,.slice chA chor.length chC] 29)=W1:=by rw [hW1]
 clear hW1
 have KE2:Calls prog 20 #[.agg #[.int .i64 ctx,.int .i64 ctm,.int .i64 cwl,.int .i64 cnx,.slice ceA cents.length ceC,.slice csA cstms.length csC,.slice ctA ctabs.length ctC,.slice cpA cpla.length cpC,.slice cqA cpol.length cqC,.slice chA chor.length chC]] W1 (fun e w'=>∃u,e=.returned (.tuple #[u,.int .i64 0])∧Bl W1 w'):=KE W1 hbW1
 clear KE
 have HB1:Hid (Bl w W1):=hI0 hbW1
 have HX1:=hI0 hnW1
 have HK:=hI0 KE2
 have HE0:=hI0 he
 obtain ⟨a0,a1,a2,a3,a4,a5,a6,a7,a8,a9⟩:=cX10 hnW1
 clear hbW1 hnW1 KE2 he
 go_in
 go_wp2_with fail
 clear eW1 a0 a1 a2 a3 a4 a5 a6 a7 a8 a9
 (with_reducible refine HK.out.mono ?_)
 rintro _ W2 ⟨u,rfl,hb2⟩
 have HB2:=bT0 HB1 hb2
 have HX2:=hI0 (keepRow hb2 HX1.out)
 have HBL:Hid (w.heap.size<W2.heap.size):=hI0 (gL0 HX2.out)
 clear hb2 HK HX1 HB1
 obtain ⟨W3,hW3⟩:=eN0 (W2.alloc (.cells #[.pointer none,.slice none 0 0] 64))
 have hb3:=bN0 hW3
 have HP3:Hid (PrAt W3 W2.heap.size []):=hI0 (by rw [hW3];exact PrAt.new W2)
 have e3:W2.alloc (.cells #[.pointer none,.slice none 0 0] 64)=W3:=by rw [hW3]
 have HBX:=hI0 (keepRow hb3 HX2.out)
 have HB3:=bT0 HB2 hb3
 have HEP:Hid (EnvP W2.heap.size W3):=hI0 ⟨w,HE0.out,HB2.out.size,HB3.out⟩
 clear hW3 hb3 HX2
 obtain ⟨V1,hV1⟩:=eN0 (W3.alloc (.cells (svL [wTitle]).toArray 9))
 have hbV1:=bN0 hV1
 have hnV1:=hN0 hV1
 have eV1:W3.alloc (.cells #[.string ⟨#[98,105,116,101,109,112,111,114,97,108,32,100,117,109,112,32,49]⟩] 9)=V1:=by rw [hV1];rfl
 clear hV1
 have HR1:Hid (RdIt V1 (ltw V1) (.slice (some ⟨W3.heap.size,0,none⟩) 1 1) [wTitle]):=hI0 (OwnS.lit (w:=W3) [wTitle] W3.heap.size hnV1 (Nat.le_refl _) rfl (by simp) rfl).rd
 have HV1:Hid (Bl W3 V1):=hI0 hbV1
 have KP:=hI0 (prLine_any W2.heap.size [] [wTitle] _ V1 (HP3.out.below HV1.out) HR1.out (by simp) (by decide))
 have hbz:W2.heap.size<W3.heap.size:=HP3.out.lt
 clear hbV1 hnV1
 go_wp2_with fail
 clear e3 eV1
 (with_reducible refine KP.out.mono ?_)
 rintro _ V2 ⟨rfl,hp2,hb2,hk2⟩
 have HP2:=hI0 hp2
 have HW2:Hid (Below W2.heap.size W3 V2):=hI0 ((HV1.out.mono (Nat.le_of_lt hbz)).trans hb2)
 clear hp2 hb2 hk2 HR1 HV1 KP hbz
 obtain ⟨V3,hV3⟩:=eN0 (V2.alloc (.cells (svL [wState]).toArray 9))
 have hbV3:=bN0 hV3
 have hnV3:=hN0 hV3
 have eV3:V2.alloc (.cells #[.string ⟨#[115,116,97,116,101]⟩] 9)=V3:=by rw [hV3];rfl
 clear hV3
 have HW3:Hid (Below W2.heap.size W3 V3):=hI0 (HW2.out.trans (hbV3.mono (Nat.le_of_lt HP2.out.lt)))
 have HBx:Hid (V3.heap[w.heap.size]? =some (.cells #[.int .i64 ctx,.int .i64 ctm,.int .i64 cwl,.int .i64 cnx,.slice ceA cents.length ceC,.slice csA cstms.length csC,.slice ctA ctabs.length ctC,.slice cpA cpla.length cpC,.slice cqA cpol.length cqC,.slice chA chor.length chC] 29 (0,0))):=hI0 ((HW3.out.block _ HBL.out).trans HBX.out)
 have c3:=cW1 3 HBx.out rfl
 have c2:=cW1 2 HBx.out rfl
 have c1:=cW1 1 HBx.out rfl
 have c0:=cW1 0 HBx.out rfl
 obtain ⟨V4,hV4⟩:=eN0 (V3.alloc (.cells ([ctx,ctm,cwl,cnx].flatMap intE).toArray 3))
 have hbV4:=bN0 hV4
 have hnV4:=hN0 hV4
 have eV4:V3.alloc (.cells #[.int .i64 ctx,.int .i64 ctm,.int .i64 cwl,.int .i64 cnx] 3)=V4:=by rw [hV4];rfl
 clear hV4
 have HV3:Hid (Bl V2 V3):=hI0 hbV3
 have HV4:=bT0 HV3 hbV4
 have HO4:Hid (OwnS V4 V2.heap.size (.slice (some ⟨V2.heap.size,0,none⟩) 1 1) [wState]):=hI0 (OwnS.below (OwnS.lit (w:=V2) [wState] V2.heap.size hnV3 (Nat.le_refl _) rfl (by simp) rfl) hbV4)
 have HEv2:Hid (EnvD V2):=hI0 (HEP.out.keep HW2.out).now
 have KD:=hI0 (digits_any (.slice (some ⟨V3.heap.size,0,none⟩) 4 4) [ctx,ctm,cwl,cnx] V4 (HEv2.out.below HV4.out) (rdInts hnV4 (by simp) rfl) HNB.out (by simp))
 clear hbV3 hnV3 hbV4 hnV4 HBx HW3 HV3
 go_wp2_with fail
 clear eV3 eV4 c0 c1 c2 c3
 (with_reducible refine KD.out.mono ?_)
 rintro _ V5 ⟨u5,rfl,ho5,hb5⟩
 have HO5:=hI0 (OwnS.below HO4.out hb5)
 have HV5:=bT0 HV4 hb5
 have HR5:=hI0 ho5.rd
 clear ho5 hb5 HO4 HV4 KD
 go_wp2_with (at_builtin;refine apS 29 39 HO5.out HR5.out (by simp) HV5.out.size ?_;intro v6 V6 hap hag hab;have HO6:=hI0 hap;have HV6:Hid (Bl V2 V6):=hI0 (HV5.out.trans hab))
 have hro:RdIt V6 (ltw V6) v6 (stI ⟨ctx,ctm,cwl,cnx,ceA,ceC,cents,csA,csC,cstms,ctA,ctC,ctabs,cpA,cpC,cpla,cqA,cqC,cpol,chA,chC,chor⟩):=HO6.out.rd
 have KP:=hI0 (prLine_any W2.heap.size ([]++lineB [wTitle]) (stI ⟨ctx,ctm,cwl,cnx,ceA,ceC,cents,csA,csC,cstms,ctA,ctC,ctabs,cpA,cpC,cpla,cqA,cqC,cpol,chA,chC,chor⟩) v6 V6 (HP2.out.below HV6.out) hro (by simp [stI]) (by have q:=HLS.out;have e:([]++lineB [wTitle]:List UInt8).length=18:=rfl;omega))
 clear hro hap hag hab HO5 HV5 HR5
 (with_reducible refine KP.out.mono ?_)
 rintro _ V7 ⟨rfl,hp7,hb7,hk7⟩
 have HW:Hid (Below W2.heap.size W3 V7):=hI0 (HW2.out.trans ((HV6.out.mono (Nat.le_of_lt HP2.out.lt)).trans hb7))
 have HP:Hid (PrAt V7 W2.heap.size L0):=hI0 (hp7.cast (by rw [HEL0.out];simp))
 have HBx:Hid (V7.heap[w.heap.size]? =some (.cells #[.int .i64 ctx,.int .i64 ctm,.int .i64 cwl,.int .i64 cnx,.slice ceA cents.length ceC,.slice csA cstms.length csC,.slice ctA ctabs.length ctC,.slice cpA cpla.length cpC,.slice cqA cpol.length cqC,.slice chA chor.length chC] 29 (0,0))):=hI0 ((HW.out.block _ HBL.out).trans HBX.out)
 clear hp7 hb7 hk7 KP HP2 HW2 HV6 HO6
 have cf:=cW1 4 HBx.out rfl
 go_wp2_with fail
 clear cf
 go_loopw [45] (fun i wr=>∃k:Nat,i=.int .i64 (k:Int)∧k≤cents.length∧Hid (PrAt wr W2.heap.size (L0++(cents.take k).flatMap (fun x=>lineB (entI x))))∧Hid (Below W2.heap.size W3 wr)) (fun i _=>cents.length-(intOf i).toNat)
 case atStart=>exact ⟨0,rfl,Nat.zero_le _,hI0 (by simpa using HP.out),HW⟩
 obtain ⟨k,rfl,hk,HP,HW⟩:=hrel
 obtain ⟨wi,rfl⟩:=eN0 wr
 have HWw:Hid (Bl w wi):=hI0 (HB3.out.trans (HW.out.mono HB2.out.size))
 have HBx:Hid (wi.heap[w.heap.size]? =some (.cells #[.int .i64 ctx,.int .i64 ctm,.int .i64 cwl,.int .i64 cnx,.slice ceA cents.length ceC,.slice csA cstms.length csC,.slice ctA ctabs.length ctC,.slice cpA cpla.length cpC,.slice cqA cpol.length cqC,.slice chA chor.length chC] 29 (0,0))):=hI0 ((HW.out.block _ HBL.out).trans HBX.out)
 by_cases hlt:k<cents.length
 case neg=>
  have hke:k=cents.length:=by omega
  have hp:=HP.out
  rw [hke,List.take_length,←HEz.out] at hp
  clear HP
  have HP:=hI0 hp
  clear hp hke
  have cf:=cW1 5 HBx.out rfl
  go_wp2_with fail
  clear cf
  go_loopw [55] (fun i wr=>∃k:Nat,i=.int .i64 (k:Int)∧k≤cstms.length∧Hid (PrAt wr W2.heap.size (L1++(cstms.take k).flatMap (fun x=>lineB (stmI x))))∧Hid (Below W2.heap.size W3 wr)) (fun i _=>cstms.length-(intOf i).toNat)
  case atStart=>exact ⟨0,rfl,Nat.zero_le _,hI0 (by simpa using HP.out),HW⟩
  obtain ⟨k,rfl,hk,HP,HW⟩:=hrel
  obtain ⟨wi,rfl⟩:=eN0 wr
  have HWw:Hid (Bl w wi):=hI0 (HB3.out.trans (HW.out.mono HB2.out.size))
  have HBx:Hid (wi.heap[w.heap.size]? =some (.cells #[.int .i64 ctx,.int .i64 ctm,.int .i64 cwl,.int .i64 cnx,.slice ceA cents.length ceC,.slice csA cstms.length csC,.slice ctA ctabs.length ctC,.slice cpA cpla.length cpC,.slice cqA cpol.length cqC,.slice chA chor.length chC] 29 (0,0))):=hI0 ((HW.out.block _ HBL.out).trans HBX.out)
  by_cases hlt:k<cstms.length
  case neg=>
   have hke:k=cstms.length:=by omega
   have hp:=HP.out
   rw [hke,List.take_length,←HE1.out] at hp
   clear HP
   have HP:=hI0 hp
   clear hp hke
   have cf:=cW1 6 HBx.out rfl
   go_wp2_with fail
   clear cf
   go_loopw [72] (fun i wr=>∃k:Nat,i=.int .i64 (k:Int)∧k≤ctabs.length∧Hid (PrAt wr W2.heap.size (L2++(ctabs.take k).flatMap tvT))∧Hid (Below W2.heap.size W3 wr)) (fun i _=>ctabs.length-(intOf i).toNat)
   case atStart=>exact ⟨0,rfl,Nat.zero_le _,hI0 (by simpa using HP.out),HW⟩
   obtain ⟨k,rfl,hk,HP,HW⟩:=hrel
   obtain ⟨wi,rfl⟩:=eN0 wr
   have HWw:Hid (Bl w wi):=hI0 (HB3.out.trans (HW.out.mono HB2.out.size))
   have HBx:Hid (wi.heap[w.heap.size]? =some (.cells #[.int .i64 ctx,.int .i64 ctm,.int .i64 cwl,.int .i64 cnx,.slice ceA cents.length ceC,.slice csA cstms.length csC,.slice ctA ctabs.length ctC,.slice cpA cpla.length cpC,.slice cqA cpol.length cqC,.slice chA chor.length chC] 29 (0,0))):=hI0 ((HW.out.block _ HBL.out).trans HBX.out)
   by_cases hlt:k<ctabs.length
   case neg=>
    have hke:k=ctabs.length:=by omega
    have hp:=HP.out
    rw [hke,List.take_length,←HE2.out] at hp
    clear HP
    have HP:=hI0 hp
    clear hp hke
    have cf:=cW1 7 HBx.out rfl
    go_wp2_with fail
    clear cf
    go_loopw [82] (fun i wr=>∃k:Nat,i=.int .i64 (k:Int)∧k≤cpla.length∧Hid (PrAt wr W2.heap.size (L3++(cpla.take k).flatMap (fun x=>lineB (hldI x))))∧Hid (Below W2.heap.size W3 wr)) (fun i _=>cpla.length-(intOf i).toNat)
    case atStart=>exact ⟨0,rfl,Nat.zero_le _,hI0 (by simpa using HP.out),HW⟩
    obtain ⟨k,rfl,hk,HP,HW⟩:=hrel
    obtain ⟨wi,rfl⟩:=eN0 wr
    have HWw:Hid (Bl w wi):=hI0 (HB3.out.trans (HW.out.mono HB2.out.size))
    have HBx:Hid (wi.heap[w.heap.size]? =some (.cells #[.int .i64 ctx,.int .i64 ctm,.int .i64 cwl,.int .i64 cnx,.slice ceA cents.length ceC,.slice csA cstms.length csC,.slice ctA ctabs.length ctC,.slice cpA cpla.length cpC,.slice cqA cpol.length cqC,.slice chA chor.length chC] 29 (0,0))):=hI0 ((HW.out.block _ HBL.out).trans HBX.out)
    by_cases hlt:k<cpla.length
    case neg=>
     have hke:k=cpla.length:=by omega
     have hp:=HP.out
     rw [hke,List.take_length,←HE3.out] at hp
     clear HP
     have HP:=hI0 hp
     clear hp hke
     have cf:=cW1 8 HBx.out rfl
     go_wp2_with fail
     clear cf
     go_loopw [117] (fun i wr=>∃k:Nat,i=.int .i64 (k:Int)∧k≤cpol.length∧Hid (PrAt wr W2.heap.size (L4++(cpol.take k).flatMap (fun x=>lineB (polI x))))∧Hid (Below W2.heap.size W3 wr)) (fun i _=>cpol.length-(intOf i).toNat)
     case atStart=>exact ⟨0,rfl,Nat.zero_le _,hI0 (by simpa using HP.out),HW⟩
     obtain ⟨k,rfl,hk,HP,HW⟩:=hrel
     obtain ⟨wi,rfl⟩:=eN0 wr
     have HWw:Hid (Bl w wi):=hI0 (HB3.out.trans (HW.out.mono HB2.out.size))
     have HBx:Hid (wi.heap[w.heap.size]? =some (.cells #[.int .i64 ctx,.int .i64 ctm,.int .i64 cwl,.int .i64 cnx,.slice ceA cents.length ceC,.slice csA cstms.length csC,.slice ctA ctabs.length ctC,.slice cpA cpla.length cpC,.slice cqA cpol.length cqC,.slice chA chor.length chC] 29 (0,0))):=hI0 ((HW.out.block _ HBL.out).trans HBX.out)
     by_cases hlt:k<cpol.length
     case neg=>
      have hke:k=cpol.length:=by omega
      have hp:=HP.out
      rw [hke,List.take_length,←HE4.out] at hp
      clear HP
      have HP:=hI0 hp
      clear hp hke
      have cf:=cW1 9 HBx.out rfl
      go_wp2_with fail
      clear cf
      go_loopw [133] (fun i wr=>∃k:Nat,i=.int .i64 (k:Int)∧k≤chor.length∧Hid (PrAt wr W2.heap.size (L5++(chor.take k).flatMap (fun x=>lineB (horI x))))∧Hid (Below W2.heap.size W3 wr)) (fun i _=>chor.length-(intOf i).toNat)
      case atStart=>exact ⟨0,rfl,Nat.zero_le _,hI0 (by simpa using HP.out),HW⟩
      obtain ⟨k,rfl,hk,HP,HW⟩:=hrel
      obtain ⟨wi,rfl⟩:=eN0 wr
      have HWw:Hid (Bl w wi):=hI0 (HB3.out.trans (HW.out.mono HB2.out.size))
      have HBx:Hid (wi.heap[w.heap.size]? =some (.cells #[.int .i64 ctx,.int .i64 ctm,.int .i64 cwl,.int .i64 cnx,.slice ceA cents.length ceC,.slice csA cstms.length csC,.slice ctA ctabs.length ctC,.slice cpA cpla.length cpC,.slice cqA cpol.length cqC,.slice chA chor.length chC] 29 (0,0))):=hI0 ((HW.out.block _ HBL.out).trans HBX.out)
      by_cases hlt:k<chor.length
      case neg=>
       have hke:k=chor.length:=by omega
       have hp:=HP.out
       rw [hke,List.take_length,←HE5.out] at hp
       clear HP
       have HP:=hI0 hp
       clear hp hke
       obtain ⟨V1,hV1⟩:=eN0 (wi.alloc (.cells (svL [wEnd]).toArray 9))
       have hbV1:=bN0 hV1
       have hnV1:=hN0 hV1
       have eV1:wi.alloc (.cells #[.string ⟨#[101,110,100]⟩] 9)=V1:=by rw [hV1];rfl
       clear hV1
       have HB1:Hid (Bl wi V1):=hI0 hbV1
       have HR1:Hid (RdIt V1 (ltw V1) (.slice (some ⟨wi.heap.size,0,none⟩) 1 1) [wEnd]):=hI0 (OwnS.lit (w:=wi) [wEnd] wi.heap.size hnV1 (Nat.le_refl _) rfl (by simp) rfl).rd
       have hbz:W2.heap.size<wi.heap.size:=HP.out.lt
       have KP:=hI0 (prLine_any W2.heap.size L6 [wEnd] _ V1 (HP.out.below HB1.out) HR1.out (by simp) (by have q:=HL6.out;rw [List.length_append,lineB_len _ (by simp)] at q;omega))
       clear hbV1 hnV1
       go_wp2_with fail
       clear eV1
       (with_reducible refine KP.out.mono ?_)
       rintro _ V2 ⟨rfl,hp2,hb2,hk2⟩
       have KS:=hI0 (prString_any W2.heap.size _ V2 hp2 (by unfold lineB;simp))
       have HBF:Hid (Bl w V2):=hI0 ((HWw.out.trans (HB1.out.mono HWw.out.size)).trans (hb2.mono HB2.out.size))
       clear hp2 hb2 hk2
       go_wp2_with fail
       (with_reducible refine KS.out.mono ?_)
       rintro _ V3 ⟨rfl,hb3⟩
       go_wp2_with fail
       go_ret2
       exact ⟨by unfold txT;rw [if_pos HZ.out,HTX.out,HZ.out];rfl,HBF.out.trans (hb3.mono HB2.out.size)⟩
      have hbz:W2.heap.size<wi.heap.size:=HP.out.lt
      obtain ⟨b2,off,hA,hF,hc⟩:=RdE.at_ (K:=2) (enc:=Hor.enc) (fun _=>rfl) (by omega) (HVh.out.keep (Keeps.below HWw.out)) hlt
      have hq:=hc k hlt
      have hst:=takeA (g:=(fun x=>lineB (horI x))) hlt
      have hft:=fitA (g:=(fun x=>lineB (horI x))) hlt HL5.out
      have hbd:=HHO.out chor[k] (List.getElem_mem hlt)
      have HST:=hI0 hst
      have HFT:=hI0 hft
      have HBD:=hI0 hbd
      clear hc hst hft hbd
      subst hA
      generalize chor[k]=x at *
      obtain ⟨xn,xv⟩:=x
      have g0:wi.cell? ⟨b2,off+k*2,none⟩=some (.string xn):=hq 0 _ (by omega) rfl
      have g1:wi.cell? ⟨b2,off+k*2+1,none⟩=some (.int .i64 xv):=hq 1 _ (by omega) rfl
      clear hq
      obtain ⟨V1,hV1⟩:=eN0 (wi.alloc (.cells #[.string xn,.int .i64 xv] 93))
      have hbV1:=bN0 hV1
      have hnV1:=hN0 hV1
      have eV1:wi.alloc (.cells #[.string xn,.int .i64 xv] 93)=V1:=by rw [hV1]
      clear hV1
      have HB1:Hid (Bl wi V1):=hI0 hbV1
      have HX1:Hid (V1.heap[wi.heap.size]? =some (.cells #[.string xn,.int .i64 xv] 93 (0,0))):=hI0 hnV1
      have HEi:Hid (EnvD wi):=hI0 (HEP.out.keep HW.out).now
      have HQ1:Hid (xn.size≤1000):=hI0 (by have q:=HBD.out;simp only at q;omega)
      have HQ2:Hid (-9223372036854775808≤xv∧xv≤9223372036854775807):=hI0 (by have q:=HBD.out;simp only at q;omega)
      have hfz:(L5++(chor.take k).flatMap (fun x=>lineB (horI x))).length+sumI (horI ⟨xn,xv⟩)≤100000000000:=by have q:=HFT.out;rw [lineB_len _ (by simp [horI])] at q;omega
      have HFZ:=hI0 hfz
      clear hbV1 hnV1 hfz
      go_wp2_with fail
      clear g0 g1
      refine wp_region_noPanic ?_
      refine wp_region_held_drew (S:=(fun Y=>Y.heap[wi.heap.size]? =some (.cells #[.string xn,.int .i64 xv] 93 (0,0)))) (by kernel_rfl) ?_ (fun zh=>?_)
      ·exact HX1.out
      refine hT 0 137 ?_
      refine hU 1 138 (v:=?_) zh ?_ ?_
      rotate_left
      ·intro w' hSw;(try dsimp only at hSw);have c0:=cW1 (v:=.string xn) 0 hSw rfl;go_simp<;>with_reducible rfl
      refine hT 3 140 ?_
      refine hU 4 141 (v:=?_) zh ?_ ?_
      rotate_left
      ·intro w' hSw;(try dsimp only at hSw);have c1:=cW1 (v:=.int .i64 xv) 1 hSw rfl;go_simp<;>with_reducible rfl
      refine hC 2 139 ?_
      (with_reducible refine (quote_any xn _ (HEi.out.below HB1.out.drew) HQ1.out).mono ?_)
      rintro _ w1 ⟨rfl,hb1⟩
      have hB1:Bl wi w1:=HB1.out.drew.trans (hb1.mono HB1.out.drew.size)
      refine ⟨_,rfl,keepAnd (keepRow hb1 zh) ?_⟩
      clear zh
      intro zh
      simp only [aP]
      refine hC 5 142 ?_
      (with_reducible refine (itoaC xv w1 (HEi.out.below hB1) HQ2.out.1 HQ2.out.2).mono ?_)
      rintro _ w2 ⟨rfl,hb2⟩
      have hB2:Bl wi w2:=hB1.trans (hb2.mono hB1.size)
      refine ⟨_,rfl,keepAnd (keepRow hb2 zh) ?_⟩
      clear zh
      intro zh
      simp only [aP]
      have hNew:(fun Y=>Y.heap[wi.heap.size]? =some (.cells #[.string xn,.int .i64 xv] 93 (0,0))) (w2.alloc (.cells (svL [wHorizon,qS xn,itoa xv]).toArray 9)):=by exact (Below.heap_alloc w2 _ _ (Array.getElem?_eq_some_iff.1 zh).1).trans zh
      refine heldRun 6 (some 143) (v:=.slice (some ⟨w2.heap.size,0,none⟩) 3 3) (w':=w2.alloc (.cells (svL [wHorizon,qS xn,itoa xv]).toArray 9)) rfl rfl (by kernel_rfl) (by rfl) ?_ hNew ?_
      ·go_simp;rfl
      clear zh
      have zh:=hNew
      clear hNew
      simp only [aP]
      obtain ⟨V8,hV8⟩:=eN0 (w2.alloc (.cells (svL [wHorizon,qS xn,itoa xv]).toArray 9))
      have hB8:Bl wi V8:=by rw [hV8];exact hB2.alloc hB2.size _
      have hR8:Rd V8 (ltw V8) 1 (.slice (some ⟨w2.heap.size,0,none⟩) 3 3) (horI ⟨xn,xv⟩).length (svL (horI ⟨xn,xv⟩)):=by rw [hV8];exact (OwnS.new w2 [wHorizon,qS xn,itoa xv] wi.heap.size hB2.size (by unfold maxLen;simp)).rd
      rw [←hV8] at zh ⊢
      clear hV8
      refine hC 7 144 ?_
      (with_reducible refine (prLine_any W2.heap.size (L5++(chor.take k).flatMap (fun x=>lineB (horI x))) (horI ⟨xn,xv⟩) _ V8 (HP.out.below hB8) hR8 (by simp [horI]) HFZ.out).mono ?_)
      rintro _ w9 ⟨rfl,hp9,hb9,hk9⟩
      refine ⟨_,rfl,keepAnd ?_ (fun hNew=>?_)⟩
      ·exact (hk9.2 _ (Array.getElem?_eq_some_iff.1 zh).1 (by omega) (fun cur e=>by have:=zh.symm.trans e;injection this with this;injection this with _ e _;exact absurd e (by decide))).trans zh
      clear zh
      have zh:=hNew
      clear hNew
      simp only [aP]
      refine rD0 ?_
      go_wp2_with fail
      go_roundw
      case rel=>exact ⟨k+1,by go_num,by omega,hI0 (hp9.cast (by rw [HST.out,←List.append_assoc])),hI0 (HW.out.trans ((hB8.mono (Nat.le_of_lt hbz)).trans hb9))⟩
      case measure=>simp [intOf];omega
     have hbz:W2.heap.size<wi.heap.size:=HP.out.lt
     obtain ⟨b2,off,hA,hF,hc⟩:=RdE.at_ (K:=2) (enc:=Pol.enc) (fun _=>rfl) (by omega) (HVq.out.keep (Keeps.below HWw.out)) hlt
     have hq:=hc k hlt
     have hst:=takeA (g:=(fun x=>lineB (polI x))) hlt
     have hft:=fitA (g:=(fun x=>lineB (polI x))) hlt HL4.out
     have hbd:=HPO.out cpol[k] (List.getElem_mem hlt)
     have HST:=hI0 hst
     have HFT:=hI0 hft
     have HBD:=hI0 hbd
     clear hc hst hft hbd
     subst hA
     generalize cpol[k]=x at *
     obtain ⟨xn,xv⟩:=x
     have g0:wi.cell? ⟨b2,off+k*2,none⟩=some (.string xn):=hq 0 _ (by omega) rfl
     have g1:wi.cell? ⟨b2,off+k*2+1,none⟩=some (.int .i64 xv):=hq 1 _ (by omega) rfl
     clear hq
     obtain ⟨V1,hV1⟩:=eN0 (wi.alloc (.cells #[.string xn,.int .i64 xv] 90))
     have hbV1:=bN0 hV1
     have hnV1:=hN0 hV1
     have eV1:wi.alloc (.cells #[.string xn,.int .i64 xv] 90)=V1:=by rw [hV1]
     clear hV1
     have HB1:Hid (Bl wi V1):=hI0 hbV1
     have HX1:Hid (V1.heap[wi.heap.size]? =some (.cells #[.string xn,.int .i64 xv] 90 (0,0))):=hI0 hnV1
     have HEi:Hid (EnvD wi):=hI0 (HEP.out.keep HW.out).now
     have HQ1:Hid (xn.size≤1000):=hI0 (by have q:=HBD.out;simp only at q;omega)
     have HQ2:Hid (-9223372036854775808≤xv∧xv≤9223372036854775807):=hI0 (by have q:=HBD.out;simp only at q;omega)
     have hfz:(L4++(cpol.take k).flatMap (fun x=>lineB (polI x))).length+sumI (polI ⟨xn,xv⟩)≤100000000000:=by have q:=HFT.out;rw [lineB_len _ (by simp [polI])] at q;omega
     have HFZ:=hI0 hfz
     clear hbV1 hnV1 hfz
     go_wp2_with fail
     clear g0 g1
     refine wp_region_noPanic ?_
     refine wp_region_held_drew (S:=(fun Y=>Y.heap[wi.heap.size]? =some (.cells #[.string xn,.int .i64 xv] 90 (0,0)))) (by kernel_rfl) ?_ (fun zh=>?_)
     ·exact HX1.out
     refine hT 0 121 ?_
     refine hU 1 122 (v:=?_) zh ?_ ?_
     rotate_left
     ·intro w' hSw;(try dsimp only at hSw);have c0:=cW1 (v:=.string xn) 0 hSw rfl;go_simp<;>with_reducible rfl
     refine hT 3 124 ?_
     refine hU 4 125 (v:=?_) zh ?_ ?_
     rotate_left
     ·intro w' hSw;(try dsimp only at hSw);have c1:=cW1 (v:=.int .i64 xv) 1 hSw rfl;go_simp<;>with_reducible rfl
     refine hC 2 123 ?_
     (with_reducible refine (quote_any xn _ (HEi.out.below HB1.out.drew) HQ1.out).mono ?_)
     rintro _ w1 ⟨rfl,hb1⟩
     have hB1:Bl wi w1:=HB1.out.drew.trans (hb1.mono HB1.out.drew.size)
     refine ⟨_,rfl,keepAnd (keepRow hb1 zh) ?_⟩
     clear zh
     intro zh
     simp only [aP]
     refine hC 5 126 ?_
     (with_reducible refine (itoaC xv w1 (HEi.out.below hB1) HQ2.out.1 HQ2.out.2).mono ?_)
     rintro _ w2 ⟨rfl,hb2⟩
     have hB2:Bl wi w2:=hB1.trans (hb2.mono hB1.size)
     refine ⟨_,rfl,keepAnd (keepRow hb2 zh) ?_⟩
     clear zh
     intro zh
     simp only [aP]
     have hNew:(fun Y=>Y.heap[wi.heap.size]? =some (.cells #[.string xn,.int .i64 xv] 90 (0,0))) (w2.alloc (.cells (svL [wPolicy,qS xn,itoa xv]).toArray 9)):=by exact (Below.heap_alloc w2 _ _ (Array.getElem?_eq_some_iff.1 zh).1).trans zh
     refine heldRun 6 (some 127) (v:=.slice (some ⟨w2.heap.size,0,none⟩) 3 3) (w':=w2.alloc (.cells (svL [wPolicy,qS xn,itoa xv]).toArray 9)) rfl rfl (by kernel_rfl) (by rfl) ?_ hNew ?_
     ·go_simp;rfl
     clear zh
     have zh:=hNew
     clear hNew
     simp only [aP]
     obtain ⟨V8,hV8⟩:=eN0 (w2.alloc (.cells (svL [wPolicy,qS xn,itoa xv]).toArray 9))
     have hB8:Bl wi V8:=by rw [hV8];exact hB2.alloc hB2.size _
     have hR8:Rd V8 (ltw V8) 1 (.slice (some ⟨w2.heap.size,0,none⟩) 3 3) (polI ⟨xn,xv⟩).length (svL (polI ⟨xn,xv⟩)):=by rw [hV8];exact (OwnS.new w2 [wPolicy,qS xn,itoa xv] wi.heap.size hB2.size (by unfold maxLen;simp)).rd
     rw [←hV8] at zh ⊢
     clear hV8
     refine hC 7 128 ?_
     (with_reducible refine (prLine_any W2.heap.size (L4++(cpol.take k).flatMap (fun x=>lineB (polI x))) (polI ⟨xn,xv⟩) _ V8 (HP.out.below hB8) hR8 (by simp [polI]) HFZ.out).mono ?_)
     rintro _ w9 ⟨rfl,hp9,hb9,hk9⟩
     refine ⟨_,rfl,keepAnd ?_ (fun hNew=>?_)⟩
     ·exact (hk9.2 _ (Array.getElem?_eq_some_iff.1 zh).1 (by omega) (fun cur e=>by have:=zh.symm.trans e;injection this with this;injection this with _ e _;exact absurd e (by decide))).trans zh
     clear zh
     have zh:=hNew
     clear hNew
     simp only [aP]
     refine rD0 ?_
     go_wp2_with fail
     go_roundw
     case rel=>exact ⟨k+1,by go_num,by omega,hI0 (hp9.cast (by rw [HST.out,←List.append_assoc])),hI0 (HW.out.trans ((hB8.mono (Nat.le_of_lt hbz)).trans hb9))⟩
     case measure=>simp [intOf];omega
    have hbz:W2.heap.size<wi.heap.size:=HP.out.lt
    obtain ⟨b2,off,hA,hF,hc⟩:=RdE.at_ (K:=6) (enc:=Hld.enc) (fun _=>rfl) (by omega) (HVp.out.keep (Keeps.below HWw.out)) hlt
    have hq:=hc k hlt
    have hst:=takeA (g:=(fun x=>lineB (hldI x))) hlt
    have hft:=fitA (g:=(fun x=>lineB (hldI x))) hlt HL3.out
    have hbd:=HPL.out cpla[k] (List.getElem_mem hlt)
    have HST:=hI0 hst
    have HFT:=hI0 hft
    have HBD:=hI0 hbd
    clear hc hst hft hbd
    subst hA
    generalize cpla[k]=x at *
    obtain ⟨xn,xt,x1,x2,x3,x4⟩:=x
    have g0:wi.cell? ⟨b2,off+k*6,none⟩=some (.string xn):=hq 0 _ (by omega) rfl
    have g1:wi.cell? ⟨b2,off+k*6+1,none⟩=some (.string xt):=hq 1 _ (by omega) rfl
    have g2:wi.cell? ⟨b2,off+k*6+2,none⟩=some (.int .i64 x1):=hq 2 _ (by omega) rfl
    have g3:wi.cell? ⟨b2,off+k*6+3,none⟩=some (.int .i64 x2):=hq 3 _ (by omega) rfl
    have g4:wi.cell? ⟨b2,off+k*6+4,none⟩=some (.int .i64 x3):=hq 4 _ (by omega) rfl
    have g5:wi.cell? ⟨b2,off+k*6+5,none⟩=some (.int .i64 x4):=hq 5 _ (by omega) rfl
    clear hq
    obtain ⟨V1,hV1⟩:=eN0 (wi.alloc (.cells #[.string xn,.string xt,.int .i64 x1,.int .i64 x2,.int .i64 x3,.int .i64 x4] 87))
    have hbV1:=bN0 hV1
    have hnV1:=hN0 hV1
    have eV1:wi.alloc (.cells #[.string xn,.string xt,.int .i64 x1,.int .i64 x2,.int .i64 x3,.int .i64 x4] 87)=V1:=by rw [hV1]
    clear hV1
    have HB1:Hid (Bl wi V1):=hI0 hbV1
    have HX1:Hid (V1.heap[wi.heap.size]? =some (.cells #[.string xn,.string xt,.int .i64 x1,.int .i64 x2,.int .i64 x3,.int .i64 x4] 87 (0,0))):=hI0 hnV1
    have HEi:Hid (EnvD wi):=hI0 (HEP.out.keep HW.out).now
    have HQ1:Hid (xn.size≤1000):=hI0 (by have q:=HBD.out;simp only at q;omega)
    have HQ3:Hid (xt.size≤1000):=hI0 (by have q:=HBD.out;simp only at q;omega)
    have HQ2:Hid (∀n∈[x1,x2,x3,x4],-9223372036854775808≤n∧n≤9223372036854775807):=hI0 (by
     have q:=HBD.out
     simp only at q
     intro n hm
     simp only [List.mem_cons,List.not_mem_nil,or_false] at hm
     rcases hm with rfl|rfl|rfl|rfl<;>omega)
    have hfz:(L3++(cpla.take k).flatMap (fun x=>lineB (hldI x))).length+sumI (hldI ⟨xn,xt,x1,x2,x3,x4⟩)≤100000000000:=by have q:=HFT.out;rw [lineB_len _ (by simp [hldI])] at q;omega
    have HFZ:=hI0 hfz
    have HEH:Hid (hldI ⟨xn,xt,x1,x2,x3,x4⟩=[wHold,qS xn,qS xt]++[x1,x2,x3,x4].map itoa):=hI0 rfl
    clear hbV1 hnV1 hfz
    go_wp2_with fail
    clear g0 g1 g2 g3 g4 g5
    refine wp_region_noPanic ?_
    refine wp_region_held_drew (S:=(fun Y=>Y.heap[wi.heap.size]? =some (.cells #[.string xn,.string xt,.int .i64 x1,.int .i64 x2,.int .i64 x3,.int .i64 x4] 87 (0,0)))) (by kernel_rfl) ?_ (fun zh=>?_)
    ·exact HX1.out
    refine hT 0 86 ?_
    refine hU 1 87 (v:=?_) zh ?_ ?_
    rotate_left
    ·intro w' hSw;(try dsimp only at hSw);have c0:=cW1 (v:=.string xn) 0 hSw rfl;go_simp<;>with_reducible rfl
    refine hT 3 89 ?_
    refine hU 4 90 (v:=?_) zh ?_ ?_
    rotate_left
    ·intro w' hSw;(try dsimp only at hSw);have c1:=cW1 (v:=.string xt) 1 hSw rfl;go_simp<;>with_reducible rfl
    refine hT 7 93 ?_
    refine hT 8 94 ?_
    refine hT 9 95 ?_
    refine hU 10 96 (v:=?_) zh ?_ ?_
    rotate_left
    ·intro w' hSw;(try dsimp only at hSw);have c2:=cW1 (v:=.int .i64 x1) 2 hSw rfl;go_simp<;>with_reducible rfl
    refine hT 11 97 ?_
    refine hT 12 98 ?_
    refine hT 13 99 ?_
    refine hU 14 100 (v:=?_) zh ?_ ?_
    rotate_left
    ·intro w' hSw;(try dsimp only at hSw);have c3:=cW1 (v:=.int .i64 x2) 3 hSw rfl;go_simp<;>with_reducible rfl
    refine hT 15 101 ?_
    refine hT 16 102 ?_
    refine hT 17 103 ?_
    refine hU 18 104 (v:=?_) zh ?_ ?_
    rotate_left
    ·intro w' hSw;(try dsimp only at hSw);have c4:=cW1 (v:=.int .i64 x3) 4 hSw rfl;go_simp<;>with_reducible rfl
    refine hT 19 105 ?_
    refine hT 20 106 ?_
    refine hT 21 107 ?_
    refine hU 22 108 (v:=?_) zh ?_ ?_
    rotate_left
    ·intro w' hSw;(try dsimp only at hSw);have c5:=cW1 (v:=.int .i64 x4) 5 hSw rfl;go_simp<;>with_reducible rfl
    refine forkH2 2 23 (by kernel_rfl) ?_ ?_
    ·refine fC 2 88 ?_
     (with_reducible refine (quote_any xn _ (HEi.out.below HB1.out.drew) HQ1.out).mono ?_)
     rintro _ w1 ⟨rfl,hb⟩
     have hB1:Bl wi w1:=HB1.out.drew.trans (hb.mono HB1.out.drew.size)
     refine ⟨_,rfl,?_⟩
     refine keepAnd ?_ (fun hNew=>?_)
     ·exact keepRow hb zh
     clear zh
     have zh:=hNew
     clear hNew
     simp only [aP]
     refine forkH2 5 23 (by kernel_rfl) ?_ ?_
     ·refine fC 5 91 ?_
      (with_reducible refine (quote_any xt _ (HEi.out.below hB1) HQ3.out).mono ?_)
      rintro _ w2 ⟨rfl,hb⟩
      have hB2:Bl wi w2:=hB1.trans (hb.mono hB1.size)
      refine ⟨_,rfl,?_⟩
      refine keepAnd ?_ (fun hNew=>?_)
      ·exact keepRow hb zh
      clear zh
      have zh:=hNew
      clear hNew
      simp only [aP]
      refine forkH2 6 23 (by kernel_rfl) ?_ ?_
      ·refine runF 6 (some 92) (v:=.slice (some ⟨w2.heap.size,0,none⟩) 3 3) (w':=w2.alloc (.cells (svL [wHold,qS xn,qS xt]).toArray 9)) rfl rfl (by rfl) ?_ ?_
       ·go_simp;rfl
       refine keepAnd ?_ (fun hNew=>?_)
       ·exact (Below.heap_alloc w2 _ _ (Array.getElem?_eq_some_iff.1 zh).1).trans zh
       clear zh
       have zh:=hNew
       clear hNew
       obtain ⟨w3,hw⟩:=eN0 (w2.alloc (.cells (svL [wHold,qS xn,qS xt]).toArray 9))
       have hb:=bN0 hw
       have hB3:Bl wi w3:=hB2.trans (hb.mono hB2.size)
       have hO3:OwnS w3 wi.heap.size (.slice (some ⟨w2.heap.size,0,none⟩) 3 3) [wHold,qS xn,qS xt]:=by rw [hw];exact OwnS.new w2 [wHold,qS xn,qS xt] wi.heap.size hB2.size (by unfold maxLen;simp)
       generalize (Value.slice (some ⟨w2.heap.size,0,none⟩) 3 3)=v6 at *
       rw [←hw] at zh ⊢
       clear hw
       simp only [aP]
       refine forkH1 23 (by kernel_rfl) ?_
       refine runF 23 (some 109) (v:=.slice (some ⟨w3.heap.size,0,none⟩) 4 4) (w':=w3.alloc (.cells ([x1,x2,x3,x4].flatMap intE).toArray 3)) rfl rfl (by rfl) ?_ ?_
       ·go_simp;rfl
       refine keepAnd ?_ (fun hNew=>?_)
       ·exact (Below.heap_alloc w3 _ _ (Array.getElem?_eq_some_iff.1 zh).1).trans zh
       clear zh
       have zh:=hNew
       clear hNew
       obtain ⟨w4,hw⟩:=eN0 (w3.alloc (.cells ([x1,x2,x3,x4].flatMap intE).toArray 3))
       have hb:=bN0 hw
       have hB4:Bl wi w4:=hB3.trans (hb.mono hB3.size)
       have hO4:=OwnS.below hO3 hb
       have hN4:RdE 1 intE w4 (ltw w4) (.slice (some ⟨w3.heap.size,0,none⟩) 4 4) [x1,x2,x3,x4]:=by rw [hw];exact rdInts (heap_alloc_new w3 (.cells ([x1,x2,x3,x4].flatMap intE).toArray 3)) (by simp) rfl
       generalize (Value.slice (some ⟨w3.heap.size,0,none⟩) 4 4)=n23 at *
       rw [←hw] at zh ⊢
       clear hw
       simp only [aP]
       refine forkH1 24 (by kernel_rfl) ?_
       refine fC 24 110 ?_
       (with_reducible refine (digits_any n23 [x1,x2,x3,x4] w4 (HEi.out.below hB4) hN4 HQ2.out (by simp)).mono ?_)
       rintro _ w5 ⟨u4,rfl,ho,hb⟩
       have hB5:Bl wi w5:=hB4.trans (hb.mono hB4.size)
       have hO5:=OwnS.below hO4 hb
       have hU5:OwnS w5 wi.heap.size u4 ([x1,x2,x3,x4].map itoa):=ho.base hB4.size
       refine ⟨_,rfl,?_⟩
       refine keepAnd ?_ (fun hNew=>?_)
       ·exact keepRow hb zh
       clear zh
       have zh:=hNew
       clear hNew
       simp only [aP]
       refine forkH1 25 (by kernel_rfl) ?_
       refine opF 25 rfl (by rfl) ?_
       refine apO 92 110 hO5 hU5.rd (by simp) hB5.size ?_
       intro v8 w6 hO8 hg8 hb
       have hB6:Bl wi w6:=hB5.trans hb
       have hR8:Rd w6 (ltw w6) 1 v8 (hldI ⟨xn,xt,x1,x2,x3,x4⟩).length (svL (hldI ⟨xn,xt,x1,x2,x3,x4⟩)):=by rw [HEH.out];exact hO8.rd
       refine keepAnd ?_ (fun hNew=>?_)
       ·exact keepGr hO5 hg8 zh (by intro cs fr e;injection e with _ e _;exact absurd e (by decide))
       clear zh
       have zh:=hNew
       clear hNew
       simp only [aP]
       refine forkH1 26 (by kernel_rfl) ?_
       refine fC 26 112 ?_
       (with_reducible refine (prLine_any W2.heap.size (L3++(cpla.take k).flatMap (fun x=>lineB (hldI x))) (hldI ⟨xn,xt,x1,x2,x3,x4⟩) v8 w6 (HP.out.below hB6) hR8 (by simp [hldI]) HFZ.out).mono ?_)
       rintro _ w9 ⟨rfl,hp9,hb9,hk9⟩
       refine ⟨_,rfl,?_⟩
       refine keepAnd ?_ (fun hNew=>?_)
       ·exact (hk9.2 _ (Array.getElem?_eq_some_iff.1 zh).1 (by omega) (fun cur e=>by have:=zh.symm.trans e;injection this with this;injection this with _ e _;exact absurd e (by decide))).trans zh
       clear zh
       have zh:=hNew
       clear hNew
       simp only [aP]
       refine rD0 ?_
       go_wp2_with fail
       go_roundw
       case rel=>exact ⟨k+1,by go_num,by omega,hI0 (hp9.cast (by rw [HST.out,←List.append_assoc])),hI0 (HW.out.trans ((hB6.mono (Nat.le_of_lt hbz)).trans hb9))⟩
       case measure=>simp [intOf];omega
      ·refine runF 23 (some 109) (v:=.slice (some ⟨w2.heap.size,0,none⟩) 4 4) (w':=w2.alloc (.cells ([x1,x2,x3,x4].flatMap intE).toArray 3)) rfl rfl (by rfl) ?_ ?_
       ·go_simp;rfl
       refine keepAnd ?_ (fun hNew=>?_)
       ·exact (Below.heap_alloc w2 _ _ (Array.getElem?_eq_some_iff.1 zh).1).trans zh
       clear zh
       have zh:=hNew
       clear hNew
       obtain ⟨w3,hw⟩:=eN0 (w2.alloc (.cells ([x1,x2,x3,x4].flatMap intE).toArray 3))
       have hb:=bN0 hw
       have hB3:Bl wi w3:=hB2.trans (hb.mono hB2.size)
       have hN3:RdE 1 intE w3 (ltw w3) (.slice (some ⟨w2.heap.size,0,none⟩) 4 4) [x1,x2,x3,x4]:=by rw [hw];exact rdInts (heap_alloc_new w2 (.cells ([x1,x2,x3,x4].flatMap intE).toArray 3)) (by simp) rfl
       generalize (Value.slice (some ⟨w2.heap.size,0,none⟩) 4 4)=n23 at *
       rw [←hw] at zh ⊢
       clear hw
       simp only [aP]
       refine forkH2 6 24 (by kernel_rfl) ?_ ?_
       ·refine runF 6 (some 92) (v:=.slice (some ⟨w3.heap.size,0,none⟩) 3 3) (w':=w3.alloc (.cells (svL [wHold,qS xn,qS xt]).toArray 9)) rfl rfl (by rfl) ?_ ?_
        ·go_simp;rfl
        refine keepAnd ?_ (fun hNew=>?_)
        ·exact (Below.heap_alloc w3 _ _ (Array.getElem?_eq_some_iff.1 zh).1).trans zh
        clear zh
        have zh:=hNew
        clear hNew
        obtain ⟨w4,hw⟩:=eN0 (w3.alloc (.cells (svL [wHold,qS xn,qS xt]).toArray 9))
        have hb:=bN0 hw
        have hB4:Bl wi w4:=hB3.trans (hb.mono hB3.size)
        have hN4:=RdE.below hN3 hb
        have hO4:OwnS w4 wi.heap.size (.slice (some ⟨w3.heap.size,0,none⟩) 3 3) [wHold,qS xn,qS xt]:=by rw [hw];exact OwnS.new w3 [wHold,qS xn,qS xt] wi.heap.size hB3.size (by unfold maxLen;simp)
        generalize (Value.slice (some ⟨w3.heap.size,0,none⟩) 3 3)=v6 at *
        rw [←hw] at zh ⊢
        clear hw
        simp only [aP]
        refine forkH1 24 (by kernel_rfl) ?_
        refine fC 24 110 ?_
        (with_reducible refine (digits_any n23 [x1,x2,x3,x4] w4 (HEi.out.below hB4) hN4 HQ2.out (by simp)).mono ?_)
        rintro _ w5 ⟨u4,rfl,ho,hb⟩
        have hB5:Bl wi w5:=hB4.trans (hb.mono hB4.size)
        have hO5:=OwnS.below hO4 hb
        have hU5:OwnS w5 wi.heap.size u4 ([x1,x2,x3,x4].map itoa):=ho.base hB4.size
        refine ⟨_,rfl,?_⟩
        refine keepAnd ?_ (fun hNew=>?_)
        ·exact keepRow hb zh
        clear zh
        have zh:=hNew
        clear hNew
        simp only [aP]
        refine forkH1 25 (by kernel_rfl) ?_
        refine opF 25 rfl (by rfl) ?_
        refine apO 92 110 hO5 hU5.rd (by simp) hB5.size ?_
        intro v8 w6 hO8 hg8 hb
        have hB6:Bl wi w6:=hB5.trans hb
        have hR8:Rd w6 (ltw w6) 1 v8 (hldI ⟨xn,xt,x1,x2,x3,x4⟩).length (svL (hldI ⟨xn,xt,x1,x2,x3,x4⟩)):=by rw [HEH.out];exact hO8.rd
        refine keepAnd ?_ (fun hNew=>?_)
        ·exact keepGr hO5 hg8 zh (by intro cs fr e;injection e with _ e _;exact absurd e (by decide))
        clear zh
        have zh:=hNew
        clear hNew
        simp only [aP]
        refine forkH1 26 (by kernel_rfl) ?_
        refine fC 26 112 ?_
        (with_reducible refine (prLine_any W2.heap.size (L3++(cpla.take k).flatMap (fun x=>lineB (hldI x))) (hldI ⟨xn,xt,x1,x2,x3,x4⟩) v8 w6 (HP.out.below hB6) hR8 (by simp [hldI]) HFZ.out).mono ?_)
        rintro _ w9 ⟨rfl,hp9,hb9,hk9⟩
        refine ⟨_,rfl,?_⟩
        refine keepAnd ?_ (fun hNew=>?_)
        ·exact (hk9.2 _ (Array.getElem?_eq_some_iff.1 zh).1 (by omega) (fun cur e=>by have:=zh.symm.trans e;injection this with this;injection this with _ e _;exact absurd e (by decide))).trans zh
        clear zh
        have zh:=hNew
        clear hNew
        simp only [aP]
        refine rD0 ?_
        go_wp2_with fail
        go_roundw
        case rel=>exact ⟨k+1,by go_num,by omega,hI0 (hp9.cast (by rw [HST.out,←List.append_assoc])),hI0 (HW.out.trans ((hB6.mono (Nat.le_of_lt hbz)).trans hb9))⟩
        case measure=>simp [intOf];omega
       ·refine fC 24 110 ?_
        (with_reducible refine (digits_any n23 [x1,x2,x3,x4] w3 (HEi.out.below hB3) hN3 HQ2.out (by simp)).mono ?_)
        rintro _ w4 ⟨u4,rfl,ho,hb⟩
        have hB4:Bl wi w4:=hB3.trans (hb.mono hB3.size)
        have hU4:OwnS w4 wi.heap.size u4 ([x1,x2,x3,x4].map itoa):=ho.base hB3.size
        refine ⟨_,rfl,?_⟩
        refine keepAnd ?_ (fun hNew=>?_)
        ·exact keepRow hb zh
        clear zh
        have zh:=hNew
        clear hNew
        simp only [aP]
        refine forkH1 6 (by kernel_rfl) ?_
        refine runF 6 (some 92) (v:=.slice (some ⟨w4.heap.size,0,none⟩) 3 3) (w':=w4.alloc (.cells (svL [wHold,qS xn,qS xt]).toArray 9)) rfl rfl (by rfl) ?_ ?_
        ·go_simp;rfl
        refine keepAnd ?_ (fun hNew=>?_)
        ·exact (Below.heap_alloc w4 _ _ (Array.getElem?_eq_some_iff.1 zh).1).trans zh
        clear zh
        have zh:=hNew
        clear hNew
        obtain ⟨w5,hw⟩:=eN0 (w4.alloc (.cells (svL [wHold,qS xn,qS xt]).toArray 9))
        have hb:=bN0 hw
        have hB5:Bl wi w5:=hB4.trans (hb.mono hB4.size)
        have hU5:=OwnS.below hU4 hb
        have hO5:OwnS w5 wi.heap.size (.slice (some ⟨w4.heap.size,0,none⟩) 3 3) [wHold,qS xn,qS xt]:=by rw [hw];exact OwnS.new w4 [wHold,qS xn,qS xt] wi.heap.size hB4.size (by unfold maxLen;simp)
        generalize (Value.slice (some ⟨w4.heap.size,0,none⟩) 3 3)=v6 at *
        rw [←hw] at zh ⊢
        clear hw
        simp only [aP]
        refine forkH1 25 (by kernel_rfl) ?_
        refine opF 25 rfl (by rfl) ?_
        refine apO 92 110 hO5 hU5.rd (by simp) hB5.size ?_
        intro v8 w6 hO8 hg8 hb
        have hB6:Bl wi w6:=hB5.trans hb
        have hR8:Rd w6 (ltw w6) 1 v8 (hldI ⟨xn,xt,x1,x2,x3,x4⟩).length (svL (hldI ⟨xn,xt,x1,x2,x3,x4⟩)):=by rw [HEH.out];exact hO8.rd
        refine keepAnd ?_ (fun hNew=>?_)
        ·exact keepGr hO5 hg8 zh (by intro cs fr e;injection e with _ e _;exact absurd e (by decide))
        clear zh
        have zh:=hNew
        clear hNew
        simp only [aP]
        refine forkH1 26 (by kernel_rfl) ?_
        refine fC 26 112 ?_
        (with_reducible refine (prLine_any W2.heap.size (L3++(cpla.take k).flatMap (fun x=>lineB (hldI x))) (hldI ⟨xn,xt,x1,x2,x3,x4⟩) v8 w6 (HP.out.below hB6) hR8 (by simp [hldI]) HFZ.out).mono ?_)
        rintro _ w9 ⟨rfl,hp9,hb9,hk9⟩
        refine ⟨_,rfl,?_⟩
        refine keepAnd ?_ (fun hNew=>?_)
        ·exact (hk9.2 _ (Array.getElem?_eq_some_iff.1 zh).1 (by omega) (fun cur e=>by have:=zh.symm.trans e;injection this with this;injection this with _ e _;exact absurd e (by decide))).trans zh
        clear zh
        have zh:=hNew
        clear hNew
        simp only [aP]
        refine rD0 ?_
        go_wp2_with fail
        go_roundw
        case rel=>exact ⟨k+1,by go_num,by omega,hI0 (hp9.cast (by rw [HST.out,←List.append_assoc])),hI0 (HW.out.trans ((hB6.mono (Nat.le_of_lt hbz)).trans hb9))⟩
        case measure=>simp [intOf];omega
     ·refine runF 23 (some 109) (v:=.slice (some ⟨w1.heap.size,0,none⟩) 4 4) (w':=w1.alloc (.cells ([x1,x2,x3,x4].flatMap intE).toArray 3)) rfl rfl (by rfl) ?_ ?_
      ·go_simp;rfl
      refine keepAnd ?_ (fun hNew=>?_)
      ·exact (Below.heap_alloc w1 _ _ (Array.getElem?_eq_some_iff.1 zh).1).trans zh
      clear zh
      have zh:=hNew
      clear hNew
      obtain ⟨w2,hw⟩:=eN0 (w1.alloc (.cells ([x1,x2,x3,x4].flatMap intE).toArray 3))
      have hb:=bN0 hw
      have hB2:Bl wi w2:=hB1.trans (hb.mono hB1.size)
      have hN2:RdE 1 intE w2 (ltw w2) (.slice (some ⟨w1.heap.size,0,none⟩) 4 4) [x1,x2,x3,x4]:=by rw [hw];exact rdInts (heap_alloc_new w1 (.cells ([x1,x2,x3,x4].flatMap intE).toArray 3)) (by simp) rfl
      generalize (Value.slice (some ⟨w1.heap.size,0,none⟩) 4 4)=n23 at *
      rw [←hw] at zh ⊢
      clear hw
      simp only [aP]
      refine forkH1 5 (by kernel_rfl) ?_
      refine fC 5 91 ?_
      (with_reducible refine (quote_any xt _ (HEi.out.below hB2) HQ3.out).mono ?_)
      rintro _ w3 ⟨rfl,hb⟩
      have hB3:Bl wi w3:=hB2.trans (hb.mono hB2.size)
      have hN3:=RdE.below hN2 hb
      refine ⟨_,rfl,?_⟩
      refine keepAnd ?_ (fun hNew=>?_)
      ·exact keepRow hb zh
      clear zh
      have zh:=hNew
      clear hNew
      simp only [aP]
      refine forkH2 6 24 (by kernel_rfl) ?_ ?_
      ·refine runF 6 (some 92) (v:=.slice (some ⟨w3.heap.size,0,none⟩) 3 3) (w':=w3.alloc (.cells (svL [wHold,qS xn,qS xt]).toArray 9)) rfl rfl (by rfl) ?_ ?_
       ·go_simp;rfl
       refine keepAnd ?_ (fun hNew=>?_)
       ·exact (Below.heap_alloc w3 _ _ (Array.getElem?_eq_some_iff.1 zh).1).trans zh
       clear zh
       have zh:=hNew
       clear hNew
       obtain ⟨w4,hw⟩:=eN0 (w3.alloc (.cells (svL [wHold,qS xn,qS xt]).toArray 9))
       have hb:=bN0 hw
       have hB4:Bl wi w4:=hB3.trans (hb.mono hB3.size)
       have hN4:=RdE.below hN3 hb
       have hO4:OwnS w4 wi.heap.size (.slice (some ⟨w3.heap.size,0,none⟩) 3 3) [wHold,qS xn,qS xt]:=by rw [hw];exact OwnS.new w3 [wHold,qS xn,qS xt] wi.heap.size hB3.size (by unfold maxLen;simp)
       generalize (Value.slice (some ⟨w3.heap.size,0,none⟩) 3 3)=v6 at *
       rw [←hw] at zh ⊢
       clear hw
       simp only [aP]
       refine forkH1 24 (by kernel_rfl) ?_
       refine fC 24 110 ?_
       (with_reducible refine (digits_any n23 [x1,x2,x3,x4] w4 (HEi.out.below hB4) hN4 HQ2.out (by simp)).mono ?_)
       rintro _ w5 ⟨u4,rfl,ho,hb⟩
       have hB5:Bl wi w5:=hB4.trans (hb.mono hB4.size)
       have hO5:=OwnS.below hO4 hb
       have hU5:OwnS w5 wi.heap.size u4 ([x1,x2,x3,x4].map itoa):=ho.base hB4.size
       refine ⟨_,rfl,?_⟩
       refine keepAnd ?_ (fun hNew=>?_)
       ·exact keepRow hb zh
       clear zh
       have zh:=hNew
       clear hNew
       simp only [aP]
       refine forkH1 25 (by kernel_rfl) ?_
       refine opF 25 rfl (by rfl) ?_
       refine apO 92 110 hO5 hU5.rd (by simp) hB5.size ?_
       intro v8 w6 hO8 hg8 hb
       have hB6:Bl wi w6:=hB5.trans hb
       have hR8:Rd w6 (ltw w6) 1 v8 (hldI ⟨xn,xt,x1,x2,x3,x4⟩).length (svL (hldI ⟨xn,xt,x1,x2,x3,x4⟩)):=by rw [HEH.out];exact hO8.rd
       refine keepAnd ?_ (fun hNew=>?_)
       ·exact keepGr hO5 hg8 zh (by intro cs fr e;injection e with _ e _;exact absurd e (by decide))
       clear zh
       have zh:=hNew
       clear hNew
       simp only [aP]
       refine forkH1 26 (by kernel_rfl) ?_
       refine fC 26 112 ?_
       (with_reducible refine (prLine_any W2.heap.size (L3++(cpla.take k).flatMap (fun x=>lineB (hldI x))) (hldI ⟨xn,xt,x1,x2,x3,x4⟩) v8 w6 (HP.out.below hB6) hR8 (by simp [hldI]) HFZ.out).mono ?_)
       rintro _ w9 ⟨rfl,hp9,hb9,hk9⟩
       refine ⟨_,rfl,?_⟩
       refine keepAnd ?_ (fun hNew=>?_)
       ·exact (hk9.2 _ (Array.getElem?_eq_some_iff.1 zh).1 (by omega) (fun cur e=>by have:=zh.symm.trans e;injection this with this;injection this with _ e _;exact absurd e (by decide))).trans zh
       clear zh
       have zh:=hNew
       clear hNew
       simp only [aP]
       refine rD0 ?_
       go_wp2_with fail
       go_roundw
       case rel=>exact ⟨k+1,by go_num,by omega,hI0 (hp9.cast (by rw [HST.out,←List.append_assoc])),hI0 (HW.out.trans ((hB6.mono (Nat.le_of_lt hbz)).trans hb9))⟩
       case measure=>simp [intOf];omega
      ·refine fC 24 110 ?_
       (with_reducible refine (digits_any n23 [x1,x2,x3,x4] w3 (HEi.out.below hB3) hN3 HQ2.out (by simp)).mono ?_)
       rintro _ w4 ⟨u4,rfl,ho,hb⟩
       have hB4:Bl wi w4:=hB3.trans (hb.mono hB3.size)
       have hU4:OwnS w4 wi.heap.size u4 ([x1,x2,x3,x4].map itoa):=ho.base hB3.size
       refine ⟨_,rfl,?_⟩
       refine keepAnd ?_ (fun hNew=>?_)
       ·exact keepRow hb zh
       clear zh
       have zh:=hNew
       clear hNew
       simp only [aP]
       refine forkH1 6 (by kernel_rfl) ?_
       refine runF 6 (some 92) (v:=.slice (some ⟨w4.heap.size,0,none⟩) 3 3) (w':=w4.alloc (.cells (svL [wHold,qS xn,qS xt]).toArray 9)) rfl rfl (by rfl) ?_ ?_
       ·go_simp;rfl
       refine keepAnd ?_ (fun hNew=>?_)
       ·exact (Below.heap_alloc w4 _ _ (Array.getElem?_eq_some_iff.1 zh).1).trans zh
       clear zh
       have zh:=hNew
       clear hNew
       obtain ⟨w5,hw⟩:=eN0 (w4.alloc (.cells (svL [wHold,qS xn,qS xt]).toArray 9))
       have hb:=bN0 hw
       have hB5:Bl wi w5:=hB4.trans (hb.mono hB4.size)
       have hU5:=OwnS.below hU4 hb
       have hO5:OwnS w5 wi.heap.size (.slice (some ⟨w4.heap.size,0,none⟩) 3 3) [wHold,qS xn,qS xt]:=by rw [hw];exact OwnS.new w4 [wHold,qS xn,qS xt] wi.heap.size hB4.size (by unfold maxLen;simp)
       generalize (Value.slice (some ⟨w4.heap.size,0,none⟩) 3 3)=v6 at *
       rw [←hw] at zh ⊢
       clear hw
       simp only [aP]
       refine forkH1 25 (by kernel_rfl) ?_
       refine opF 25 rfl (by rfl) ?_
       refine apO 92 110 hO5 hU5.rd (by simp) hB5.size ?_
       intro v8 w6 hO8 hg8 hb
       have hB6:Bl wi w6:=hB5.trans hb
       have hR8:Rd w6 (ltw w6) 1 v8 (hldI ⟨xn,xt,x1,x2,x3,x4⟩).length (svL (hldI ⟨xn,xt,x1,x2,x3,x4⟩)):=by rw [HEH.out];exact hO8.rd
       refine keepAnd ?_ (fun hNew=>?_)
       ·exact keepGr hO5 hg8 zh (by intro cs fr e;injection e with _ e _;exact absurd e (by decide))
       clear zh
       have zh:=hNew
       clear hNew
       simp only [aP]
       refine forkH1 26 (by kernel_rfl) ?_
       refine fC 26 112 ?_
       (with_reducible refine (prLine_any W2.heap.size (L3++(cpla.take k).flatMap (fun x=>lineB (hldI x))) (hldI ⟨xn,xt,x1,x2,x3,x4⟩) v8 w6 (HP.out.below hB6) hR8 (by simp [hldI]) HFZ.out).mono ?_)
       rintro _ w9 ⟨rfl,hp9,hb9,hk9⟩
       refine ⟨_,rfl,?_⟩
       refine keepAnd ?_ (fun hNew=>?_)
       ·exact (hk9.2 _ (Array.getElem?_eq_some_iff.1 zh).1 (by omega) (fun cur e=>by have:=zh.symm.trans e;injection this with this;injection this with _ e _;exact absurd e (by decide))).trans zh
       clear zh
       have zh:=hNew
       clear hNew
       simp only [aP]
       refine rD0 ?_
       go_wp2_with fail
       go_roundw
       case rel=>exact ⟨k+1,by go_num,by omega,hI0 (hp9.cast (by rw [HST.out,←List.append_assoc])),hI0 (HW.out.trans ((hB6.mono (Nat.le_of_lt hbz)).trans hb9))⟩
       case measure=>simp [intOf];omega
    ·refine runF 23 (some 109) (v:=.slice (some ⟨V1.heap.size,0,none⟩) 4 4) (w':=V1.drew.alloc (.cells ([x1,x2,x3,x4].flatMap intE).toArray 3)) rfl rfl (by rfl) ?_ ?_
     ·go_simp;rfl
     refine keepAnd ?_ (fun hNew=>?_)
     ·exact (Below.heap_alloc V1.drew _ _ (Array.getElem?_eq_some_iff.1 zh).1).trans zh
     clear zh
     have zh:=hNew
     clear hNew
     obtain ⟨w1,hw⟩:=eN0 (V1.drew.alloc (.cells ([x1,x2,x3,x4].flatMap intE).toArray 3))
     have hb:=bN0 hw
     have hB1:Bl wi w1:=HB1.out.drew.trans (hb.mono HB1.out.drew.size)
     have hN1:RdE 1 intE w1 (ltw w1) (.slice (some ⟨V1.heap.size,0,none⟩) 4 4) [x1,x2,x3,x4]:=by rw [hw];exact rdInts (heap_alloc_new V1.drew (.cells ([x1,x2,x3,x4].flatMap intE).toArray 3)) (by simp) rfl
     generalize (Value.slice (some ⟨V1.heap.size,0,none⟩) 4 4)=n23 at *
     rw [←hw] at zh ⊢
     clear hw
     simp only [aP]
     refine forkH1 2 (by kernel_rfl) ?_
     refine fC 2 88 ?_
     (with_reducible refine (quote_any xn _ (HEi.out.below hB1) HQ1.out).mono ?_)
     rintro _ w2 ⟨rfl,hb⟩
     have hB2:Bl wi w2:=hB1.trans (hb.mono hB1.size)
     have hN2:=RdE.below hN1 hb
     refine ⟨_,rfl,?_⟩
     refine keepAnd ?_ (fun hNew=>?_)
     ·exact keepRow hb zh
     clear zh
     have zh:=hNew
     clear hNew
     simp only [aP]
     refine forkH1 5 (by kernel_rfl) ?_
     refine fC 5 91 ?_
     (with_reducible refine (quote_any xt _ (HEi.out.below hB2) HQ3.out).mono ?_)
     rintro _ w3 ⟨rfl,hb⟩
     have hB3:Bl wi w3:=hB2.trans (hb.mono hB2.size)
     have hN3:=RdE.below hN2 hb
     refine ⟨_,rfl,?_⟩
     refine keepAnd ?_ (fun hNew=>?_)
     ·exact keepRow hb zh
     clear zh
     have zh:=hNew
     clear hNew
     simp only [aP]
     refine forkH2 6 24 (by kernel_rfl) ?_ ?_
     ·refine runF 6 (some 92) (v:=.slice (some ⟨w3.heap.size,0,none⟩) 3 3) (w':=w3.alloc (.cells (svL [wHold,qS xn,qS xt]).toArray 9)) rfl rfl (by rfl) ?_ ?_
      ·go_simp;rfl
      refine keepAnd ?_ (fun hNew=>?_)
      ·exact (Below.heap_alloc w3 _ _ (Array.getElem?_eq_some_iff.1 zh).1).trans zh
      clear zh
      have zh:=hNew
      clear hNew
      obtain ⟨w4,hw⟩:=eN0 (w3.alloc (.cells (svL [wHold,qS xn,qS xt]).toArray 9))
      have hb:=bN0 hw
      have hB4:Bl wi w4:=hB3.trans (hb.mono hB3.size)
      have hN4:=RdE.below hN3 hb
      have hO4:OwnS w4 wi.heap.size (.slice (some ⟨w3.heap.size,0,none⟩) 3 3) [wHold,qS xn,qS xt]:=by rw [hw];exact OwnS.new w3 [wHold,qS xn,qS xt] wi.heap.size hB3.size (by unfold maxLen;simp)
      generalize (Value.slice (some ⟨w3.heap.size,0,none⟩) 3 3)=v6 at *
      rw [←hw] at zh ⊢
      clear hw
      simp only [aP]
      refine forkH1 24 (by kernel_rfl) ?_
      refine fC 24 110 ?_
      (with_reducible refine (digits_any n23 [x1,x2,x3,x4] w4 (HEi.out.below hB4) hN4 HQ2.out (by simp)).mono ?_)
      rintro _ w5 ⟨u4,rfl,ho,hb⟩
      have hB5:Bl wi w5:=hB4.trans (hb.mono hB4.size)
      have hO5:=OwnS.below hO4 hb
      have hU5:OwnS w5 wi.heap.size u4 ([x1,x2,x3,x4].map itoa):=ho.base hB4.size
      refine ⟨_,rfl,?_⟩
      refine keepAnd ?_ (fun hNew=>?_)
      ·exact keepRow hb zh
      clear zh
      have zh:=hNew
      clear hNew
      simp only [aP]
      refine forkH1 25 (by kernel_rfl) ?_
      refine opF 25 rfl (by rfl) ?_
      refine apO 92 110 hO5 hU5.rd (by simp) hB5.size ?_
      intro v8 w6 hO8 hg8 hb
      have hB6:Bl wi w6:=hB5.trans hb
      have hR8:Rd w6 (ltw w6) 1 v8 (hldI ⟨xn,xt,x1,x2,x3,x4⟩).length (svL (hldI ⟨xn,xt,x1,x2,x3,x4⟩)):=by rw [HEH.out];exact hO8.rd
      refine keepAnd ?_ (fun hNew=>?_)
      ·exact keepGr hO5 hg8 zh (by intro cs fr e;injection e with _ e _;exact absurd e (by decide))
      clear zh
      have zh:=hNew
      clear hNew
      simp only [aP]
      refine forkH1 26 (by kernel_rfl) ?_
      refine fC 26 112 ?_
      (with_reducible refine (prLine_any W2.heap.size (L3++(cpla.take k).flatMap (fun x=>lineB (hldI x))) (hldI ⟨xn,xt,x1,x2,x3,x4⟩) v8 w6 (HP.out.below hB6) hR8 (by simp [hldI]) HFZ.out).mono ?_)
      rintro _ w9 ⟨rfl,hp9,hb9,hk9⟩
      refine ⟨_,rfl,?_⟩
      refine keepAnd ?_ (fun hNew=>?_)
      ·exact (hk9.2 _ (Array.getElem?_eq_some_iff.1 zh).1 (by omega) (fun cur e=>by have:=zh.symm.trans e;injection this with this;injection this with _ e _;exact absurd e (by decide))).trans zh
      clear zh
      have zh:=hNew
      clear hNew
      simp only [aP]
      refine rD0 ?_
      go_wp2_with fail
      go_roundw
      case rel=>exact ⟨k+1,by go_num,by omega,hI0 (hp9.cast (by rw [HST.out,←List.append_assoc])),hI0 (HW.out.trans ((hB6.mono (Nat.le_of_lt hbz)).trans hb9))⟩
      case measure=>simp [intOf];omega
     ·refine fC 24 110 ?_
      (with_reducible refine (digits_any n23 [x1,x2,x3,x4] w3 (HEi.out.below hB3) hN3 HQ2.out (by simp)).mono ?_)
      rintro _ w4 ⟨u4,rfl,ho,hb⟩
      have hB4:Bl wi w4:=hB3.trans (hb.mono hB3.size)
      have hU4:OwnS w4 wi.heap.size u4 ([x1,x2,x3,x4].map itoa):=ho.base hB3.size
      refine ⟨_,rfl,?_⟩
      refine keepAnd ?_ (fun hNew=>?_)
      ·exact keepRow hb zh
      clear zh
      have zh:=hNew
      clear hNew
      simp only [aP]
      refine forkH1 6 (by kernel_rfl) ?_
      refine runF 6 (some 92) (v:=.slice (some ⟨w4.heap.size,0,none⟩) 3 3) (w':=w4.alloc (.cells (svL [wHold,qS xn,qS xt]).toArray 9)) rfl rfl (by rfl) ?_ ?_
      ·go_simp;rfl
      refine keepAnd ?_ (fun hNew=>?_)
      ·exact (Below.heap_alloc w4 _ _ (Array.getElem?_eq_some_iff.1 zh).1).trans zh
      clear zh
      have zh:=hNew
      clear hNew
      obtain ⟨w5,hw⟩:=eN0 (w4.alloc (.cells (svL [wHold,qS xn,qS xt]).toArray 9))
      have hb:=bN0 hw
      have hB5:Bl wi w5:=hB4.trans (hb.mono hB4.size)
      have hU5:=OwnS.below hU4 hb
      have hO5:OwnS w5 wi.heap.size (.slice (some ⟨w4.heap.size,0,none⟩) 3 3) [wHold,qS xn,qS xt]:=by rw [hw];exact OwnS.new w4 [wHold,qS xn,qS xt] wi.heap.size hB4.size (by unfold maxLen;simp)
      generalize (Value.slice (some ⟨w4.heap.size,0,none⟩) 3 3)=v6 at *
      rw [←hw] at zh ⊢
      clear hw
      simp only [aP]
      refine forkH1 25 (by kernel_rfl) ?_
      refine opF 25 rfl (by rfl) ?_
      refine apO 92 110 hO5 hU5.rd (by simp) hB5.size ?_
      intro v8 w6 hO8 hg8 hb
      have hB6:Bl wi w6:=hB5.trans hb
      have hR8:Rd w6 (ltw w6) 1 v8 (hldI ⟨xn,xt,x1,x2,x3,x4⟩).length (svL (hldI ⟨xn,xt,x1,x2,x3,x4⟩)):=by rw [HEH.out];exact hO8.rd
      refine keepAnd ?_ (fun hNew=>?_)
      ·exact keepGr hO5 hg8 zh (by intro cs fr e;injection e with _ e _;exact absurd e (by decide))
      clear zh
      have zh:=hNew
      clear hNew
      simp only [aP]
      refine forkH1 26 (by kernel_rfl) ?_
      refine fC 26 112 ?_
      (with_reducible refine (prLine_any W2.heap.size (L3++(cpla.take k).flatMap (fun x=>lineB (hldI x))) (hldI ⟨xn,xt,x1,x2,x3,x4⟩) v8 w6 (HP.out.below hB6) hR8 (by simp [hldI]) HFZ.out).mono ?_)
      rintro _ w9 ⟨rfl,hp9,hb9,hk9⟩
      refine ⟨_,rfl,?_⟩
      refine keepAnd ?_ (fun hNew=>?_)
      ·exact (hk9.2 _ (Array.getElem?_eq_some_iff.1 zh).1 (by omega) (fun cur e=>by have:=zh.symm.trans e;injection this with this;injection this with _ e _;exact absurd e (by decide))).trans zh
      clear zh
      have zh:=hNew
      clear hNew
      simp only [aP]
      refine rD0 ?_
      go_wp2_with fail
      go_roundw
      case rel=>exact ⟨k+1,by go_num,by omega,hI0 (hp9.cast (by rw [HST.out,←List.append_assoc])),hI0 (HW.out.trans ((hB6.mono (Nat.le_of_lt hbz)).trans hb9))⟩
      case measure=>simp [intOf];omega
   have hbz:W2.heap.size<wi.heap.size:=HP.out.lt
   obtain ⟨b2,off,hA,hF,hc⟩:=RdE.at_ (K:=2) (enc:=RTv.enc) (fun _=>rfl) (by omega) (HVt.out.keep (Keeps.below HWw.out)) hlt
   have hq:=hc k hlt
   have hst:=takeA (g:=tvT) hlt
   have hft:=fitA (g:=tvT) hlt HL2.out
   have hbd:=HTV.out ctabs[k] (List.getElem_mem hlt)
   have HST:=hI0 hst
   have HFT:=hI0 hft
   have HBD:=hI0 hbd
   clear hc hst hft hbd
   subst hA
   generalize ctabs[k]=x at *
   obtain ⟨xn,xA,xC,xvs⟩:=x
   have g0:wi.cell? ⟨b2,off+k*2,none⟩=some (.string xn):=hq 0 _ (by omega) rfl
   have g1:wi.cell? ⟨b2,off+k*2+1,none⟩=some (.slice xA xvs.length xC):=hq 1 _ (by omega) rfl
   clear hq
   obtain ⟨V1,hV1⟩:=eN0 (wi.alloc (.cells #[.string xn,.slice xA xvs.length xC] 37))
   have hbV1:=bN0 hV1
   have hnV1:=hN0 hV1
   have eV1:wi.alloc (.cells #[.string xn,.slice xA xvs.length xC] 37)=V1:=by rw [hV1]
   clear hV1
   have HB1:Hid (Bl wi V1):=hI0 hbV1
   have KC:Hid (Calls prog 24 #[.pointer (some ⟨W2.heap.size,0,none⟩),.agg #[.string xn,.slice xA xvs.length xC]] V1 (PrOut W2.heap.size ((L2++(ctabs.take k).flatMap tvT)++tvT ⟨xn,xA,xC,xvs⟩) V1)):=hI0 (table_any W2.heap.size (L2++(ctabs.take k).flatMap tvT) ⟨xn,xA,xC,xvs⟩ V1 ((HEP.out.keep HW.out).b HB1.out) (HP.out.below HB1.out) ((HBD.out.2.keep (Keeps.below (HWw.out.trans (HB1.out.mono HWw.out.size)))).wide (fun b' (h':b'<w.heap.size)=>by show b'<W2.heap.size;have:=HB2.out.size;omega)) HBD.out.1.1 HBD.out.1.2 (by have q:=HFT.out;omega))
   have c1:=cW1 1 hnV1 rfl
   have c0:=cW1 0 hnV1 rfl
   clear hbV1 hnV1
   go_wp2_with fail
   clear eV1 g0 g1 c0 c1
   (with_reducible refine KC.out.mono ?_)
   rintro _ V6 ⟨rfl,hp6,hb6,hk6⟩
   go_wp2_with fail
   go_roundw
   case rel=>exact ⟨k+1,by go_num,by omega,hI0 (hp6.cast (by rw [HST.out,←List.append_assoc])),hI0 (HW.out.trans ((HB1.out.mono (Nat.le_of_lt hbz)).trans hb6))⟩
   case measure=>simp [intOf];omega
  have hbz:W2.heap.size<wi.heap.size:=HP.out.lt
  obtain ⟨b2,off,hA,hF,hc⟩:=RdE.at_ (K:=2) (enc:=Stm.enc) (fun _=>rfl) (by omega) (HVs.out.keep (Keeps.below HWw.out)) hlt
  have hq:=hc k hlt
  have hst:=takeA (g:=(fun x=>lineB (stmI x))) hlt
  have hft:=fitA (g:=(fun x=>lineB (stmI x))) hlt HL1.out
  have hbd:=HSM.out cstms[k] (List.getElem_mem hlt)
  have HST:=hI0 hst
  have HFT:=hI0 hft
  have HBD:=hI0 hbd
  clear hc hst hft hbd
  subst hA
  generalize cstms[k]=x at *
  obtain ⟨xt,xw⟩:=x
  have g0:wi.cell? ⟨b2,off+k*2,none⟩=some (.int .i64 xt):=hq 0 _ (by omega) rfl
  have g1:wi.cell? ⟨b2,off+k*2+1,none⟩=some (.int .i64 xw):=hq 1 _ (by omega) rfl
  clear hq
  obtain ⟨V1,hV1⟩:=eN0 (wi.alloc (.cells #[.int .i64 xt,.int .i64 xw] 82))
  have hbV1:=bN0 hV1
  have hnV1:=hN0 hV1
  have eV1:wi.alloc (.cells #[.int .i64 xt,.int .i64 xw] 82)=V1:=by rw [hV1]
  clear hV1
  obtain ⟨V2,hV2⟩:=eN0 (V1.alloc (.cells (svL [wStamp]).toArray 9))
  have hbV2:=bN0 hV2
  have hnV2:=hN0 hV2
  have eV2:V1.alloc (.cells #[.string ⟨#[115,116,97,109,112]⟩] 9)=V2:=by rw [hV2];rfl
  clear hV2
  have HX2:=hI0 (keepRow hbV2 hnV1)
  have c1:=cW1 1 HX2.out rfl
  have c0:=cW1 0 HX2.out rfl
  obtain ⟨V3,hV3⟩:=eN0 (V2.alloc (.cells ([xt,xw].flatMap intE).toArray 3))
  have hbV3:=bN0 hV3
  have hnV3:=hN0 hV3
  have eV3:V2.alloc (.cells #[.int .i64 xt,.int .i64 xw] 3)=V3:=by rw [hV3];rfl
  clear hV3
  have HB1:Hid (Bl wi V1):=hI0 hbV1
  have HB2':Hid (Bl wi V2):=bT0 HB1 hbV2
  have HB3':Hid (Bl wi V3):=hI0 (HB2'.out.trans (hbV3.mono HB2'.out.size))
  have HO3:Hid (OwnS V3 wi.heap.size (.slice (some ⟨V1.heap.size,0,none⟩) 1 1) [wStamp]):=hI0 (OwnS.below (OwnS.lit (w:=V1) [wStamp] wi.heap.size hnV2 HB1.out.size rfl (by simp) rfl) hbV3)
  have HEi:Hid (EnvD wi):=hI0 (HEP.out.keep HW.out).now
  have KD:=hI0 (digits_any (.slice (some ⟨V2.heap.size,0,none⟩) 2 2) [xt,xw] V3 (HEi.out.below HB3'.out) (rdInts hnV3 (by simp) rfl) (by
   have q:=HBD.out
   simp only at q
   intro n hm
   simp only [List.mem_cons,List.not_mem_nil,or_false] at hm
   rcases hm with rfl|rfl<;>omega) (by simp))
  clear hbV1 hbV2 hbV3 hnV1 hnV2 hnV3 HB1 HB2' HX2
  go_wp2_with fail
  clear eV1 eV2 eV3 c0 c1 g0 g1
  (with_reducible refine KD.out.mono ?_)
  rintro _ V4 ⟨u4,rfl,ho4,hb4⟩
  have HO4:=hI0 (OwnS.below HO3.out hb4)
  have HB4:Hid (Bl wi V4):=hI0 (HB3'.out.trans (hb4.mono HB3'.out.size))
  have HR4:=hI0 ho4.rd
  clear ho4 hb4 HO3 HB3' KD
  go_wp2_with (at_builtin;refine apS 59 65 HO4.out HR4.out (by simp) HB4.out.size ?_;intro v5 V5 hap hag hab;have HO5:=hI0 hap;have HB5:Hid (Bl wi V5):=hI0 (HB4.out.trans hab))
  have hro:RdIt V5 (ltw V5) v5 (stmI ⟨xt,xw⟩):=HO5.out.rd
  have hfz:(L1++(cstms.take k).flatMap (fun x=>lineB (stmI x))).length+sumI (stmI ⟨xt,xw⟩)≤100000000000:=by have q:=HFT.out;rw [lineB_len _ (by simp [stmI])] at q;omega
  have KP:=hI0 (prLine_any W2.heap.size (L1++(cstms.take k).flatMap (fun x=>lineB (stmI x))) (stmI ⟨xt,xw⟩) v5 V5 (HP.out.below HB5.out) hro (by simp [stmI]) hfz)
  clear hro hap hag hab HO4 HB4 HR4 hfz
  (with_reducible refine KP.out.mono ?_)
  rintro _ V6 ⟨rfl,hp6,hb6,hk6⟩
  go_wp2_with fail
  go_roundw
  case rel=>exact ⟨k+1,by go_num,by omega,hI0 (hp6.cast (by rw [HST.out,←List.append_assoc])),hI0 (HW.out.trans ((HB5.out.mono (Nat.le_of_lt hbz)).trans hb6))⟩
  case measure=>simp [intOf];omega
 have hbz:W2.heap.size<wi.heap.size:=HP.out.lt
 obtain ⟨b2,off,hA,hF,hc⟩:=RdE.at_ (K:=16) (enc:=REn.enc) (fun _=>rfl) (by omega) (HVe.out.keep (Keeps.below HWw.out)) hlt
 have hq:=hc k hlt
 have hst:=takeA (g:=(fun x=>lineB (entI x))) hlt
 have hft:=fitA (g:=(fun x=>lineB (entI x))) hlt HL0.out
 have hbd:=HEN.out cents[k] (List.getElem_mem hlt)
 have HST:=hI0 hst
 have HFT:=hI0 hft
 have HBD:=hI0 hbd
 clear hc hst hft hbd
 subst hA
 generalize cents[k]=x at *
 have hcl:∀j v,x.enc[j]? =some v→wi.cell? ⟨b2,off+k*16+j,none⟩=some v:=fun j v hj=>hq j v (by have:=(List.getElem?_eq_some_iff.1 hj).1;exact this) hj
 have HCL:=hI0 hcl
 have hxl:x.enc.length=16:=rfl
 have hx1:x.enc.toArray.toList.all Value.oneCell'=true:=rfl
 have hxs:x.enc.toArray.size=16:=rfl
 clear hq hcl
 generalize hcs:x.enc=cs at *
 have HCS:=hI0 hcs
 have hz0:(wi.alloc (.cells #[.int .i64 0,.string ⟨#[]⟩,.string ⟨#[]⟩,.slice none 0 0,.slice none 0 0,.slice none 0 0,.slice none 0 0,.int .i64 0,.string ⟨#[]⟩,.string ⟨#[]⟩,.string ⟨#[]⟩,.int .i64 0,.bool false,.int .i64 0,.int .i64 0,.string ⟨#[]⟩] 79)).heap[wi.heap.size]? =some (.cells #[.int .i64 0,.string ⟨#[]⟩,.string ⟨#[]⟩,.slice none 0 0,.slice none 0 0,.slice none 0 0,.slice none 0 0,.int .i64 0,.string ⟨#[]⟩,.string ⟨#[]⟩,.string ⟨#[]⟩,.int .i64 0,.bool false,.int .i64 0,.int .i64 0,.string ⟨#[]⟩] 79 (0,0)):=heap_alloc_new _ _
 have HZ0:=hI0 hz0
 clear hcs hz0
 go_wp2_with (first|(refine ldE 47 sz_den ag_den HCL.out hxl ?_)|(refine stU 8 48 sz_den HZ0.out rfl ?_ hxs rfl hx1;intro W4 hX4 hc4)|(refine ldR 8 sz_den ag_den hX4 ?_ hxs))
 have hb4:Bl wi W4:=(Below.of_alloc _).trans (hc4.below (by simp) (fun i hi=>by omega))
 have HB4:=bT0 HWw hb4
 have KC:Hid (Calls prog 23 #[.pointer (some ⟨W2.heap.size,0,none⟩),.agg cs.toArray] W4 (PrOut W2.heap.size ((L0++(cents.take k).flatMap (fun x=>lineB (entI x)))++lineB (entI x)) W4)):=hI0 (by
  rw [←HCS.out]
  have hne:entI x≠[]:=by simp [entI]
  exact entry_any W2.heap.size (L0++(cents.take k).flatMap (fun x=>lineB (entI x))) x W4 (HE0.out.below HB4.out) (HP.out.below hb4) HBD.out.1.1 HBD.out.1.2 (HBD.out.2.below HB4.out).create (by have q:=HFT.out;rw [lineB_len _ hne] at q;omega))
 clear HCL HZ0 hX4 hc4 hxl hx1 hxs
 (with_reducible refine KC.out.mono ?_)
 rintro _ W5 ⟨rfl,hp5,hb5,hk5⟩
 go_wp2_with fail
 go_roundw
 case rel=>exact ⟨k+1,by go_num,by omega,hI0 (hp5.cast (by rw [HST.out,←List.append_assoc])),hI0 (HW.out.trans ((hb4.mono (Nat.le_of_lt hbz)).trans hb5))⟩
 case measure=>simp [intOf];omega
theorem dtext_any (c:RSt) (w:World) (he:EnvD w) (hc:c.is w (ltw w)) (hl:c.lim w):Calls prog 10 #[.agg c.enc.toArray] w (TxOut c w):=by
 by_cases h0:stateF c=0
 ·exact dtextO_any c w he hc hl h0
 ·exact dtextE_any c w hc hl h0
end Go.Proofs.YtgfhknnklapldaaGreatDoor
