/-
 DuG
-/
import Derived.Test.YtgfhknnklapldaaGreatDoorBDuF
namespace Go.Proofs.YtgfhknnklapldaaGreatDoor
open Go.Proofs.Tryz
set_option maxRecDepth 99999
set_option maxHeartbeats 0
open Go.RowKit Go.Lib Go.IntWalk Go.Sort Go.Shelf
theorem entry0_any (b:Nat) (l:List UInt8) (x:REn) (w:World) (he:EnvD w) (hp:PrAt w b l) (hok:x.ok=true) (hk:x.change.kind=0) (hsz:x.sz≤1048576) (hi:x.create.is w (ltw w)) (hll:l.length+sumI (entI x)≤100000000000):
  Calls prog 23 #[.pointer (some ⟨b,0,none⟩),.agg x.enc.toArray] w (PrOut b (l++lineB (entI x)) w):=by
 have hok2:=hok
 unfold REn.ok instB at hok
 rw [Bool.and_eq_true,Bool.and_eq_true,decide_eq_true_eq] at hok
 obtain ⟨h1,h2,h3⟩:=hok
 rw [if_pos hk,Bool.and_eq_true,Bool.and_eq_true] at h3
 have ht:=h3.2.1
 have h2':=nmB_le h2
 unfold RTab.ok at ht
 simp only [Bool.and_eq_true,decide_eq_true_eq,List.all_eq_true] at ht
 obtain ⟨t1,_,t3,_,_,t6,t7,t8⟩:=ht
 have t1':=nmB_le t1
 have hz:x.create.sz≤1048576:=by unfold REn.sz at hsz;omega
 obtain ⟨tm,tb,⟨tn,tcA,tcC,tcols,tkA,tkC,tkey,tfA,tfC,tfors,thA,thC,tchks⟩,⟨ck,cn,cto,cc,cq,cb,⟨dk,di,ds⟩⟩⟩:=x
 simp only at h1 h2' t1' hk t3 t6 t7 t8 hi hz
 subst hk
 obtain ⟨i1,i2,i3,i4,i5,i6⟩:=hi
 simp only at i1 i2 i3 i4 i5 i6
 have hBL:=hp.lt
 have HNE:Hid (entI ⟨tm,tb,⟨tn,tcA,tcC,tcols,tkA,tkC,tkey,tfA,tfC,tfors,thA,thC,tchks⟩,⟨0,cn,cto,cc,cq,cb,⟨dk,di,ds⟩⟩⟩≠[]):=hI0 (by simp [entI])
 have HLL:=hI0 hll
 have hpart:sumI (lstI colI tcols)+sumI (lstI numI tkey)+sumI (lstI forI tfors)+sumI (lstI exI tchks)≤100000000000∧[wEntry,itoa tm,qS tb,itoa 0]++[qS tn]++lstI colI tcols++lstI numI tkey++lstI forI tfors++lstI exI tchks=entI ⟨tm,tb,⟨tn,tcA,tcC,tcols,tkA,tkC,tkey,tfA,tfC,tfors,thA,thC,tchks⟩,⟨0,cn,cto,cc,cq,cb,⟨dk,di,ds⟩⟩⟩:=by
  have e:[wEntry,itoa tm,qS tb,itoa 0]++[qS tn]++lstI colI tcols++lstI numI tkey++lstI forI tfors++lstI exI tchks=entI ⟨tm,tb,⟨tn,tcA,tcC,tcols,tkA,tkC,tkey,tfA,tfC,tfors,thA,thC,tchks⟩,⟨0,cn,cto,cc,cq,cb,⟨dk,di,ds⟩⟩⟩:=by
   unfold entI tabI
   rw [if_pos rfl]
   simp only [List.append_assoc]
  refine ⟨?_,e⟩
  rw [←e] at hll
  simp only [sumI_app] at hll
  omega
 have HEI:=hI0 hpart.2
 have g1:=sumI_ge (lstI colI tcols)
 have g2:=sumI_ge (lstI numI tkey)
 have g3:=sumI_ge (lstI forI tfors)
 have g4:=sumI_ge (lstI exI tchks)
 have HLA:Hid ([wEntry,itoa tm,qS tb,itoa 0].length+[qS tn].length≤1000000000000):=hI0 (by simp)
 have HLB:Hid (([wEntry,itoa tm,qS tb,itoa 0]++[qS tn]).length+(lstI colI tcols).length≤1000000000000):=hI0 (by simp only [List.length_append,List.length_cons,List.length_nil];omega)
 have HLC:Hid (([wEntry,itoa tm,qS tb,itoa 0]++[qS tn]++lstI colI tcols).length+(lstI numI tkey).length≤1000000000000):=hI0 (by simp only [List.length_append,List.length_cons,List.length_nil];omega)
 have HLD:Hid (([wEntry,itoa tm,qS tb,itoa 0]++[qS tn]++lstI colI tcols++lstI numI tkey).length+(lstI forI tfors).length≤1000000000000):=hI0 (by simp only [List.length_append,List.length_cons,List.length_nil];omega)
 have HLE:Hid (([wEntry,itoa tm,qS tb,itoa 0]++[qS tn]++lstI colI tcols++lstI numI tkey++lstI forI tfors).length+(lstI exI tchks).length≤1000000000000):=hI0 (by simp only [List.length_append,List.length_cons,List.length_nil];omega)
 have KC:Hid (∀V,Bl w V→Calls prog 67 #[.slice tcA tcols.length tcC,.func (.func 65) #[] #[]] V (ItS (lstI colI tcols) V)):=hI0 fun V hV=>
  lstCol_any tcA tcC tcols colI V (he.below hV) (i1.below hV) (fun y hy U hU=>column_any y.name y.kind y.null U ((he.below hV).below hU) (by have:=(col_le (t6 y hy)).1;omega) (by have:=(col_le (t6 y hy)).2.1;omega) (by have:=(col_le (t6 y hy)).2.1;omega)) (by omega)
 have KK:Hid (∀V,Bl w V→Calls prog 68 #[.slice tkA tkey.length tkC,.func (.func 69) #[] #[]] V (ItS (lstI numI tkey) V)):=hI0 fun V hV=>
  lstInt_any tkA tkC tkey numI V (he.below hV) (i2.below hV) (fun y hy U hU=>dnum_any y U ((he.below hV).below hU) (by have:=(ix_le t3).2.1 y hy;omega) (by have:=(ix_le t3).2.1 y hy;omega)) (by omega)
 have KF:Hid (∀V,Bl w V→Calls prog 70 #[.slice tfA tfors.length tfC,.func (.func 71) #[] #[]] V (ItS (lstI forI tfors) V)):=hI0 fun V hV=>
  lstFor_any tfA tfC tfors forI V (he.below hV) (i3.below hV) (fun y hy U hU=>entry1_any y U ((he.below hV).below hU) (RdE.below (RdE.below (i4 y hy) hV) hU) (by have:=(for_le (t7 y hy)).1;omega) (fun n hn=>by have:=(for_le (t7 y hy)).2.1 n hn;omega) (by
   have q1:=forI_le (t7 y hy)
   have q2:=szL_mem (sz:=RFor.sz) hy
   unfold RTab.sz at hz
   simp only at hz
   omega)) (by omega)
 have KX:Hid (∀V,Bl w V→Calls prog 72 #[.slice thA tchks.length thC,.func (.func 73) #[] #[]] V (ItS (lstI exI tchks) V)):=hI0 fun V hV=>
  lstExp_any thA thC tchks exI V (he.below hV) (i5.below hV) (fun y hy U hU=>expr_any 24 y U ((he.below hV).below hU) (t8 y hy) (exIs_below hU 24 y (exIs_below hV 24 y (i6 y hy))) (by
   have q2:=szL_mem (sz:=RE.nodes) hy
   unfold RTab.sz at hz
   simp only at hz
   omega)) (by omega)
 show Calls prog 23 #[.pointer (some ⟨b,0,none⟩),.agg #[.int .i64 tm,.string tb,.string tn,.slice tcA tcols.length tcC,.slice tkA tkey.length tkC,.slice tfA tfors.length tfC,.slice thA tchks.length thC,.int .i64 0,.string cn,.string cto,.string cc,.int .i64 cq,.bool cb,.int .i64 dk,.int .i64 di,.string ds]] w _
 obtain ⟨ck,hck⟩:=eN0 ((0:Int):Int)
 have HCK:Hid (-9223372036854775808≤ck∧ck≤9223372036854775807):=hI0 (by omega)
 have HCZ:=hI0 hck
 rw [←hck] at HLL HNE HEI HLA HLB HLC HLD HLE ⊢
 have HX0:Hid ((w.alloc (.cells #[.int .i64 tm,.string tb,.string tn,.slice tcA tcols.length tcC,.slice tkA tkey.length tkC,.slice tfA tfors.length tfC,.slice thA tchks.length thC,.int .i64 ck,.string cn,.string cto,.string cc,.int .i64 cq,.bool cb,.int .i64 dk,.int .i64 di,.string ds] 79)).heap[w.heap.size]? =some (.cells #[.int .i64 tm,.string tb,.string tn,.slice tcA tcols.length tcC,.slice tkA tkey.length tkC,.slice tfA tfors.length tfC,.slice thA tchks.length thC,.int .i64 ck,.string cn,.string cto,.string cc,.int .i64 cq,.bool cb,.int .i64 dk,.int .i64 di,.string ds] 79 (0,0))):=hI0 (heap_alloc_new w _)
 have HB0:Hid (Bl w (w.alloc (.cells #[.int .i64 tm,.string tb,.string tn,.slice tcA tcols.length tcC,.slice tkA tkey.length tkC,.slice tfA tfors.length tfC,.slice thA tchks.length thC,.int .i64 ck,.string cn,.string cto,.string cc,.int .i64 cq,.bool cb,.int .i64 dk,.int .i64 di,.string ds] 79))):=hI0 (Below.of_alloc _)
 have HE:=hI0 he
 have HP:=hI0 hp
 have HBL:=hI0 hBL
 have HTM:Hid (-9223372036854775808≤tm∧tm≤9223372036854775807):=hI0 (by omega)
 have HTB:Hid (tb.size≤1000):=hI0 (by omega)
 have HTN:Hid (tn.size≤1000):=hI0 (by omega)
 clear he hp hBL hll hpart g1 g2 g3 g4 i1 i2 i3 i4 i5 i6 t1 t1' t3 t6 t7 t8 h1 h2 h2' h3 hz hsz hok2 hck
 go_in
 go_wp2_with fail
 refine wp_region_noPanic ?_
 refine wp_region_held_drew (S:=(fun Y=>Y.heap[w.heap.size]? =some (.cells #[.int .i64 tm,.string tb,.string tn,.slice tcA tcols.length tcC,.slice tkA tkey.length tkC,.slice tfA tfors.length tfC,.slice thA tchks.length thC,.int .i64 ck,.string cn,.string cto,.string cc,.int .i64 cq,.bool cb,.int .i64 dk,.int .i64 di,.string ds] 79 (0,0)))) (by kernel_rfl) ?_ (fun zh=>?_)
 ·exact HX0.out
 refine hT 0 6 ?_
 refine hU 1 7 (v:=?_) zh ?_ ?_
 rotate_left
 ·intro w' hSw;(try dsimp only at hSw);have c0:=cW1 (v:=.int .i64 tm) 0 hSw rfl;go_simp<;>with_reducible rfl
 refine hT 3 9 ?_
 refine hU 4 10 (v:=?_) zh ?_ ?_
 rotate_left
 ·intro w' hSw;(try dsimp only at hSw);have c1:=cW1 (v:=.string tb) 1 hSw rfl;go_simp<;>with_reducible rfl
 refine hT 6 12 ?_
 refine hT 7 13 ?_
 refine hU 8 14 (v:=?_) zh ?_ ?_
 rotate_left
 ·intro w' hSw;(try dsimp only at hSw);have c7:=cW1 (v:=.int .i64 ck) 7 hSw rfl;go_simp<;>with_reducible rfl
 refine hC 2 8 ?_
 (with_reducible refine (itoaC tm _ (HE.out.below HB0.out.drew) HTM.out.1 HTM.out.2).mono ?_)
 rintro _ w1 ⟨rfl,hb1⟩
 have hB1:Bl w w1:=HB0.out.drew.trans (hb1.mono HB0.out.drew.size)
 refine ⟨_,rfl,keepAnd (keepRow hb1 zh) ?_⟩
 clear zh
 intro zh
 simp only [aP]
 refine hC 5 11 ?_
 (with_reducible refine (quote_any tb w1 (HE.out.below hB1) HTB.out).mono ?_)
 rintro _ w2 ⟨rfl,hb2⟩
 have hB2:Bl w w2:=hB1.trans (hb2.mono hB1.size)
 refine ⟨_,rfl,keepAnd (keepRow hb2 zh) ?_⟩
 clear zh
 intro zh
 simp only [aP]
 refine hC 9 15 ?_
 (with_reducible refine (itoaC ck w2 (HE.out.below hB2) HCK.out.1 HCK.out.2).mono ?_)
 rintro _ w3 ⟨rfl,hb3⟩
 have hB3:Bl w w3:=hB2.trans (hb3.mono hB2.size)
 refine ⟨_,rfl,keepAnd (keepRow hb3 zh) ?_⟩
 clear zh
 intro zh
 simp only [aP]
 have hNew:(fun Y=>Y.heap[w.heap.size]? =some (.cells #[.int .i64 tm,.string tb,.string tn,.slice tcA tcols.length tcC,.slice tkA tkey.length tkC,.slice tfA tfors.length tfC,.slice thA tchks.length thC,.int .i64 ck,.string cn,.string cto,.string cc,.int .i64 cq,.bool cb,.int .i64 dk,.int .i64 di,.string ds] 79 (0,0))) (w3.alloc (.cells (svL [wEntry,itoa tm,qS tb,itoa ck]).toArray 9)):=by exact (Below.heap_alloc w3 _ _ (Array.getElem?_eq_some_iff.1 zh).1).trans zh
 refine heldRun 10 (some 16) (v:=.slice (some ⟨w3.heap.size,0,none⟩) 4 4) (w':=w3.alloc (.cells (svL [wEntry,itoa tm,qS tb,itoa ck]).toArray 9)) rfl rfl (by kernel_rfl) (by rfl) ?_ hNew ?_
 ·go_simp;rfl
 clear zh
 have zh:=hNew
 clear hNew
 simp only [aP]
 refine hT 11 4 ?_
 refine rD0 ?_
 obtain ⟨V0,hV0⟩:=eN0 (w3.alloc (.cells (svL [wEntry,itoa tm,qS tb,itoa ck]).toArray 9))
 have HO1:Hid (OwnS V0 w.heap.size (.slice (some ⟨w3.heap.size,0,none⟩) 4 4) [wEntry,itoa tm,qS tb,itoa ck]):=hI0 (by rw [hV0];exact OwnS.new w3 [wEntry,itoa tm,qS tb,itoa ck] w.heap.size hB3.size (by unfold maxLen;simp))
 have HB1:Hid (Bl w V0):=hI0 (by rw [hV0];exact hB3.alloc hB3.size _)
 rw [←hV0] at zh ⊢
 have HX1:=hI0 zh
 generalize (Value.slice (some ⟨w3.heap.size,0,none⟩) 4 4)=v0 at *
 clear zh hV0 hb1 hb2 hb3 hB1 hB2 hB3
 have hb0:(ck != 0)=false:=by rw [HCZ.out];rfl
 have c0_7:=cW1 (v:=.int .i64 ck) 7 HX1.out rfl
 have c0_2:=cW1 (v:=.string tn) 2 HX1.out rfl
 have c0_3:=cW1 (v:=.slice tcA tcols.length tcC) 3 HX1.out rfl
 have c0_4:=cW1 (v:=.slice tkA tkey.length tkC) 4 HX1.out rfl
 have c0_5:=cW1 (v:=.slice tfA tfors.length tfC) 5 HX1.out rfl
 have c0_6:=cW1 (v:=.slice thA tchks.length thC) 6 HX1.out rfl
 obtain ⟨V2,hV2⟩:=eN0 (V0.alloc (.cells #[.string tn,.slice tcA tcols.length tcC,.slice tkA tkey.length tkC,.slice tfA tfors.length tfC,.slice thA tchks.length thC] 73))
 have hbV2:=bN0 hV2
 have HT2:Hid (V2.heap[V0.heap.size]? =some (.cells #[.string tn,.slice tcA tcols.length tcC,.slice tkA tkey.length tkC,.slice tfA tfors.length tfC,.slice thA tchks.length thC] 73 (0,0))):=hI0 (by rw [hV2];exact heap_alloc_new _ _)
 have HO2:=hI0 (HO1.out.below hbV2)
 have HB2:=bT0 HB1 hbV2
 have KQ:=hI0 (quote_any tn V2 (HE.out.below HB2.out) HTN.out)
 go_wp2_with fail
 rw [←hV2]
 clear hV2 hbV2 HX1 HO1 HB1 c0_7 c0_2 c0_3 c0_4 c0_5 c0_6
 (with_reducible refine KQ.out.mono ?_)
 rintro _ V3 ⟨rfl,hb3⟩
 obtain ⟨V4,hV4⟩:=eN0 (V3.alloc (.cells (svL [qS tn]).toArray 9))
 have hb4:=bN0 hV4
 have hB3:=bU0 HB2 hb3
 have HB4:Hid (Bl w V4):=hI0 (hB3.trans (hb4.mono hB3.size))
 have HO4:=hI0 (OwnS.below (OwnS.below HO2.out hb3) hb4)
 have HT4:=hI0 (keepRow hb4 (keepRow hb3 HT2.out))
 have HN4:Hid (RdIt V4 (ltw V4) (.slice (some ⟨V3.heap.size,0,none⟩) 1 1) [qS tn]):=hI0 (by rw [hV4];exact (OwnS.new V3 [qS tn] w.heap.size hB3.size (by unfold maxLen;simp)).rd)
 have eV4:V3.alloc (.cells #[.string (strB (qS tn))] 9)=V4:=by rw [hV4];rfl
 clear hb3 hb4 hB3 HB2 HO2 HT2 KQ hV4
 have c0_1:=cW1 (v:=.slice tcA tcols.length tcC) 1 HT4.out rfl
 clear c0_1
 go_wp2_with (at_builtin;refine apS 49 53 HO4.out HN4.out HLA.out HB4.out.size ?_;intro v5 V5 hap5 hag5 hab5;have HT5:=hI0 (keepGr HO4.out hag5 HT4.out (by intro cs fr e;injection e with _ e _;exact absurd e (by decide)));have cc1:V5.cell? ⟨V0.heap.size,1,none⟩=some (.slice tcA tcols.length tcC):=cW0 _ _ 1 _ _ _ HT5.out)
 have HO5:=hI0 hap5
 have HB5:Hid (Bl w V5):=hI0 (HB4.out.trans hab5)
 clear hap5 hag5 hab5 HO4 HT4 HN4 eV4
 clear cc1
 (with_reducible refine (KC.out V5 HB5.out).mono ?_)
 rintro _ V6 ⟨u6,rfl,ho6,hb6⟩
 have HO6:=hI0 (OwnS.below HO5.out hb6)
 have HB6:=bT0 HB5 hb6
 have HT6:=hI0 (keepRow hb6 HT5.out)
 have HR6:=hI0 ho6.rd
 clear ho6 hb6 HO5 HB5 HT5
 go_wp2_with (at_builtin;refine apS 55 58 HO6.out HR6.out HLB.out HB6.out.size ?_;intro v7 V7 hap hag hab;have HT7:=hI0 (keepGr HO6.out hag HT6.out (by intro cs fr e;injection e with _ e _;exact absurd e (by decide)));have cc2:V7.cell? ⟨V0.heap.size,2,none⟩=some (.slice tkA tkey.length tkC):=cW0 _ _ 2 _ _ _ HT7.out)
 have HO7:=hI0 hap
 have HB7:Hid (Bl w V7):=hI0 (HB6.out.trans hab)
 clear hap hag hab HO6 HB6 HT6 HR6
 clear cc2
 (with_reducible refine (KK.out V7 HB7.out).mono ?_)
 rintro _ V8 ⟨u8,rfl,ho8,hb8⟩
 have HO8:=hI0 (OwnS.below HO7.out hb8)
 have HB8:=bT0 HB7 hb8
 have HT8:=hI0 (keepRow hb8 HT7.out)
 have HR8:=hI0 ho8.rd
 clear ho8 hb8 HO7 HB7 HT7
 go_wp2_with (at_builtin;refine apS 60 63 HO8.out HR8.out HLC.out HB8.out.size ?_;intro v9 V9 hap hag hab;have HT9:=hI0 (keepGr HO8.out hag HT8.out (by intro cs fr e;injection e with _ e _;exact absurd e (by decide)));have cc3:V9.cell? ⟨V0.heap.size,3,none⟩=some (.slice tfA tfors.length tfC):=cW0 _ _ 3 _ _ _ HT9.out)
 have HO9:=hI0 hap
 have HB9:Hid (Bl w V9):=hI0 (HB8.out.trans hab)
 clear hap hag hab HO8 HB8 HT8 HR8
 clear cc3
 (with_reducible refine (KF.out V9 HB9.out).mono ?_)
 rintro _ V10 ⟨u10,rfl,ho10,hb10⟩
 have HO10:=hI0 (OwnS.below HO9.out hb10)
 have HB10:=bT0 HB9 hb10
 have HT10:=hI0 (keepRow hb10 HT9.out)
 have HR10:=hI0 ho10.rd
 clear ho10 hb10 HO9 HB9 HT9
 go_wp2_with (at_builtin;refine apS 65 68 HO10.out HR10.out HLD.out HB10.out.size ?_;intro v11 V11 hap hag hab;have HT11:=hI0 (keepGr HO10.out hag HT10.out (by intro cs fr e;injection e with _ e _;exact absurd e (by decide)));have cc4:V11.cell? ⟨V0.heap.size,4,none⟩=some (.slice thA tchks.length thC):=cW0 _ _ 4 _ _ _ HT11.out)
 have HO11:=hI0 hap
 have HB11:Hid (Bl w V11):=hI0 (HB10.out.trans hab)
 clear hap hag hab HO10 HB10 HT10 HR10
 clear cc4
 (with_reducible refine (KX.out V11 HB11.out).mono ?_)
 rintro _ V12 ⟨u12,rfl,ho12,hb12⟩
 have HO12:=hI0 (OwnS.below HO11.out hb12)
 have HB12:=bT0 HB11 hb12
 have HT12:=hI0 (keepRow hb12 HT11.out)
 have HR12:=hI0 ho12.rd
 clear ho12 hb12 HO11 HB11 HT11
 go_wp2_with (at_builtin;refine apS 71 74 HO12.out HR12.out HLE.out HB12.out.size ?_;intro v13 V13 hap hag hab;have HT13:=hI0 (keepGr HO12.out hag HT12.out (by intro cs fr e;injection e with _ e _;exact absurd e (by decide)));have HO13:=hI0 hap;have HB13:Hid (Bl w V13):=hI0 (HB12.out.trans hab))
 clear hap hag hab HO12 HB12 HT12 HR12
 have hEI:=HEI.out
 have hro:RdIt V13 (ltw V13) v13 (entI ⟨tm,tb,⟨tn,tcA,tcC,tcols,tkA,tkC,tkey,tfA,tfC,tfors,thA,thC,tchks⟩,⟨ck,cn,cto,cc,cq,cb,⟨dk,di,ds⟩⟩⟩):=by rw [←hEI];exact HO13.out.rd
 have KL:=hI0 (prLine_any b l (entI ⟨tm,tb,⟨tn,tcA,tcC,tcols,tkA,tkC,tkey,tfA,tfC,tfors,thA,thC,tchks⟩,⟨ck,cn,cto,cc,cq,cb,⟨dk,di,ds⟩⟩⟩) v13 V13 (HP.out.below HB13.out) hro HNE.out HLL.out)
 clear hro hEI
 (with_reducible refine KL.out.mono ?_)
 rintro _ V14 ⟨rfl,hp14,hb14,hk14⟩
 go_wp2_with fail
 go_end0
 exact ⟨rfl,hp14,(HB13.out.mono (Nat.le_of_lt HBL.out)).trans hb14,(KeepO.of_below HB13.out).trans hk14⟩
theorem entry1x_any (b:Nat) (l:List UInt8) (x:REn) (w:World) (he:EnvD w) (hp:PrAt w b l) (hok:x.ok=true) (hk:¬x.change.kind=0) (hll:l.length+sumI (entI x)≤100000000000):
  Calls prog 23 #[.pointer (some ⟨b,0,none⟩),.agg x.enc.toArray] w (PrOut b (l++lineB (entI x)) w):=by
 unfold REn.ok instB at hok
 rw [Bool.and_eq_true,Bool.and_eq_true,decide_eq_true_eq] at hok
 obtain ⟨h1,h2,h3⟩:=hok
 rw [if_neg hk,Bool.and_eq_true] at h3
 have h2':=nmB_le h2
 obtain ⟨_,e1,e2,e3,e4,_⟩:=chn_le h3.1
 have h4:=h3.1
 unfold Chn.ok at h4
 simp only [Bool.and_eq_true,decide_eq_true_eq] at h4
 obtain ⟨_,_,_,_,h5,h6⟩:=h4
 clear h3
 obtain ⟨tm,tb,⟨tn,tcA,tcC,tcols,tkA,tkC,tkey,tfA,tfC,tfors,thA,thC,tchks⟩,⟨ck,cn,cto,cc,cq,cb,⟨dk,di,ds⟩⟩⟩:=x
 simp only at h1 h2' hk e1 e2 e3 e4 h5 h6
 have hBL:=hp.lt
 have HNE:Hid (entI ⟨tm,tb,⟨tn,tcA,tcC,tcols,tkA,tkC,tkey,tfA,tfC,tfors,thA,thC,tchks⟩,⟨ck,cn,cto,cc,cq,cb,⟨dk,di,ds⟩⟩⟩≠[]):=hI0 (by simp [entI])
 have HLL:=hI0 hll
 have HEI:Hid ([wEntry,itoa tm,qS tb,itoa ck]++[qS cn,qS cto]++colI ⟨cc,cq,cb⟩++[valB ⟨dk,di,ds⟩]=entI ⟨tm,tb,⟨tn,tcA,tcC,tcols,tkA,tkC,tkey,tfA,tfC,tfors,thA,thC,tchks⟩,⟨ck,cn,cto,cc,cq,cb,⟨dk,di,ds⟩⟩⟩):=hI0 (by
  unfold entI chnI
  rw [if_neg hk]
  simp only [List.append_assoc])
 show Calls prog 23 #[.pointer (some ⟨b,0,none⟩),.agg #[.int .i64 tm,.string tb,.string tn,.slice tcA tcols.length tcC,.slice tkA tkey.length tkC,.slice tfA tfors.length tfC,.slice thA tchks.length thC,.int .i64 ck,.string cn,.string cto,.string cc,.int .i64 cq,.bool cb,.int .i64 dk,.int .i64 di,.string ds]] w _
 have HCK:Hid (-9223372036854775808≤ck∧ck≤9223372036854775807):=hI0 (by omega)
 have HX0:Hid ((w.alloc (.cells #[.int .i64 tm,.string tb,.string tn,.slice tcA tcols.length tcC,.slice tkA tkey.length tkC,.slice tfA tfors.length tfC,.slice thA tchks.length thC,.int .i64 ck,.string cn,.string cto,.string cc,.int .i64 cq,.bool cb,.int .i64 dk,.int .i64 di,.string ds] 79)).heap[w.heap.size]? =some (.cells #[.int .i64 tm,.string tb,.string tn,.slice tcA tcols.length tcC,.slice tkA tkey.length tkC,.slice tfA tfors.length tfC,.slice thA tchks.length thC,.int .i64 ck,.string cn,.string cto,.string cc,.int .i64 cq,.bool cb,.int .i64 dk,.int .i64 di,.string ds] 79 (0,0))):=hI0 (heap_alloc_new w _)
 have HB0:Hid (Bl w (w.alloc (.cells #[.int .i64 tm,.string tb,.string tn,.slice tcA tcols.length tcC,.slice tkA tkey.length tkC,.slice tfA tfors.length tfC,.slice thA tchks.length thC,.int .i64 ck,.string cn,.string cto,.string cc,.int .i64 cq,.bool cb,.int .i64 dk,.int .i64 di,.string ds] 79))):=hI0 (Below.of_alloc _)
 have HE:=hI0 he
 have HP:=hI0 hp
 have HBL:=hI0 hBL
 have HTM:Hid (-9223372036854775808≤tm∧tm≤9223372036854775807):=hI0 (by omega)
 have HTB:Hid (tb.size≤1000):=hI0 (by omega)
 have HCN:Hid (cn.size≤1000):=hI0 (by omega)
 have HCT:Hid (cto.size≤1000):=hI0 (by omega)
 have HCC:Hid (cc.size≤1000):=hI0 (by omega)
 have HCQ:Hid (-9223372036854775808≤cq∧cq≤9223372036854775807):=hI0 (by omega)
 have HDV:=hI0 h6
 have hb0:(ck != 0)=true:=by rw [bne_iff_ne];exact hk
 clear he hp hBL hll h1 h2 h2' hk e1 e2 e3 e4 h5 h6
 go_in
 go_wp2_with fail
 refine wp_region_noPanic ?_
 refine wp_region_held_drew (S:=(fun Y=>Y.heap[w.heap.size]? =some (.cells #[.int .i64 tm,.string tb,.string tn,.slice tcA tcols.length tcC,.slice tkA tkey.length tkC,.slice tfA tfors.length tfC,.slice thA tchks.length thC,.int .i64 ck,.string cn,.string cto,.string cc,.int .i64 cq,.bool cb,.int .i64 dk,.int .i64 di,.string ds] 79 (0,0)))) (by kernel_rfl) ?_ (fun zh=>?_)
 ·exact HX0.out
 refine hT 0 6 ?_
 refine hU 1 7 (v:=?_) zh ?_ ?_
 rotate_left
 ·intro w' hSw;(try dsimp only at hSw);have c0:=cW1 (v:=.int .i64 tm) 0 hSw rfl;go_simp<;>with_reducible rfl
 refine hT 3 9 ?_
 refine hU 4 10 (v:=?_) zh ?_ ?_
 rotate_left
 ·intro w' hSw;(try dsimp only at hSw);have c1:=cW1 (v:=.string tb) 1 hSw rfl;go_simp<;>with_reducible rfl
 refine hT 6 12 ?_
 refine hT 7 13 ?_
 refine hU 8 14 (v:=?_) zh ?_ ?_
 rotate_left
 ·intro w' hSw;(try dsimp only at hSw);have c7:=cW1 (v:=.int .i64 ck) 7 hSw rfl;go_simp<;>with_reducible rfl
 refine hC 2 8 ?_
 (with_reducible refine (itoaC tm _ (HE.out.below HB0.out.drew) HTM.out.1 HTM.out.2).mono ?_)
 rintro _ w1 ⟨rfl,hb1⟩
 have hB1:Bl w w1:=HB0.out.drew.trans (hb1.mono HB0.out.drew.size)
 refine ⟨_,rfl,keepAnd (keepRow hb1 zh) ?_⟩
 clear zh
 intro zh
 simp only [aP]
 refine hC 5 11 ?_
 (with_reducible refine (quote_any tb w1 (HE.out.below hB1) HTB.out).mono ?_)
 rintro _ w2 ⟨rfl,hb2⟩
 have hB2:Bl w w2:=hB1.trans (hb2.mono hB1.size)
 refine ⟨_,rfl,keepAnd (keepRow hb2 zh) ?_⟩
 clear zh
 intro zh
 simp only [aP]
 refine hC 9 15 ?_
 (with_reducible refine (itoaC ck w2 (HE.out.below hB2) HCK.out.1 HCK.out.2).mono ?_)
 rintro _ w3 ⟨rfl,hb3⟩
 have hB3:Bl w w3:=hB2.trans (hb3.mono hB2.size)
 refine ⟨_,rfl,keepAnd (keepRow hb3 zh) ?_⟩
 clear zh
 intro zh
 simp only [aP]
 have hNew:(fun Y=>Y.heap[w.heap.size]? =some (.cells #[.int .i64 tm,.string tb,.string tn,.slice tcA tcols.length tcC,.slice tkA tkey.length tkC,.slice tfA tfors.length tfC,.slice thA tchks.length thC,.int .i64 ck,.string cn,.string cto,.string cc,.int .i64 cq,.bool cb,.int .i64 dk,.int .i64 di,.string ds] 79 (0,0))) (w3.alloc (.cells (svL [wEntry,itoa tm,qS tb,itoa ck]).toArray 9)):=by exact (Below.heap_alloc w3 _ _ (Array.getElem?_eq_some_iff.1 zh).1).trans zh
 refine heldRun 10 (some 16) (v:=.slice (some ⟨w3.heap.size,0,none⟩) 4 4) (w':=w3.alloc (.cells (svL [wEntry,itoa tm,qS tb,itoa ck]).toArray 9)) rfl rfl (by kernel_rfl) (by rfl) ?_ hNew ?_
 ·go_simp;rfl
 clear zh
 have zh:=hNew
 clear hNew
 simp only [aP]
 refine hT 11 4 ?_
 refine rD0 ?_
 obtain ⟨V0,hV0⟩:=eN0 (w3.alloc (.cells (svL [wEntry,itoa tm,qS tb,itoa ck]).toArray 9))
 have HO1:Hid (OwnS V0 w.heap.size (.slice (some ⟨w3.heap.size,0,none⟩) 4 4) [wEntry,itoa tm,qS tb,itoa ck]):=hI0 (by rw [hV0];exact OwnS.new w3 [wEntry,itoa tm,qS tb,itoa ck] w.heap.size hB3.size (by unfold maxLen;simp))
 have HB1:Hid (Bl w V0):=hI0 (by rw [hV0];exact hB3.alloc hB3.size _)
 rw [←hV0] at zh ⊢
 have HX1:=hI0 zh
 generalize (Value.slice (some ⟨w3.heap.size,0,none⟩) 4 4)=v0 at *
 clear zh hV0 hb1 hb2 hb3 hB1 hB2 hB3
 have c7:=cW1 7 HX1.out rfl
 go_wp2_with fail
 clear c7
 refine wp_region_noPanic ?_
 refine wp_region_held_drew (S:=(fun Y=>Y.heap[w.heap.size]? =some (.cells #[.int .i64 tm,.string tb,.string tn,.slice tcA tcols.length tcC,.slice tkA tkey.length tkC,.slice tfA tfors.length tfC,.slice thA tchks.length thC,.int .i64 ck,.string cn,.string cto,.string cc,.int .i64 cq,.bool cb,.int .i64 dk,.int .i64 di,.string ds] 79 (0,0)))) (by kernel_rfl) ?_ (fun zh=>?_)
 ·exact HX1.out
 refine hT 0 21 ?_
 refine hT 1 22 ?_
 refine hT 2 23 ?_
 refine hU 3 24 (v:=?_) zh ?_ ?_
 rotate_left
 ·intro w' hSw;(try dsimp only at hSw);have c8:=cW1 (v:=.string cn) 8 hSw rfl;go_simp<;>with_reducible rfl
 refine hT 5 26 ?_
 refine hT 6 27 ?_
 refine hU 7 28 (v:=?_) zh ?_ ?_
 rotate_left
 ·intro w' hSw;(try dsimp only at hSw);have c9:=cW1 (v:=.string cto) 9 hSw rfl;go_simp<;>with_reducible rfl
 refine hC 4 25 ?_
 (with_reducible refine (quote_any cn _ (HE.out.below HB1.out.drew) HCN.out).mono ?_)
 rintro _ w1 ⟨rfl,hb1⟩
 have hB1:Bl w w1:=HB1.out.drew.trans (hb1.mono HB1.out.drew.size)
 refine ⟨_,rfl,keepAnd (keepRow hb1 zh) ?_⟩
 clear zh
 intro zh
 simp only [aP]
 refine hC 8 29 ?_
 (with_reducible refine (quote_any cto w1 (HE.out.below hB1) HCT.out).mono ?_)
 rintro _ w2 ⟨rfl,hb2⟩
 have hB2:Bl w w2:=hB1.trans (hb2.mono hB1.size)
 have hO2:=hI0 (OwnS.below (OwnS.below (w:=V0.drew) HO1.out hb1) hb2)
 refine ⟨_,rfl,keepAnd (keepRow hb2 zh) ?_⟩
 clear zh
 intro zh
 simp only [aP]
 have hNew:(fun Y=>Y.heap[w.heap.size]? =some (.cells #[.int .i64 tm,.string tb,.string tn,.slice tcA tcols.length tcC,.slice tkA tkey.length tkC,.slice tfA tfors.length tfC,.slice thA tchks.length thC,.int .i64 ck,.string cn,.string cto,.string cc,.int .i64 cq,.bool cb,.int .i64 dk,.int .i64 di,.string ds] 79 (0,0))) (w2.alloc (.cells (svL [qS cn,qS cto]).toArray 9)):=by exact (Below.heap_alloc w2 _ _ (Array.getElem?_eq_some_iff.1 zh).1).trans zh
 refine heldRun 9 (some 30) (v:=.slice (some ⟨w2.heap.size,0,none⟩) 2 2) (w':=w2.alloc (.cells (svL [qS cn,qS cto]).toArray 9)) rfl rfl (by kernel_rfl) (by rfl) ?_ hNew ?_
 ·go_simp;rfl
 clear zh
 have zh:=hNew
 clear hNew
 simp only [aP]
 refine heldOp 10 rfl (by kernel_rfl) (by rfl) ?_
 refine apO 21 30 (hO2.out.below (Below.of_alloc _)) (OwnS.new w2 [qS cn,qS cto] w.heap.size hB2.size (by unfold maxLen;simp)).rd (by simp) (by have:=hB2.size;simp;omega) ?_
 intro v3 V3 hO3 hg3 hb3
 refine keepAnd ?_ (fun hNew=>?_)
 ·exact keepGr (hO2.out.below (Below.of_alloc _)) hg3 zh (by intro cs fr e;injection e with _ e _;exact absurd e (by decide))
 clear zh
 have zh:=hNew
 clear hNew
 simp only [aP]
 refine hT 11 4 ?_
 refine rD0 ?_
 have HX3:=hI0 zh
 have HO3:=hI0 hO3
 have HB3:Hid (Bl w V3):=hI0 ((hB2.alloc hB2.size _).trans hb3)
 clear zh hO3 hb3 hg3 hb1 hb2 hB1 hB2 hO2 HX1 HO1 HB1
 have c10:=cW1 10 HX3.out rfl
 have c11:=cW1 11 HX3.out rfl
 have c12:=cW1 12 HX3.out rfl
 go_wp2_with fail
 clear c10 c11 c12
 (with_reducible refine (column_any cc cq cb V3 (HE.out.below HB3.out) HCC.out HCQ.out.1 HCQ.out.2).mono ?_)
 rintro _ V4 ⟨u4,rfl,ho4,hb4⟩
 have HO4:=hI0 (OwnS.below HO3.out hb4)
 have HB4:=bT0 HB3 hb4
 have HX4:=hI0 (keepRow hb4 HX3.out)
 have HR4:=hI0 ho4.rd
 clear ho4 hb4 HO3 HB3 HX3
 go_wp2_with (at_builtin;refine apS 32 36 HO4.out HR4.out (by simp [colI]) HB4.out.size ?_;intro v5 V5 hap hag hab;have HX5:=hI0 (keepGr HO4.out hag HX4.out (by intro cs fr e;injection e with _ e _;exact absurd e (by decide)));have c13:V5.cell? ⟨w.heap.size,13,none⟩=some (.int .i64 dk):=cW0 _ _ 13 _ _ _ HX5.out;have c14:V5.cell? ⟨w.heap.size,14,none⟩=some (.int .i64 di):=cW0 _ _ 14 _ _ _ HX5.out;have c15:V5.cell? ⟨w.heap.size,15,none⟩=some (.string ds):=cW0 _ _ 15 _ _ _ HX5.out)
 have HO5:=hI0 hap
 have HB5:Hid (Bl w V5):=hI0 (HB4.out.trans hab)
 clear hap hag hab HO4 HB4 HX4 HR4 c13 c14 c15 HX5
 (with_reducible refine (literal_any dk di ds V5 (HE.out.below HB5.out) HDV.out).mono ?_)
 rintro _ V6 ⟨rfl,hb6⟩
 obtain ⟨V7,hV7⟩:=eN0 (V6.alloc (.cells (svL [valB ⟨dk,di,ds⟩]).toArray 9))
 have hb7:=bN0 hV7
 have hB6:=bU0 HB5 hb6
 have HB7:Hid (Bl w V7):=hI0 (hB6.trans (hb7.mono hB6.size))
 have HO7:=hI0 (OwnS.below (OwnS.below HO5.out hb6) hb7)
 have HR7:Hid (RdIt V7 (ltw V7) (.slice (some ⟨V6.heap.size,0,none⟩) 1 1) [valB ⟨dk,di,ds⟩]):=hI0 (by rw [hV7];exact (OwnS.new V6 [valB ⟨dk,di,ds⟩] w.heap.size hB6.size (by unfold maxLen;simp)).rd)
 have eV7:V6.alloc (.cells #[.string (strB (valB ⟨dk,di,ds⟩))] 9)=V7:=by rw [hV7];rfl
 clear hb6 hb7 hB6 HB5 HO5 hV7
 go_wp2_with (at_builtin;refine apS 39 44 HO7.out HR7.out (by simp [colI]) HB7.out.size ?_;intro v8 V8 hap hag hab;have HO8:=hI0 hap;have HB8:Hid (Bl w V8):=hI0 (HB7.out.trans hab))
 clear hap hag hab eV7
 have hEI:=HEI.out
 have hro:RdIt V8 (ltw V8) v8 (entI ⟨tm,tb,⟨tn,tcA,tcC,tcols,tkA,tkC,tkey,tfA,tfC,tfors,thA,thC,tchks⟩,⟨ck,cn,cto,cc,cq,cb,⟨dk,di,ds⟩⟩⟩):=by rw [←hEI];exact HO8.out.rd
 have KL:=hI0 (prLine_any b l (entI ⟨tm,tb,⟨tn,tcA,tcC,tcols,tkA,tkC,tkey,tfA,tfC,tfors,thA,thC,tchks⟩,⟨ck,cn,cto,cc,cq,cb,⟨dk,di,ds⟩⟩⟩) v8 V8 (HP.out.below HB8.out) hro HNE.out HLL.out)
 clear hro hEI
 (with_reducible refine KL.out.mono ?_)
 rintro _ V9 ⟨rfl,hp9,hb9,hk9⟩
 go_wp2_with fail
 go_end0
 exact ⟨rfl,hp9,(HB8.out.mono (Nat.le_of_lt HBL.out)).trans hb9,(KeepO.of_below HB8.out).trans hk9⟩
theorem entry_any (b:Nat) (l:List UInt8) (x:REn) (w:World) (he:EnvD w) (hp:PrAt w b l) (hok:x.ok=true) (hsz:x.sz≤1048576) (hi:x.create.is w (ltw w)) (hll:l.length+sumI (entI x)≤100000000000):
  Calls prog 23 #[.pointer (some ⟨b,0,none⟩),.agg x.enc.toArray] w (PrOut b (l++lineB (entI x)) w):=by
 by_cases hk:x.change.kind=0
 ·exact entry0_any b l x w he hp hok hk hsz hi hll
 ·exact entry1x_any b l x w he hp hok hk hll
end Go.Proofs.YtgfhknnklapldaaGreatDoor
