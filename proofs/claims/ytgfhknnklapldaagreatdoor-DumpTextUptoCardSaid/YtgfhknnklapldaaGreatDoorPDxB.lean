/-
 The reference's entries.
-/
import Derived.Test.YtgfhknnklapldaaGreatDoorPDxA
namespace Go.Proofs.YtgfhknnklapldaaGreatDoor
open Go.Proofs.Tryz
set_option maxRecDepth 99999
set_option maxHeartbeats 0
open Go.RowKit Go.Lib Go.IntWalk Go.Sort Go.Shelf
theorem rentryX_any (x:REn) (w:World) (hok:x.ok=true) (hk:¬x.change.kind=0):Calls prog 85 #[.agg x.enc.toArray] w (StO (jn (entI x)) w):=by
 unfold REn.ok instB at hok
 rw [Bool.and_eq_true,Bool.and_eq_true,decide_eq_true_eq] at hok
 obtain ⟨h1,h2,h3⟩:=hok
 rw [if_neg hk,Bool.and_eq_true] at h3
 have h2':=nmB_le h2
 obtain ⟨q1,e1,e2,e3,e4,e5⟩:=chn_le h3.1
 have hdv:validV x.change.def_=true:=by
  have h:=h3.1
  unfold Chn.ok at h
  simp only [Bool.and_eq_true] at h
  exact h.2.2.2.2.2
 have hcq:0≤x.change.ckind∧x.change.ckind≤3:=by
  have h:=h3.1
  unfold Chn.ok at h
  simp only [Bool.and_eq_true,decide_eq_true_eq] at h
  exact h.2.2.2.2.1
 obtain ⟨tm,tb,⟨tn,tcA,tcC,tcols,tkA,tkC,tkey,tfA,tfC,tfors,thA,thC,tchks⟩,⟨ck,cn,cto,cc,cq,cb,⟨dk,di,ds⟩⟩⟩:=x
 simp only at h1 h2' hk q1 e1 e2 e3 e4 e5 hdv hcq
 show Calls prog 85 #[.agg #[.int .i64 tm,.string tb,.string tn,.slice tcA tcols.length tcC,.slice tkA tkey.length tkC,.slice tfA tfors.length tfC,.slice thA tchks.length thC,.int .i64 ck,.string cn,.string cto,.string cc,.int .i64 cq,.bool cb,.int .i64 dk,.int .i64 di,.string ds]] w _
 have HS:Hid ((⟨#[101,110,116,114,121,32]⟩:ByteArray)++strB (itoa tm)++⟨#[32]⟩++strB (qS tb)++⟨#[32]⟩++strB (itoa ck)++⟨#[32]⟩=strB (jn [wEntry,itoa tm,qS tb,itoa ck]++[32])):=hI0 (by
  apply bas_eq
  simp only [bas_l,bas_s]
  rw [jn_cons (by simp),jn_cons (by simp),jn_cons (by simp),jn_one]
  simp [wEntry])
 have n1:(itoa tm).length≤21:=itoa21 (by omega)
 have n2:=qS_len (s:=tb) (n:=24) (by omega)
 have n3:(itoa ck).length≤21:=itoa21 (by omega)
 have hs1:((⟨#[101,110,116,114,121,32]⟩:ByteArray)++strB (itoa tm)++⟨#[32]⟩++strB (qS tb)++⟨#[32]⟩++strB (itoa ck)++⟨#[32]⟩).size≤200:=by simp only [bas_app,strB_size,bas_mk,List.size_toArray,List.length_cons,List.length_nil];omega
 have n4:=qS_len (s:=cn) (n:=24) (by omega)
 have n5:=qS_len (s:=cto) (n:=24) (by omega)
 have n6:=jn_len (colI ⟨cc,cq,cb⟩)
 have n7:sumI (colI ⟨cc,cq,cb⟩)≤100:=by
  have a1:=qS_len (s:=cc) (n:=24) (by omega)
  have a2:(itoa cq).length≤21:=itoa21 (by omega)
  have a3:(flagB cb).length≤1:=by cases cb<;>simp [flagB]
  unfold colI
  simp only [sumI_cons,sumI_nil]
  omega
 have n8:=valB_len hdv
 have HR:Hid (∀s:ByteArray,s=strB (jn [wEntry,itoa tm,qS tb,itoa ck]++[32])→s++strB (qS cn)++⟨#[32]⟩++strB (qS cto)++⟨#[32]⟩++strB (jn (colI ⟨cc,cq,cb⟩))++⟨#[32]⟩++strB (valB ⟨dk,di,ds⟩)=strB (jn (entI ⟨tm,tb,⟨tn,tcA,tcC,tcols,tkA,tkC,tkey,tfA,tfC,tfors,thA,thC,tchks⟩,⟨ck,cn,cto,cc,cq,cb,⟨dk,di,ds⟩⟩⟩))):=hI0 (by
  intro s hs
  subst hs
  have e:entI ⟨tm,tb,⟨tn,tcA,tcC,tcols,tkA,tkC,tkey,tfA,tfC,tfors,thA,thC,tchks⟩,⟨ck,cn,cto,cc,cq,cb,⟨dk,di,ds⟩⟩⟩=[wEntry,itoa tm,qS tb,itoa ck]++([qS cn,qS cto]++colI ⟨cc,cq,cb⟩++[valB ⟨dk,di,ds⟩]):=by
   unfold entI chnI
   simp only
   rw [if_neg hk]
  rw [e,jn_app2 (by simp) (by simp)]
  apply bas_eq
  simp only [bas_l,bas_s]
  have e2:jn ([qS cn,qS cto]++colI ⟨cc,cq,cb⟩++[valB ⟨dk,di,ds⟩])=qS cn++32::(qS cto++32::(jn (colI ⟨cc,cq,cb⟩)++32::valB ⟨dk,di,ds⟩)):=by
   rw [jn_snoc (by simp),List.cons_append,List.cons_append,List.nil_append,jn_cons (by simp),jn_cons (by simp [colI])]
   simp
  rw [e2]
  simp)
 have HTM:Hid (-9223372036854775808≤tm∧tm≤9223372036854775807):=hI0 (by omega)
 have HCK:Hid (-9223372036854775808≤ck∧ck≤9223372036854775807):=hI0 (by omega)
 have HCQ:Hid (-9223372036854775808≤cq∧cq≤9223372036854775807):=hI0 (by omega)
 have HTB:Hid (tb.size≤1000):=hI0 (by omega)
 have HCN:Hid (cn.size≤1000):=hI0 (by omega)
 have HCT:Hid (cto.size≤1000):=hI0 (by omega)
 have HCC:Hid (cc.size≤1000):=hI0 (by omega)
 have HDV:Hid (∀W,Calls prog 129 #[.agg #[.int .i64 dk,.int .i64 di,.string ds]] W fun e w'=>e=.returned (.string (strB (valB ⟨dk,di,ds⟩)))∧Bl W w'):=hI0 (fun W=>rvalue_any ⟨dk,di,ds⟩ W hdv)
 have HKC:Hid (∀W,Calls prog 128 #[.agg #[.string cc,.int .i64 cq,.bool cb]] W fun e w'=>e=.returned (.string (strB (jn (colI ⟨cc,cq,cb⟩))))∧Bl W w'):=hI0 (fun W=>rcolumn_any ⟨cc,cq,cb⟩ W HCC.out HCQ.out.1 HCQ.out.2)
 have HKN:=hI0 hk
 have HX0:Hid ((w.alloc (.cells #[.int .i64 tm,.string tb,.string tn,.slice tcA tcols.length tcC,.slice tkA tkey.length tkC,.slice tfA tfors.length tfC,.slice thA tchks.length thC,.int .i64 ck,.string cn,.string cto,.string cc,.int .i64 cq,.bool cb,.int .i64 dk,.int .i64 di,.string ds] 79)).heap[w.heap.size]? =some (.cells #[.int .i64 tm,.string tb,.string tn,.slice tcA tcols.length tcC,.slice tkA tkey.length tkC,.slice tfA tfors.length tfC,.slice thA tchks.length thC,.int .i64 ck,.string cn,.string cto,.string cc,.int .i64 cq,.bool cb,.int .i64 dk,.int .i64 di,.string ds] 79 (0,0))):=hI0 (heap_alloc_new w _)
 have HBX:Hid (Bl w (w.alloc (.cells #[.int .i64 tm,.string tb,.string tn,.slice tcA tcols.length tcC,.slice tkA tkey.length tkC,.slice tfA tfors.length tfC,.slice thA tchks.length thC,.int .i64 ck,.string cn,.string cto,.string cc,.int .i64 cq,.bool cb,.int .i64 dk,.int .i64 di,.string ds] 79))):=hI0 (Below.of_alloc _)
 generalize jn (entI ⟨tm,tb,⟨tn,tcA,tcC,tcols,tkA,tkC,tkey,tfA,tfC,tfors,thA,thC,tchks⟩,⟨ck,cn,cto,cc,cq,cb,⟨dk,di,ds⟩⟩⟩)=TX at *
 clear h1 h2 h2' h3 hk q1 e1 e2 e3 e4 e5 hdv hcq
 go_in
 go_wp2_with fail
 refine wp_region_noPanic ?_
 refine wp_region_held_drew (S:=(fun Y=>Y.heap[w.heap.size]? =some (.cells #[.int .i64 tm,.string tb,.string tn,.slice tcA tcols.length tcC,.slice tkA tkey.length tkC,.slice tfA tfors.length tfC,.slice thA tchks.length thC,.int .i64 ck,.string cn,.string cto,.string cc,.int .i64 cq,.bool cb,.int .i64 dk,.int .i64 di,.string ds] 79 (0,0)))) (by kernel_rfl) ?_ (fun zh=>?_)
 ·exact HX0.out
 refine hT 0 11 ?_
 refine hU 1 12 (v:=?_) zh ?_ ?_
 rotate_left
 ·intro w' hSw;(try dsimp only at hSw);have c0:=cW1 (v:=.int .i64 tm) 0 hSw rfl;go_simp<;>with_reducible rfl
 refine hT 5 16 ?_
 refine hU 6 17 (v:=?_) zh ?_ ?_
 rotate_left
 ·intro w' hSw;(try dsimp only at hSw);have c1:=cW1 (v:=.string tb) 1 hSw rfl;go_simp<;>with_reducible rfl
 refine hT 10 21 ?_
 refine hT 11 22 ?_
 refine hU 12 23 (v:=?_) zh ?_ ?_
 rotate_left
 ·intro w' hSw;(try dsimp only at hSw);have c7:=cW1 (v:=.int .i64 ck) 7 hSw rfl;go_simp<;>with_reducible rfl
 refine hC 2 13 ?_
 (with_reducible refine (rnum_any tm _ HTM.out.1 HTM.out.2).mono ?_)
 rintro _ w1 ⟨rfl,hb1⟩
 have hB1:Bl w w1:=HBX.out.drew.trans (hb1.mono HBX.out.drew.size)
 refine ⟨_,rfl,keepAnd (keepRow hb1 zh) ?_⟩
 clear zh
 intro zh
 simp only [aP]
 refine catH 3 14 (⟨#[101,110,116,114,121,32]⟩) (strB (itoa tm)) ?_
 refine catH 4 15 (⟨#[101,110,116,114,121,32]⟩++strB (itoa tm)) (⟨#[32]⟩) ?_
 refine hC 7 18 ?_
 (with_reducible refine (rquote_any tb w1 HTB.out).mono ?_)
 rintro _ w2 ⟨rfl,hb2⟩
 have hB2:Bl w w2:=hB1.trans (hb2.mono hB1.size)
 refine ⟨_,rfl,keepAnd (keepRow hb2 zh) ?_⟩
 clear zh
 intro zh
 simp only [aP]
 refine catH 8 19 (⟨#[101,110,116,114,121,32]⟩++strB (itoa tm)++⟨#[32]⟩) (strB (qS tb)) ?_
 refine catH 9 20 (⟨#[101,110,116,114,121,32]⟩++strB (itoa tm)++⟨#[32]⟩++strB (qS tb)) (⟨#[32]⟩) ?_
 refine hC 13 24 ?_
 (with_reducible refine (rnum_any ck w2 HCK.out.1 HCK.out.2).mono ?_)
 rintro _ w3 ⟨rfl,hb3⟩
 have hB3:Bl w w3:=hB2.trans (hb3.mono hB2.size)
 refine ⟨_,rfl,keepAnd (keepRow hb3 zh) ?_⟩
 clear zh
 intro zh
 simp only [aP]
 refine catH 14 25 (⟨#[101,110,116,114,121,32]⟩++strB (itoa tm)++⟨#[32]⟩++strB (qS tb)++⟨#[32]⟩) (strB (itoa ck)) ?_
 refine catH 15 26 (⟨#[101,110,116,114,121,32]⟩++strB (itoa tm)++⟨#[32]⟩++strB (qS tb)++⟨#[32]⟩++strB (itoa ck)) (⟨#[32]⟩) ?_
 refine hT 16 3 ?_
 refine rD0 ?_
 have HX1:=hI0 zh
 have HB1:=hI0 hB3
 clear zh hB1 hB2 hB3 hb1 hb2 hb3 HX0 HBX
 generalize (⟨#[101,110,116,114,121,32]⟩:ByteArray)++strB (itoa tm)++⟨#[32]⟩++strB (qS tb)++⟨#[32]⟩++strB (itoa ck)++⟨#[32]⟩=s1 at *
 have c7:=cW1 7 HX1.out rfl
 have hb0:(ck != 0)=true:=by rw [bne_iff_ne];exact HKN.out
 go_wp2_with fail
 clear c7 hb0
 refine wp_region_noPanic ?_
 refine wp_region_held_drew (S:=(fun Y=>Y.heap[w.heap.size]? =some (.cells #[.int .i64 tm,.string tb,.string tn,.slice tcA tcols.length tcC,.slice tkA tkey.length tkC,.slice tfA tfors.length tfC,.slice thA tchks.length thC,.int .i64 ck,.string cn,.string cto,.string cc,.int .i64 cq,.bool cb,.int .i64 dk,.int .i64 di,.string ds] 79 (0,0)))) (by kernel_rfl) ?_ (fun zh=>?_)
 ·exact HX1.out
 refine hT 0 31 ?_
 refine hT 1 32 ?_
 refine hT 2 33 ?_
 refine hU 3 34 (v:=?_) zh ?_ ?_
 rotate_left
 ·intro w' hSw;(try dsimp only at hSw);have c8:=cW1 (v:=.string cn) 8 hSw rfl;go_simp<;>with_reducible rfl
 refine hT 7 38 ?_
 refine hT 8 39 ?_
 refine hU 9 40 (v:=?_) zh ?_ ?_
 rotate_left
 ·intro w' hSw;(try dsimp only at hSw);have c9:=cW1 (v:=.string cto) 9 hSw rfl;go_simp<;>with_reducible rfl
 refine hT 13 44 ?_
 refine hT 14 45 ?_
 refine hU 15 46 (v:=?_) zh ?_ ?_
 rotate_left
 ·intro w' hSw;(try dsimp only at hSw);have c10:=cW1 (v:=.string cc) 10 hSw rfl;have c11:=cW1 (v:=.int .i64 cq) 11 hSw rfl;have c12:=cW1 (v:=.bool cb) 12 hSw rfl;go_simp<;>with_reducible rfl
 refine hT 19 50 ?_
 refine hT 20 51 ?_
 refine hU 21 52 (v:=?_) zh ?_ ?_
 rotate_left
 ·intro w' hSw;(try dsimp only at hSw);have c13:=cW1 (v:=.int .i64 dk) 13 hSw rfl;have c14:=cW1 (v:=.int .i64 di) 14 hSw rfl;have c15:=cW1 (v:=.string ds) 15 hSw rfl;go_simp<;>with_reducible rfl
 refine hC 4 35 ?_
 (with_reducible refine (rquote_any cn _ HCN.out).mono ?_)
 rintro _ w4 ⟨rfl,hb4⟩
 have hB4:Bl w w4:=HB1.out.drew.trans (hb4.mono HB1.out.drew.size)
 refine ⟨_,rfl,keepAnd (keepRow hb4 zh) ?_⟩
 clear zh
 intro zh
 simp only [aP]
 refine catH 5 36 (s1) (strB (qS cn)) ?_
 refine catH 6 37 (s1++strB (qS cn)) (⟨#[32]⟩) ?_
 refine hC 10 41 ?_
 (with_reducible refine (rquote_any cto w4 HCT.out).mono ?_)
 rintro _ w5 ⟨rfl,hb5⟩
 have hB5:Bl w w5:=hB4.trans (hb5.mono hB4.size)
 refine ⟨_,rfl,keepAnd (keepRow hb5 zh) ?_⟩
 clear zh
 intro zh
 simp only [aP]
 refine catH 11 42 (s1++strB (qS cn)++⟨#[32]⟩) (strB (qS cto)) ?_
 refine catH 12 43 (s1++strB (qS cn)++⟨#[32]⟩++strB (qS cto)) (⟨#[32]⟩) ?_
 refine hC 16 47 ?_
 (with_reducible refine (HKC.out w5).mono ?_)
 rintro _ w6 ⟨rfl,hb6⟩
 have hB6:Bl w w6:=hB5.trans (hb6.mono hB5.size)
 refine ⟨_,rfl,keepAnd (keepRow hb6 zh) ?_⟩
 clear zh
 intro zh
 simp only [aP]
 refine catH 17 48 (s1++strB (qS cn)++⟨#[32]⟩++strB (qS cto)++⟨#[32]⟩) (strB (jn (colI ⟨cc,cq,cb⟩))) ?_
 refine catH 18 49 (s1++strB (qS cn)++⟨#[32]⟩++strB (qS cto)++⟨#[32]⟩++strB (jn (colI ⟨cc,cq,cb⟩))) (⟨#[32]⟩) ?_
 refine hC 22 53 ?_
 (with_reducible refine (HDV.out w6).mono ?_)
 rintro _ w7 ⟨rfl,hb7⟩
 have hB7:Bl w w7:=hB6.trans (hb7.mono hB6.size)
 refine ⟨_,rfl,keepAnd (keepRow hb7 zh) ?_⟩
 clear zh
 intro zh
 simp only [aP]
 refine catH 23 54 (s1++strB (qS cn)++⟨#[32]⟩++strB (qS cto)++⟨#[32]⟩++strB (jn (colI ⟨cc,cq,cb⟩))++⟨#[32]⟩) (strB (valB ⟨dk,di,ds⟩)) ?_
 refine hT 24 2 ?_
 refine rD0 ?_
 go_wp2_with fail
 go_ret
 exact ⟨by rw [←HR.out s1 HS.out];rfl,hB7⟩
theorem rentry0_any (x:REn) (w:World) (hok:x.ok=true) (hk:x.change.kind=0) (hsz:x.sz≤1048576) (hi:x.create.is w (ltw w)):Calls prog 85 #[.agg x.enc.toArray] w (StO (jn (entI x)) w):=by
 have hle:sumI (entI x)≤10000000000:=by have:=entI_le hok hsz;omega
 unfold REn.ok instB at hok
 rw [Bool.and_eq_true,Bool.and_eq_true,decide_eq_true_eq] at hok
 obtain ⟨h1,h2,h3⟩:=hok
 rw [if_pos hk,Bool.and_eq_true,Bool.and_eq_true] at h3
 have ht:=h3.2.1
 have h2':=nmB_le h2
 unfold RTab.ok at ht
 simp only [Bool.and_eq_true,decide_eq_true_eq,List.all_eq_true] at ht
 obtain ⟨t1,_,t3,_,_,t6,t7,t8⟩:=ht
 have t1':=nmB_le t1
 have hz:x.create.sz≤1048576:=by unfold REn.sz at hsz;omega
 obtain ⟨tm,tb,⟨tn,tcA,tcC,tcols,tkA,tkC,tkey,tfA,tfC,tfors,thA,thC,tchks⟩,⟨ck,cn,cto,cc,cq,cb,⟨dk,di,ds⟩⟩⟩:=x
 simp only at h1 h2' t1' hk t3 t6 t7 t8 hi hz
 obtain ⟨i1,i2,i3,i4,i5,i6⟩:=hi
 simp only at i1 i2 i3 i4 i5 i6
 obtain ⟨b1,b2⟩:=RdE.bd i1
 obtain ⟨b3,b4⟩:=RdE.bd i2
 obtain ⟨b5,b6⟩:=RdE.bd i3
 obtain ⟨b7,b8⟩:=RdE.bd i5
 show Calls prog 85 #[.agg #[.int .i64 tm,.string tb,.string tn,.slice tcA tcols.length tcC,.slice tkA tkey.length tkC,.slice tfA tfors.length tfC,.slice thA tchks.length thC,.int .i64 ck,.string cn,.string cto,.string cc,.int .i64 cq,.bool cb,.int .i64 dk,.int .i64 di,.string ds]] w _
 have HVc:=hI0 i1
 have HVk:=hI0 i2
 have HVf:=hI0 i3
 have HVx:=hI0 i5
 have HNK:Hid (∀n∈tkey,-9223372036854775808≤n∧n≤9223372036854775807):=hI0 (fun n hn=>by have:=(ix_le t3).2.1 n hn;omega)
 have H1c:Hid (∀y∈tcols,∀W,Bl w W→Calls prog 128 #[.agg y.enc.toArray] W (StO (jn (colI y)) W)):=hI0 (fun y hy W _=>rcolumn_any y W (by have:=(col_le (t6 y hy)).1;omega) (by have:=(col_le (t6 y hy)).2.1;omega) (by have:=(col_le (t6 y hy)).2.1;omega))
 have H1f:Hid (∀y∈tfors,RdE 1 intE w (ltw w) (.slice y.cA y.cols.length y.cc) y.cols∧(∀n∈y.cols,-9223372036854775808≤n∧n≤9223372036854775807)∧y.table.size≤1000∧sumI (lstI numI y.cols)≤10000000000):=hI0 (fun y hy=>⟨i4 y hy,fun n hn=>by have:=(for_le (t7 y hy)).2.1 n hn;omega,by have:=(for_le (t7 y hy)).1;omega,by
  have q1:=forI_le (t7 y hy)
  have q2:=szL_mem (sz:=RFor.sz) hy
  unfold RTab.sz at hz
  simp only at hz
  unfold forI at q1
  rw [sumI_app] at q1
  omega⟩)
 have H1x:Hid (∀y∈tchks,∀W,Bl w W→Calls prog 131 #[.agg y.enc.toArray] W (StO (jn (exI y)) W)):=hI0 (fun y hy W hW=>rexpr_any 24 y W (t8 y hy) (exIs_below hW 24 y (i6 y hy)) (by
  have q2:=szL_mem (sz:=RE.nodes) hy
  unfold RTab.sz at hz
  simp only at hz
  omega))
 obtain ⟨T2,hT2⟩:=eN0 (jn ([wEntry,itoa tm,qS tb,itoa ck]++[qS tn]++[itoa (tcols.length:Int)]))
 obtain ⟨T3,hT3⟩:=eN0 (T2++tcols.flatMap (fun x=>32::jn (colI x)))
 obtain ⟨T4,hT4⟩:=eN0 (T3++32::(jn (lstI numI tkey)++32::itoa (tfors.length:Int)))
 obtain ⟨T5,hT5⟩:=eN0 (T4++tfors.flatMap (fun x=>32::jn (forI x)))
 obtain ⟨T6,hT6⟩:=eN0 (T5++32::itoa (tchks.length:Int))
 obtain ⟨T7,hT7⟩:=eN0 (T6++tchks.flatMap (fun x=>32::jn (exI x)))
 have hT:T7=jn (entI ⟨tm,tb,⟨tn,tcA,tcC,tcols,tkA,tkC,tkey,tfA,tfC,tfors,thA,thC,tchks⟩,⟨ck,cn,cto,cc,cq,cb,⟨dk,di,ds⟩⟩⟩):=by
  have e:entI ⟨tm,tb,⟨tn,tcA,tcC,tcols,tkA,tkC,tkey,tfA,tfC,tfors,thA,thC,tchks⟩,⟨ck,cn,cto,cc,cq,cb,⟨dk,di,ds⟩⟩⟩=[wEntry,itoa tm,qS tb,itoa ck]++[qS tn]++lstI colI tcols++lstI numI tkey++lstI forI tfors++lstI exI tchks:=by
   unfold entI tabI
   simp only
   rw [if_pos hk]
   simp only [List.append_assoc]
  have a2:T3=jn ([wEntry,itoa tm,qS tb,itoa ck]++[qS tn]++lstI colI tcols):=by
   rw [hT3,hT2,←jn_flat (by simp) _ (fun x _=>by simp [colI])]
   congr 1<;>simp [lstI]
  have a4:T4=jn ([wEntry,itoa tm,qS tb,itoa ck]++[qS tn]++lstI colI tcols++lstI numI tkey++[itoa (tfors.length:Int)]):=by
   rw [hT4,a2,jn_snoc (by simp),jn_app2 (l:=[wEntry,itoa tm,qS tb,itoa ck]++[qS tn]++lstI colI tcols) (by simp) (by simp [lstI])]
   simp
  have a5:T5=jn ([wEntry,itoa tm,qS tb,itoa ck]++[qS tn]++lstI colI tcols++lstI numI tkey++lstI forI tfors):=by
   rw [hT5,a4,←jn_flat (by simp) _ (fun x _=>by simp [forI,lstI])]
   congr 1<;>simp [lstI]
  have a6:T6=jn ([wEntry,itoa tm,qS tb,itoa ck]++[qS tn]++lstI colI tcols++lstI numI tkey++lstI forI tfors++[itoa (tchks.length:Int)]):=by
   rw [hT6,a5,jn_snoc (by simp)]
  rw [hT7,a6,←jn_flat (by simp) _ (fun x _=>exI_ne x),e]
  congr 1<;>simp [lstI]
 have hTl:T7.length≤10000000000:=by rw [hT];exact Nat.le_trans (jn_len _) hle
 have l2:T2.length≤T3.length:=by rw [hT3,List.length_append];omega
 have l3:T3.length≤T4.length:=by rw [hT4,List.length_append];omega
 have l4:T4.length≤T5.length:=by rw [hT5,List.length_append];omega
 have l5:T5.length≤T6.length:=by rw [hT6,List.length_append];omega
 have l6:T6.length≤T7.length:=by rw [hT7,List.length_append];omega
 have HL3:Hid ((T2++tcols.flatMap (fun x=>32::jn (colI x))).length≤10000000000):=hI0 (by rw [←hT3];omega)
 have HL5:Hid ((T4++tfors.flatMap (fun x=>32::jn (forI x))).length≤10000000000):=hI0 (by rw [←hT5];omega)
 have HL7:Hid ((T6++tchks.flatMap (fun x=>32::jn (exI x))).length≤10000000000):=hI0 (by rw [←hT7];omega)
 have HT3:=hI0 hT3
 have HT5:=hI0 hT5
 have HT7:=hI0 hT7
 have HTX:=hI0 hT
 have hz3:(strB T3).size≤10000000000:=strB_sz (by omega)
 have hz5:(strB T5).size≤10000000000:=strB_sz (by omega)
 have HS2:Hid (∀s:ByteArray,s=strB (jn [wEntry,itoa tm,qS tb,itoa ck]++[32])→s++(strB (qS tn)++⟨#[32]⟩++strB (itoa (tcols.length:Int)))=strB T2):=hI0 (by
  intro s hs
  subst hs
  rw [hT2,jn_snoc (by simp),jn_snoc (by simp)]
  apply bas_eq
  simp only [bas_l,bas_s]
  simp)
 have HS4:Hid (strB T3++(⟨#[32]⟩++strB (jn (lstI numI tkey))++⟨#[32]⟩++strB (itoa (tfors.length:Int)))=strB T4):=hI0 (by
  rw [hT4]
  apply bas_eq
  simp only [bas_l,bas_s]
  simp)
 have HS6:Hid (strB T5++((⟨#[32]⟩:ByteArray)++strB (itoa (tchks.length:Int)))=strB T6):=hI0 (by
  rw [hT6]
  apply bas_eq
  simp only [bas_l,bas_s]
  simp)
 have hk4:(jn (lstI numI tkey)).length≤10000000000:=by
  have:T4.length=T3.length+(1+((jn (lstI numI tkey)).length+(1+(itoa (tfors.length:Int)).length))):=by rw [hT4];simp;omega
  omega
 have HKS:Hid (sumI (lstI numI tkey)≤10000000000):=hI0 (by
  have e:entI ⟨tm,tb,⟨tn,tcA,tcC,tcols,tkA,tkC,tkey,tfA,tfC,tfors,thA,thC,tchks⟩,⟨ck,cn,cto,cc,cq,cb,⟨dk,di,ds⟩⟩⟩=[wEntry,itoa tm,qS tb,itoa ck]++tabI ⟨tn,tcA,tcC,tcols,tkA,tkC,tkey,tfA,tfC,tfors,thA,thC,tchks⟩:=by
   unfold entI
   simp only
   rw [if_pos hk]
  rw [e] at hle
  unfold tabI at hle
  simp only [sumI_app] at hle
  omega)
 have HS:Hid ((⟨#[101,110,116,114,121,32]⟩:ByteArray)++strB (itoa tm)++⟨#[32]⟩++strB (qS tb)++⟨#[32]⟩++strB (itoa ck)++⟨#[32]⟩=strB (jn [wEntry,itoa tm,qS tb,itoa ck]++[32])):=hI0 (by
  apply bas_eq
  simp only [bas_l,bas_s]
  rw [jn_cons (by simp),jn_cons (by simp),jn_cons (by simp),jn_one]
  simp [wEntry])
 have n1:(itoa tm).length≤21:=itoa21 (by omega)
 have n2:=qS_len (s:=tb) (n:=24) (by omega)
 have n3:(itoa ck).length≤21:=itoa21 (by omega)
 have hs1:((⟨#[101,110,116,114,121,32]⟩:ByteArray)++strB (itoa tm)++⟨#[32]⟩++strB (qS tb)++⟨#[32]⟩++strB (itoa ck)++⟨#[32]⟩).size≤200:=by simp only [bas_app,strB_size,bas_mk,List.size_toArray,List.length_cons,List.length_nil];omega
 have n4:=qS_len (s:=tn) (n:=24) (by omega)
 have n5:(itoa (tcols.length:Int)).length≤21:=itoaN_len (by omega)
 have HTM:Hid (-9223372036854775808≤tm∧tm≤9223372036854775807):=hI0 (by omega)
 have HCK:Hid (-9223372036854775808≤ck∧ck≤9223372036854775807):=hI0 (by omega)
 have HNC:Hid (-9223372036854775808≤(tcols.length:Int)∧(tcols.length:Int)≤9223372036854775807):=hI0 (by omega)
 have HNF:Hid (-9223372036854775808≤(tfors.length:Int)∧(tfors.length:Int)≤9223372036854775807):=hI0 (by omega)
 have HNX:Hid (-9223372036854775808≤(tchks.length:Int)∧(tchks.length:Int)≤9223372036854775807):=hI0 (by omega)
 have HTB:Hid (tb.size≤1000):=hI0 (by omega)
 have HTN:Hid (tn.size≤1000):=hI0 (by omega)
 have HKN:=hI0 hk
 have HX0:Hid ((w.alloc (.cells #[.int .i64 tm,.string tb,.string tn,.slice tcA tcols.length tcC,.slice tkA tkey.length tkC,.slice tfA tfors.length tfC,.slice thA tchks.length thC,.int .i64 ck,.string cn,.string cto,.string cc,.int .i64 cq,.bool cb,.int .i64 dk,.int .i64 di,.string ds] 79)).heap[w.heap.size]? =some (.cells #[.int .i64 tm,.string tb,.string tn,.slice tcA tcols.length tcC,.slice tkA tkey.length tkC,.slice tfA tfors.length tfC,.slice thA tchks.length thC,.int .i64 ck,.string cn,.string cto,.string cc,.int .i64 cq,.bool cb,.int .i64 dk,.int .i64 di,.string ds] 79 (0,0))):=hI0 (heap_alloc_new w _)
 have HBX:Hid (Bl w (w.alloc (.cells #[.int .i64 tm,.string tb,.string tn,.slice tcA tcols.length tcC,.slice tkA tkey.length tkC,.slice tfA tfors.length tfC,.slice thA tchks.length thC,.int .i64 ck,.string cn,.string cto,.string cc,.int .i64 cq,.bool cb,.int .i64 dk,.int .i64 di,.string ds] 79))):=hI0 (Below.of_alloc _)
 generalize jn (entI ⟨tm,tb,⟨tn,tcA,tcC,tcols,tkA,tkC,tkey,tfA,tfC,tfors,thA,thC,tchks⟩,⟨ck,cn,cto,cc,cq,cb,⟨dk,di,ds⟩⟩⟩)=TX at *
 clear h1 h2 h2' h3 hk i1 i2 i3 i4 i5 i6 t1 t1' t3 t6 t7 t8 hz hsz hle hT hT2 hT3 hT4 hT5 hT6 hT7 hTl l2 l3 l4 l5 l6
 go_in
 go_wp2_with fail
 refine wp_region_noPanic ?_
 refine wp_region_held_drew (S:=(fun Y=>Y.heap[w.heap.size]? =some (.cells #[.int .i64 tm,.string tb,.string tn,.slice tcA tcols.length tcC,.slice tkA tkey.length tkC,.slice tfA tfors.length tfC,.slice thA tchks.length thC,.int .i64 ck,.string cn,.string cto,.string cc,.int .i64 cq,.bool cb,.int .i64 dk,.int .i64 di,.string ds] 79 (0,0)))) (by kernel_rfl) ?_ (fun zh=>?_)
 ·exact HX0.out
 refine hT 0 11 ?_
 refine hU 1 12 (v:=?_) zh ?_ ?_
 rotate_left
 ·intro w' hSw;(try dsimp only at hSw);have c0:=cW1 (v:=.int .i64 tm) 0 hSw rfl;go_simp<;>with_reducible rfl
 refine hT 5 16 ?_
 refine hU 6 17 (v:=?_) zh ?_ ?_
 rotate_left
 ·intro w' hSw;(try dsimp only at hSw);have c1:=cW1 (v:=.string tb) 1 hSw rfl;go_simp<;>with_reducible rfl
 refine hT 10 21 ?_
 refine hT 11 22 ?_
 refine hU 12 23 (v:=?_) zh ?_ ?_
 rotate_left
 ·intro w' hSw;(try dsimp only at hSw);have c7:=cW1 (v:=.int .i64 ck) 7 hSw rfl;go_simp<;>with_reducible rfl
 refine hC 2 13 ?_
 (with_reducible refine (rnum_any tm _ HTM.out.1 HTM.out.2).mono ?_)
 rintro _ w1 ⟨rfl,hb1⟩
 have hB1:Bl w w1:=HBX.out.drew.trans (hb1.mono HBX.out.drew.size)
 refine ⟨_,rfl,keepAnd (keepRow hb1 zh) ?_⟩
 clear zh
 intro zh
 simp only [aP]
 refine catH 3 14 (⟨#[101,110,116,114,121,32]⟩) (strB (itoa tm)) ?_
 refine catH 4 15 (⟨#[101,110,116,114,121,32]⟩++strB (itoa tm)) (⟨#[32]⟩) ?_
 refine hC 7 18 ?_
 (with_reducible refine (rquote_any tb w1 HTB.out).mono ?_)
 rintro _ w2 ⟨rfl,hb2⟩
 have hB2:Bl w w2:=hB1.trans (hb2.mono hB1.size)
 refine ⟨_,rfl,keepAnd (keepRow hb2 zh) ?_⟩
 clear zh
 intro zh
 simp only [aP]
 refine catH 8 19 (⟨#[101,110,116,114,121,32]⟩++strB (itoa tm)++⟨#[32]⟩) (strB (qS tb)) ?_
 refine catH 9 20 (⟨#[101,110,116,114,121,32]⟩++strB (itoa tm)++⟨#[32]⟩++strB (qS tb)) (⟨#[32]⟩) ?_
 refine hC 13 24 ?_
 (with_reducible refine (rnum_any ck w2 HCK.out.1 HCK.out.2).mono ?_)
 rintro _ w3 ⟨rfl,hb3⟩
 have hB3:Bl w w3:=hB2.trans (hb3.mono hB2.size)
 refine ⟨_,rfl,keepAnd (keepRow hb3 zh) ?_⟩
 clear zh
 intro zh
 simp only [aP]
 refine catH 14 25 (⟨#[101,110,116,114,121,32]⟩++strB (itoa tm)++⟨#[32]⟩++strB (qS tb)++⟨#[32]⟩) (strB (itoa ck)) ?_
 refine catH 15 26 (⟨#[101,110,116,114,121,32]⟩++strB (itoa tm)++⟨#[32]⟩++strB (qS tb)++⟨#[32]⟩++strB (itoa ck)) (⟨#[32]⟩) ?_
 refine hT 16 3 ?_
 refine rD0 ?_
 have HX1:=hI0 zh
 have HB1:=hI0 hB3
 clear zh hB1 hB2 hB3 hb1 hb2 hb3 HX0 HBX
 generalize (⟨#[101,110,116,114,121,32]⟩:ByteArray)++strB (itoa tm)++⟨#[32]⟩++strB (qS tb)++⟨#[32]⟩++strB (itoa ck)++⟨#[32]⟩=s1 at *
 have c7:=cW1 7 HX1.out rfl
 have c2:=cW1 2 HX1.out rfl
 have c3:=cW1 3 HX1.out rfl
 have c4:=cW1 4 HX1.out rfl
 have c5:=cW1 5 HX1.out rfl
 have c6:=cW1 6 HX1.out rfl
 have hb0:(ck != 0)=false:=by rw [HKN.out];rfl
 obtain ⟨W4,hW4⟩:=eN0 (w3.alloc (.cells #[.string tn,.slice tcA tcols.length tcC,.slice tkA tkey.length tkC,.slice tfA tfors.length tfC,.slice thA tchks.length thC] 73))
 have hbW4:=bN0 hW4
 have hnW4:=hN0 hW4
 have eW4:w3.alloc (.cells #[.string tn,.slice tcA tcols.length tcC,.slice tkA tkey.length tkC,.slice tfA tfors.length tfC,.slice thA tchks.length thC] 73)=W4:=by rw [hW4]
 clear hW4
 have HB4:=bT0 HB1 hbW4
 have HT4:=hI0 hnW4
 clear hbW4 hnW4
 go_wp2_with fail
 clear eW4 c2 c3 c4 c5 c6 c7 hb0
 refine wp_region_noPanic ?_
 refine wp_region_held_drew (S:=(fun Y=>Y.heap[w3.heap.size]? =some (.cells #[.string tn,.slice tcA tcols.length tcC,.slice tkA tkey.length tkC,.slice tfA tfors.length tfC,.slice thA tchks.length thC] 73 (0,0)))) (by kernel_rfl) ?_ (fun zh=>?_)
 ·exact HT4.out
 refine hT 0 57 ?_
 refine hT 1 58 ?_
 refine hU 2 59 (v:=?_) zh ?_ ?_
 rotate_left
 ·intro w' hSw;(try dsimp only at hSw);have c0:=cW1 (v:=.string tn) 0 hSw rfl;go_simp<;>with_reducible rfl
 refine hT 5 62 ?_
 refine hU 6 63 (v:=?_) zh ?_ ?_
 rotate_left
 ·intro w' hSw;(try dsimp only at hSw);have c1:=cW1 (v:=.slice tcA tcols.length tcC) 1 hSw rfl;go_simp<;>with_reducible rfl
 refine hT 7 64 ?_
 refine hC 3 60 ?_
 (with_reducible refine (rquote_any tn _ HTN.out).mono ?_)
 rintro _ w5 ⟨rfl,hb5⟩
 have hB5:Bl w w5:=HB4.out.drew.trans (hb5.mono HB4.out.drew.size)
 refine ⟨_,rfl,keepAnd (keepRow hb5 zh) ?_⟩
 clear zh
 intro zh
 simp only [aP]
 refine catH 4 61 (strB (qS tn)) (⟨#[32]⟩) ?_
 refine hC 8 65 ?_
 (with_reducible refine (rnum_any (tcols.length:Int) w5 HNC.out.1 HNC.out.2).mono ?_)
 rintro _ w6 ⟨rfl,hb6⟩
 have hB6:Bl w w6:=hB5.trans (hb6.mono hB5.size)
 refine ⟨_,rfl,keepAnd (keepRow hb6 zh) ?_⟩
 clear zh
 intro zh
 simp only [aP]
 refine catH 9 66 (strB (qS tn)++⟨#[32]⟩) (strB (itoa (tcols.length:Int))) ?_
 refine catH 10 67 (s1) (strB (qS tn)++⟨#[32]⟩++strB (itoa (tcols.length:Int))) ?_
 refine hT 11 3 ?_
 refine rD0 ?_
 have HTA:=hI0 zh
 have HB0:=hI0 hB6
 have c1:=cW1 1 HTA.out rfl
 clear zh hB5 hB6 hb5 hb6 HT4 HB4
 go_wp2_with fail
 rw [HS2.out s1 HS.out]
 clear c1
 go_loopw [3,71] (fun o i wr=>∃k:Nat,o=.string (strB (T2++(tcols.take k).flatMap (fun x=>32::jn (colI x))))∧i=.int .i64 (k:Int)∧k≤tcols.length∧Hid (Bl w6 wr)) (fun _ i _=>tcols.length-(intOf i).toNat)
 case atStart=>exact ⟨0,by simp,rfl,Nat.zero_le _,hI0 (Below.refl _ _)⟩
 obtain ⟨k,rfl,rfl,hk,HW⟩:=hrel
 obtain ⟨wi,rfl⟩:=eN0 wr
 have HWw:Hid (Bl w wi):=hI0 (HB0.out.trans (HW.out.mono HB0.out.size))
 by_cases hlt:k<tcols.length
 case neg=>
  have HF:Hid (strB (T2++(tcols.take k).flatMap (fun x=>32::jn (colI x)))=strB (T2++tcols.flatMap (fun x=>32::jn (colI x)))):=hI0 (by rw [List.take_of_length_le (by omega)])
  rw [HF.out]
  clear HF
  rw [←HT3.out]
  have HT6:=hI0 (keepRow HW.out HTA.out)
  have HVK:Hid (RdE 1 intE wi.drew (·<wi.drew.heap.size) (.slice tkA tkey.length tkC) tkey):=hI0 (HVk.out.below HWw.out.drew)
  have n5:(itoa (tfors.length:Int)).length≤21:=itoaN_len (by omega)
  have hz3':T3.length≤10000000000:=by rw [strB_size] at hz3;exact hz3
  clear hz3
  go_wp2_with fail
  refine wp_region_noPanic ?_
  refine wp_region_held_drew (S:=(fun Y=>Y.heap[w3.heap.size]? =some (.cells #[.string tn,.slice tcA tcols.length tcC,.slice tkA tkey.length tkC,.slice tfA tfors.length tfC,.slice thA tchks.length thC] 73 (0,0)))) (by kernel_rfl) ?_ (fun zh=>?_)
  ·exact HT6.out
  refine hT 0 81 ?_
  refine hT 1 82 ?_
  refine hU 2 83 (v:=?_) zh ?_ ?_
  rotate_left
  ·intro w' hSw;(try dsimp only at hSw);have c2:=cW1 (v:=.slice tkA tkey.length tkC) 2 hSw rfl;go_simp<;>with_reducible rfl
  refine hT 6 87 ?_
  refine hU 7 88 (v:=?_) zh ?_ ?_
  rotate_left
  ·intro w' hSw;(try dsimp only at hSw);have c3:=cW1 (v:=.slice tfA tfors.length tfC) 3 hSw rfl;go_simp<;>with_reducible rfl
  refine hT 8 89 ?_
  refine hC 3 84 ?_
  (with_reducible refine (rints_any tkA tkC tkey _ HVK.out HNK.out HKS.out).mono ?_)
  rintro _ w7 ⟨rfl,hb7⟩
  have hB7:Bl w w7:=HWw.out.drew.trans (hb7.mono HWw.out.drew.size)
  refine ⟨_,rfl,keepAnd (keepRow hb7 zh) ?_⟩
  clear zh
  intro zh
  simp only [aP]
  refine catH 4 85 (⟨#[32]⟩) (strB (jn (lstI numI tkey))) ?_
  refine catH 5 86 (⟨#[32]⟩++strB (jn (lstI numI tkey))) (⟨#[32]⟩) ?_
  refine hC 9 90 ?_
  (with_reducible refine (rnum_any (tfors.length:Int) w7 HNF.out.1 HNF.out.2).mono ?_)
  rintro _ w8 ⟨rfl,hb8⟩
  have hB8:Bl w w8:=hB7.trans (hb8.mono hB7.size)
  refine ⟨_,rfl,keepAnd (keepRow hb8 zh) ?_⟩
  clear zh
  intro zh
  simp only [aP]
  refine catH 10 91 (⟨#[32]⟩++strB (jn (lstI numI tkey))++⟨#[32]⟩) (strB (itoa (tfors.length:Int))) ?_
  refine catH 11 92 (strB T3) (⟨#[32]⟩++strB (jn (lstI numI tkey))++⟨#[32]⟩++strB (itoa (tfors.length:Int))) ?_
  refine hT 12 3 ?_
  refine rD0 ?_
  have HTB2:=hI0 zh
  have HB0:=hI0 hB8
  have HTA:=HTB2
  have c3:=cW1 3 HTA.out rfl
  clear zh hB7 hB8 hb7 hb8 HVK HT6 n5
  go_wp2_with fail
  rw [show strB T3++(⟨#[32]⟩++strB (jn (lstI numI tkey))++⟨#[32]⟩++strB (itoa (tfors.length:Int)))=strB T4 from HS4.out]
  clear c3
  go_loopw [3,96] (fun o i wr=>∃k:Nat,o=.string (strB (T4++(tfors.take k).flatMap (fun x=>32::jn (forI x))))∧i=.int .i64 (k:Int)∧k≤tfors.length∧Hid (Bl w8 wr)) (fun _ i _=>tfors.length-(intOf i).toNat)
  case atStart=>exact ⟨0,by simp,rfl,Nat.zero_le _,hI0 (Below.refl _ _)⟩
  obtain ⟨k,rfl,rfl,hk,HW⟩:=hrel
  obtain ⟨wi,rfl⟩:=eN0 wr
  have HWw:Hid (Bl w wi):=hI0 (HB0.out.trans (HW.out.mono HB0.out.size))
  by_cases hlt:k<tfors.length
  case neg=>
   have HF:Hid (strB (T4++(tfors.take k).flatMap (fun x=>32::jn (forI x)))=strB (T4++tfors.flatMap (fun x=>32::jn (forI x)))):=hI0 (by rw [List.take_of_length_le (by omega)])
   rw [HF.out]
   clear HF
   rw [←HT5.out]
   have HT9:=hI0 (keepRow HW.out HTA.out)
   have c4:=cW1 4 HT9.out rfl
   have KN:=hI0 (rnum_any (tchks.length:Int) wi HNX.out.1 HNX.out.2)
   have m1:(strB (itoa (tchks.length:Int))).size≤21:=by rw [strB_size];exact itoaN_len (by omega)
   generalize strB T5=s5 at *
   go_wp2_with fail
   clear c4
   (with_reducible refine KN.out.mono ?_)
   rintro _ w9 ⟨rfl,hb9⟩
   have HBo:=bT0 HWw hb9
   have HT10:=hI0 (keepRow hb9 HT9.out)
   have c4:=cW1 4 HT10.out rfl
   generalize strB (itoa (tchks.length:Int))=vs at *
   have hz1:(⟨#[32]⟩:ByteArray).size+vs.size≤9223372036854775807:=by simp only [bas_mk,List.size_toArray,List.length_cons,List.length_nil];omega
   have hz2:s5.size+((⟨#[32]⟩:ByteArray)++vs).size≤9223372036854775807:=by simp only [bas_app,bas_mk,List.size_toArray,List.length_cons,List.length_nil];omega
   clear hb9 KN
   go_wp2_with fail
   rw [HS6.out]
   clear c4 hz1 hz2 m1
   have HB0:=HBo
   go_loopw [3,122] (fun o i wr=>∃k:Nat,o=.string (strB (T6++(tchks.take k).flatMap (fun x=>32::jn (exI x))))∧i=.int .i64 (k:Int)∧k≤tchks.length∧Hid (Bl w9 wr)) (fun _ i _=>tchks.length-(intOf i).toNat)
   case atStart=>exact ⟨0,by simp,rfl,Nat.zero_le _,hI0 (Below.refl _ _)⟩
   obtain ⟨k,rfl,rfl,hk,HW⟩:=hrel
   obtain ⟨wi,rfl⟩:=eN0 wr
   have HWw:Hid (Bl w wi):=hI0 (HB0.out.trans (HW.out.mono HB0.out.size))
   by_cases hlt:k<tchks.length
   case neg=>
    have HF:Hid (strB (T6++(tchks.take k).flatMap (fun x=>32::jn (exI x)))=strB (T6++tchks.flatMap (fun x=>32::jn (exI x)))):=hI0 (by rw [List.take_of_length_le (by omega)])
    rw [HF.out]
    clear HF
    rw [←HT7.out,HTX.out]
    go_wp2_with fail
    go_ret
    exact ⟨rfl,HWw.out⟩
   obtain ⟨b2,off,hA,hF,hc⟩:=RdE.at_ (K:=7) (enc:=RE.enc) RE.enc_length (by omega) (HVx.out.keep (Keeps.below HWw.out)) hlt
   have hq:=hc k hlt
   have hst:=takeA (g:=(fun x=>32::jn (exI x))) hlt
   obtain ⟨hso,hsv⟩:=fitG (g:=(fun x=>32::jn (exI x))) hlt HL7.out
   have h1x:=H1x.out tchks[k] (List.getElem_mem hlt)
   clear hc
   subst hA
   generalize tchks[k]=x at *
   have HST:Hid (strB (T6++(tchks.take (k+1)).flatMap (fun x=>32::jn (exI x)))=strB (T6++(tchks.take k).flatMap (fun x=>32::jn (exI x)))++((⟨#[32]⟩:ByteArray)++strB (jn (exI x)))):=hI0 (bas_sp (by rw [hst,←List.append_assoc]<;>rfl))
   clear hst
   generalize strB (T6++(tchks.take k).flatMap (fun x=>32::jn (exI x)))=so at *
   obtain ⟨op2,it2,⟨vk2,vi2,vs2⟩,nm2,A2,c2,args2⟩:=x
   have g0:wi.cell? ⟨b2,off+k*7,none⟩=some (.int .i64 op2):=hq 0 _ (by omega) rfl
   have g1:wi.cell? ⟨b2,off+k*7+1,none⟩=some (.int .i64 it2):=hq 1 _ (by omega) rfl
   have g2:wi.cell? ⟨b2,off+k*7+2,none⟩=some (.int .i64 vk2):=hq 2 _ (by omega) rfl
   have g3:wi.cell? ⟨b2,off+k*7+3,none⟩=some (.int .i64 vi2):=hq 3 _ (by omega) rfl
   have g4:wi.cell? ⟨b2,off+k*7+4,none⟩=some (.string vs2):=hq 4 _ (by omega) rfl
   have g5:wi.cell? ⟨b2,off+k*7+5,none⟩=some (.string nm2):=hq 5 _ (by omega) rfl
   have g6:wi.cell? ⟨b2,off+k*7+6,none⟩=some (.slice A2 args2.length c2):=hq 6 _ (by omega) rfl
   clear hq
   have hW1:Bl wi (wi.alloc (.cells #[.int .i64 op2,.int .i64 it2,.int .i64 vk2,.int .i64 vi2,.string vs2,.string nm2,.slice A2 args2.length c2] 117)):=Below.of_alloc _
   have KV:Hid (Calls prog 131 #[.agg #[.int .i64 op2,.int .i64 it2,.int .i64 vk2,.int .i64 vi2,.string vs2,.string nm2,.slice A2 args2.length c2]] (wi.alloc (.cells #[.int .i64 op2,.int .i64 it2,.int .i64 vk2,.int .i64 vi2,.string vs2,.string nm2,.slice A2 args2.length c2] 117)) (StO (jn (exI (RE.mk op2 it2 ⟨vk2,vi2,vs2⟩ nm2 A2 c2 args2))) (wi.alloc (.cells #[.int .i64 op2,.int .i64 it2,.int .i64 vk2,.int .i64 vi2,.string vs2,.string nm2,.slice A2 args2.length c2] 117)))):=hI0 (h1x (wi.alloc (.cells #[.int .i64 op2,.int .i64 it2,.int .i64 vk2,.int .i64 vi2,.string vs2,.string nm2,.slice A2 args2.length c2] 117)) (bU0 HWw hW1))
   have HW1:=bT0 HW hW1
   have hvs:(strB (jn (exI (RE.mk op2 it2 ⟨vk2,vi2,vs2⟩ nm2 A2 c2 args2)))).size≤10000000000:=strB_sz (Nat.le_of_succ_le (show (jn (exI (RE.mk op2 it2 ⟨vk2,vi2,vs2⟩ nm2 A2 c2 args2))).length+1≤10000000000 from hsv))
   clear h1x hW1 hsv
   go_wp2_with fail
   clear g0 g1 g2 g3 g4 g5 g6
   (with_reducible refine KV.out.mono ?_)
   rintro _ w2 ⟨rfl,hb2⟩
   have HW2:=bT0 HW1 hb2
   generalize strB (jn (exI (RE.mk op2 it2 ⟨vk2,vi2,vs2⟩ nm2 A2 c2 args2)))=vs at *
   have hz1:(⟨#[32]⟩:ByteArray).size+vs.size≤9223372036854775807:=by simp only [bas_mk,List.size_toArray,List.length_cons,List.length_nil];omega
   have hz2:so.size+((⟨#[32]⟩:ByteArray)++vs).size≤9223372036854775807:=by simp only [bas_app,bas_mk,List.size_toArray,List.length_cons,List.length_nil];omega
   clear hb2 KV
   go_wp2_with fail
   go_roundw
   case rel=>exact ⟨k+1,by rw [HST.out],by go_num,by omega,HW2⟩
   case measure=>simp [intOf];omega
  obtain ⟨b2,off,hA,hF,hc⟩:=RdE.at_ (K:=2) (enc:=RFor.enc) (fun _=>rfl) (by omega) (HVf.out.keep (Keeps.below HWw.out)) hlt
  have hq:=hc k hlt
  have hst:=takeA (g:=(fun x=>32::jn (forI x))) hlt
  obtain ⟨hso,hsv⟩:=fitG (g:=(fun x=>32::jn (forI x))) hlt HL5.out
  have h1x:=H1f.out tfors[k] (List.getElem_mem hlt)
  clear hc
  subst hA
  generalize tfors[k]=x at *
  have HST:Hid (strB (T4++(tfors.take (k+1)).flatMap (fun x=>32::jn (forI x)))=strB (T4++(tfors.take k).flatMap (fun x=>32::jn (forI x)))++((⟨#[32]⟩:ByteArray)++strB (jn (forI x)))):=hI0 (bas_sp (by rw [hst,←List.append_assoc]<;>rfl))
  clear hst
  generalize strB (T4++(tfors.take k).flatMap (fun x=>32::jn (forI x)))=so at *
  obtain ⟨fa,fc,fcols,ft⟩:=x
  have g0:wi.cell? ⟨b2,off+k*2,none⟩=some (.slice fa fcols.length fc):=hq 0 _ (by omega) rfl
  have g1:wi.cell? ⟨b2,off+k*2+1,none⟩=some (.string ft):=hq 1 _ (by omega) rfl
  clear hq
  obtain ⟨V1,hV1⟩:=eN0 (wi.alloc (.cells #[.slice fa fcols.length fc,.string ft] 158))
  have hbV1:=bN0 hV1
  have hnV1:=hN0 hV1
  have eV1:wi.alloc (.cells #[.slice fa fcols.length fc,.string ft] 158)=V1:=by rw [hV1]
  clear hV1
  have HVI:Hid (RdE 1 intE V1.drew (·<V1.drew.heap.size) (.slice fa fcols.length fc) fcols):=hI0 (RdE.below (h1x.1.below HWw.out) hbV1.drew)
  have HNI:=hI0 h1x.2.1
  have HQT:Hid (ft.size≤1000):=hI0 h1x.2.2.1
  have HNS:Hid (sumI (lstI numI fcols)≤10000000000):=hI0 h1x.2.2.2
  have m1:(strB (jn (lstI numI fcols))).size≤10000000000:=strB_sz (Nat.le_trans (jn_len _) HNS.out)
  have m2:=qS_len HQT.out
  have HFI:Hid (jn (forI ⟨fa,fc,fcols,ft⟩)=jn (lstI numI fcols)++32::qS ft):=hI0 (by unfold forI;rw [jn_snoc (by simp [lstI])])
  rw [strB_size] at m1
  clear h1x hsv
  go_wp2_with fail
  clear eV1 g0 g1
  refine wp_region_noPanic ?_
  refine wp_region_held_drew (S:=(fun Y=>Y.heap[wi.heap.size]? =some (.cells #[.slice fa fcols.length fc,.string ft] 158 (0,0)))) (by kernel_rfl) ?_ (fun zh=>?_)
  ·exact hnV1
  refine hT 0 100 ?_
  refine hT 1 101 ?_
  refine hU 2 102 (v:=?_) zh ?_ ?_
  rotate_left
  ·intro w' hSw;(try dsimp only at hSw);have c0:=cW1 (v:=.slice fa fcols.length fc) 0 hSw rfl;go_simp<;>with_reducible rfl
  refine hT 6 106 ?_
  refine hU 7 107 (v:=?_) zh ?_ ?_
  rotate_left
  ·intro w' hSw;(try dsimp only at hSw);have c1:=cW1 (v:=.string ft) 1 hSw rfl;go_simp<;>with_reducible rfl
  refine hC 3 103 ?_
  (with_reducible refine (rints_any fa fc fcols _ HVI.out HNI.out HNS.out).mono ?_)
  rintro _ x2 ⟨rfl,hc2⟩
  have hD2:Bl wi x2:=hbV1.drew.trans (hc2.mono hbV1.drew.size)
  refine ⟨_,rfl,keepAnd (keepRow hc2 zh) ?_⟩
  clear zh
  intro zh
  simp only [aP]
  refine catH 4 104 (⟨#[32]⟩) (strB (jn (lstI numI fcols))) ?_
  refine catH 5 105 (⟨#[32]⟩++strB (jn (lstI numI fcols))) (⟨#[32]⟩) ?_
  refine hC 8 108 ?_
  (with_reducible refine (rquote_any ft x2 HQT.out).mono ?_)
  rintro _ x3 ⟨rfl,hc3⟩
  have hD3:Bl wi x3:=hD2.trans (hc3.mono hD2.size)
  refine ⟨_,rfl,keepAnd (keepRow hc3 zh) ?_⟩
  clear zh
  intro zh
  simp only [aP]
  refine catH 9 109 (⟨#[32]⟩++strB (jn (lstI numI fcols))++⟨#[32]⟩) (strB (qS ft)) ?_
  refine catH 10 110 (so) (⟨#[32]⟩++strB (jn (lstI numI fcols))++⟨#[32]⟩++strB (qS ft)) ?_
  refine hT 11 3 ?_
  refine rD0 ?_
  go_wp2_with fail
  go_roundw
  case rel=>exact ⟨k+1,by rw [HST.out,HFI.out];refine congrArg (fun s=>Value.string (so++s)) ?_;apply bas_eq;simp only [bas_l,bas_s];simp,by go_num,by omega,bT0 HW hD3⟩
  case measure=>simp [intOf];omega
 obtain ⟨b2,off,hA,hF,hc⟩:=RdE.at_ (K:=3) (enc:=RCol.enc) (fun _=>rfl) (by omega) (HVc.out.keep (Keeps.below HWw.out)) hlt
 have hq:=hc k hlt
 have hst:=takeA (g:=(fun x=>32::jn (colI x))) hlt
 obtain ⟨hso,hsv⟩:=fitG (g:=(fun x=>32::jn (colI x))) hlt HL3.out
 have h1x:=H1c.out tcols[k] (List.getElem_mem hlt)
 clear hc
 subst hA
 generalize tcols[k]=x at *
 have HST:Hid (strB (T2++(tcols.take (k+1)).flatMap (fun x=>32::jn (colI x)))=strB (T2++(tcols.take k).flatMap (fun x=>32::jn (colI x)))++((⟨#[32]⟩:ByteArray)++strB (jn (colI x)))):=hI0 (bas_sp (by rw [hst,←List.append_assoc]<;>rfl))
 clear hst
 generalize strB (T2++(tcols.take k).flatMap (fun x=>32::jn (colI x)))=so at *
 obtain ⟨a,n,q⟩:=x
 have g0:wi.cell? ⟨b2,off+k*3,none⟩=some (.string a):=hq 0 _ (by omega) rfl
 have g1:wi.cell? ⟨b2,off+k*3+1,none⟩=some (.int .i64 n):=hq 1 _ (by omega) rfl
 have g2:wi.cell? ⟨b2,off+k*3+2,none⟩=some (.bool q):=hq 2 _ (by omega) rfl
 clear hq
 have hW1:Bl wi (wi.alloc (.cells #[.string a,.int .i64 n,.bool q] 75)):=Below.of_alloc _
 have KV:Hid (Calls prog 128 #[.agg #[.string a,.int .i64 n,.bool q]] (wi.alloc (.cells #[.string a,.int .i64 n,.bool q] 75)) (StO (jn (colI ⟨a,n,q⟩)) (wi.alloc (.cells #[.string a,.int .i64 n,.bool q] 75)))):=hI0 (h1x (wi.alloc (.cells #[.string a,.int .i64 n,.bool q] 75)) (bU0 HWw hW1))
 have HW1:=bT0 HW hW1
 have hvs:(strB (jn (colI ⟨a,n,q⟩))).size≤10000000000:=strB_sz (Nat.le_of_succ_le (show (jn (colI ⟨a,n,q⟩)).length+1≤10000000000 from hsv))
 clear h1x hW1 hsv
 go_wp2_with fail
 clear g0 g1 g2
 (with_reducible refine KV.out.mono ?_)
 rintro _ w2 ⟨rfl,hb2⟩
 have HW2:=bT0 HW1 hb2
 generalize strB (jn (colI ⟨a,n,q⟩))=vs at *
 have hz1:(⟨#[32]⟩:ByteArray).size+vs.size≤9223372036854775807:=by simp only [bas_mk,List.size_toArray,List.length_cons,List.length_nil];omega
 have hz2:so.size+((⟨#[32]⟩:ByteArray)++vs).size≤9223372036854775807:=by simp only [bas_app,bas_mk,List.size_toArray,List.length_cons,List.length_nil];omega
 clear hb2 KV
 go_wp2_with fail
 go_roundw
 case rel=>exact ⟨k+1,by rw [HST.out],by go_num,by omega,HW2⟩
 case measure=>simp [intOf];omega
theorem rentry_any (x:REn) (w:World) (hok:x.ok=true) (hsz:x.sz≤1048576) (hi:x.create.is w (ltw w)):Calls prog 85 #[.agg x.enc.toArray] w (StO (jn (entI x)) w):=by
 by_cases hk:x.change.kind=0
 ·exact rentry0_any x w hok hk hsz hi
 ·exact rentryX_any x w hok hk
end Go.Proofs.YtgfhknnklapldaaGreatDoor
