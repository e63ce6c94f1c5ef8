/-
 RpB
-/
import Derived.Test.YtbfdegkickjbpaaGreatVRp1
namespace Go.Proofs.YtbfdegkickjbpaaGreat
open Go.Proofs.Tryz
set_option maxRecDepth 99999
set_option maxHeartbeats 0
open Go.RowKit Go.Lib Go.IntWalk Go.Sort Go.Shelf
theorem zq88 {P:Prop} (h:P:=by
 intro w' hSw;(try dsimp only at hSw);have q0:w'.cell? ⟨wii.heap.size,0,none⟩=some (.int .i64 tm):=cW0 w' _ 0 _ _ _ ((hSw.block _ HXLi.out).trans HXi.out);go_simp<;>with_reducible rfl) : P := h
theorem zq90 {P:Prop} (h:P:=by
 intro w' hSw;(try dsimp only at hSw);have q1:w'.cell? ⟨wii.heap.size,1,none⟩=some (.string tb):=cW0 w' _ 1 _ _ _ ((hSw.block _ HXLi.out).trans HXi.out);go_simp<;>with_reducible rfl) : P := h
theorem refPutTable_any (v:Value) (l:List UInt8) (t:RTab) (w:World) (hu:RdB w (ltw w) v l) (hi:t.is w (ltw w)) (hok:t.ok=true) (hl:(l++encTab t).length≤100000000000):
  Calls prog 187 #[v,.agg t.enc.toArray] w (NewB w (l++encTab t)):=by
 obtain ⟨nm,cA,cC,cols,kA,kC,key,fA,fC,fors,hA,hC2,chks⟩:=t
 show Calls prog 187 #[v,.agg #[.string nm,.slice cA cols.length cC,.slice kA key.length kC,.slice fA fors.length fC,.slice hA chks.length hC2]] w (NewB w (l++encTab ⟨nm,cA,cC,cols,kA,kC,key,fA,fC,fors,hA,hC2,chks⟩))
 obtain ⟨z1,z2⟩:=hi.cols.bd
 obtain ⟨z3,z4⟩:=hi.key.bd
 obtain ⟨z5,z6⟩:=hi.fors.bd
 obtain ⟨z7,z8⟩:=hi.chks.bd
 simp only at z1 z2 z3 z4 z5 z6 z7 z8
 obtain ⟨W0,hW0⟩:=eN0 (w.alloc (.cells #[.string nm,.slice cA cols.length cC,.slice kA key.length kC,.slice fA fors.length fC,.slice hA chks.length hC2] 75))
 have hbW:=bN0 hW0
 have HBW:=hI0 hbW
 have HBL:Hid (w.heap.size<W0.heap.size):=hI0 (by rw [hW0];simp)
 have HT:Hid (W0.heap[w.heap.size]? =some (.cells #[.string nm,.slice cA cols.length cC,.slice kA key.length kC,.slice fA fors.length fC,.slice hA chks.length hC2] 75 (0,0))):=hI0 zi50
 have hR0:=hu.below hbW
 unfold RTab.ok at hok
 simp only [Bool.and_eq_true,decide_eq_true_eq,List.all_eq_true] at hok
 obtain ⟨o1,o2,o3,o4,o5,o6,o7,o8⟩:=hok
 have hi0:=hi.below hbW
 have HNM:Hid (nm.size≤300):=hI0 (by have:=nmB_le o1;omega)
 have HCO:Hid (∀x∈cols,x.name.size≤300∧(-9223372036854775808≤x.kind∧x.kind≤9223372036854775807)):=hI0 (fun x hx=>by have:=col_le (o6 x hx);omega)
 have HKB:Hid (∀n∈key,(-9223372036854775808≤n∧n≤9223372036854775807)):=hI0 (fun n hn=>by have:=(ix_le o3).2.1 n hn;omega)
 have HFO:Hid (∀x∈fors,x.table.size≤300∧∀n∈x.cols,(-9223372036854775808≤n∧n≤9223372036854775807)):=hI0 (fun x hx=>⟨by have:=(for_le (o7 x hx)).1;omega,fun n hn=>by have:=(for_le (o7 x hx)).2.1 n hn;omega⟩)
 have HCH:Hid (∀e∈chks,okX 24 e=true∧exIs 24 W0 (ltw W0) e):=hI0 (fun e he=>⟨o8 e he,hi0.chkI e he⟩)
 have HKEY:Hid (RdE 1 intE W0 (ltw W0) (.slice kA key.length kC) key):=hI0 hi0.key
 have HVC:Hid (RdE 3 RCol.enc W0 (ltw W0) (.slice cA cols.length cC) cols):=hI0 hi0.cols
 have HVF:Hid (RdE 2 RFor.enc W0 (ltw W0) (.slice fA fors.length fC) fors):=hI0 hi0.fors
 have HFI:Hid (∀x∈fors,RFor.is W0 (ltw W0) x):=hI0 hi0.forI
 have HVH:Hid (RdE 7 RE.enc W0 (ltw W0) (.slice hA chks.length hC2) chks):=hI0 hi0.chks
 obtain ⟨sL1,hsL1⟩:=eN0 (l++(encI nm.size++nm.data.toList))
 obtain ⟨sL2,hsL2⟩:=eN0 (sL1++encI cols.length)
 obtain ⟨sL3,hsL3⟩:=eN0 (sL2++cols.flatMap encCol)
 obtain ⟨sL4,hsL4⟩:=eN0 (sL3++(encI key.length++key.flatMap encI))
 obtain ⟨sL5,hsL5⟩:=eN0 (sL4++encI fors.length)
 obtain ⟨sL6,hsL6⟩:=eN0 (sL5++fors.flatMap encFor)
 obtain ⟨sL7,hsL7⟩:=eN0 (sL6++encI chks.length)
 obtain ⟨sL8,hsL8⟩:=eN0 (sL7++chks.flatMap encX)
 have sE:sL8=l++encTab ⟨nm,cA,cC,cols,kA,kC,key,fA,fC,fors,hA,hC2,chks⟩:=by rw [hsL8,hsL7,hsL6,hsL5,hsL4,hsL3,hsL2,hsL1];simp only [encTab,List.append_assoc]
 have sn8:sL8.length≤100000000000:=by rw [sE];exact hl
 have sn7:=rL0 hsL8 sn8
 have sn6:=rL0 hsL7 sn7
 have sn5:=rL0 hsL6 sn6
 have sn4:=rL0 hsL5 sn5
 have sn3:=rL0 hsL4 sn4
 have sn2:=rL0 hsL3 sn3
 have sn1:=rL0 hsL2 sn2
 have sn0:=rL0 hsL1 sn1
 have sE:=hI0 sE
 have sn0:=hI0 sn0
 have sn1:=hI0 sn1
 have sn2:=hI0 sn2
 have sn3:=hI0 sn3
 have sn4:=hI0 sn4
 have sn5:=hI0 sn5
 have sn6:=hI0 sn6
 have sn7:=hI0 sn7
 have sn8:=hI0 sn8
 have sK1:∀v W,RdB W (ltw W) v l→Bl W0 W→Calls prog 116 #[v,.string nm] W (NewB W sL1):=fun v W h hW=>by
  rw [hsL1]
  exact refPutText_any v l nm W h (by have q1:=sn0.out;have q2:nm.size≤300:=HNM.out;omega)
 have sK2:∀v W,RdB W (ltw W) v sL1→Bl W0 W→Calls prog 113 #[v,.int .i64 (cols.length:Int)] W (NewB W sL2):=fun v W h hW=>by
  rw [hsL2]
  exact refPutInt_any v sL1 cols.length W (by omega) (by omega) h (by have:=sn1.out;omega)
 have hsL3:=hI0 hsL3
 have sK4:∀v W,RdB W (ltw W) v sL3→Bl W0 W→Calls prog 157 #[v,.slice kA key.length kC] W (NewB W sL4):=fun v W h hW=>by
  rw [hsL4]
  exact refPutInts_any v sL3 kA kC key W h (HKEY.out.below hW) HKB.out (by have q:=sn4.out;rw [hsL4] at q;exact q)
 have sK5:∀v W,RdB W (ltw W) v sL4→Bl W0 W→Calls prog 113 #[v,.int .i64 (fors.length:Int)] W (NewB W sL5):=fun v W h hW=>by
  rw [hsL5]
  exact refPutInt_any v sL4 fors.length W (by omega) (by omega) h (by have:=sn4.out;omega)
 have hsL6:=hI0 hsL6
 have sK7:∀v W,RdB W (ltw W) v sL6→Bl W0 W→Calls prog 113 #[v,.int .i64 (chks.length:Int)] W (NewB W sL7):=fun v W h hW=>by
  rw [hsL7]
  exact refPutInt_any v sL6 chks.length W (by omega) (by omega) h (by have:=sn6.out;omega)
 have hsL8:=hI0 hsL8
 clear hsL1 hsL2 hsL4 hsL5 hsL7
 clear hbW hl hu hi hi0 o1 o2 o3 o4 o5 o6 o7 o8
 go_in
 go_wp2_with fail
 rw [←hW0]
 clear hW0
 refine rB0 W0 (fun zh=>?_)
 refine hT 0 11 ?_
 refine hT 1 12 ?_
 refine hU 2 13 (v:=?_) zh ?_ ?_
 rotate_left
 ·exact zq91
 refine hT 4 15 ?_
 refine hU 5 16 (v:=?_) zh ?_ ?_
 rotate_left
 ·intro w' hSw;(try dsimp only at hSw);have q1:w'.cell? ⟨w.heap.size,1,none⟩=some (.slice cA cols.length cC):=cW0 w' _ 1 _ _ _ ((hSw.block _ HBL.out).trans HT.out);go_simp<;>with_reducible rfl
 refine hT 6 17 ?_
 refine hC 3 14 ?_
 (with_reducible refine (sK1 _ _ (hR0.below (Below.refl _ _).drew) ((Below.refl W0.heap.size W0).trans ((Below.refl W0.heap.size W0).drew.mono (Below.refl W0.heap.size W0).size))).mono ?_)
 rintro _ y1 ⟨vy1,rfl,hOy1,hby1'⟩
 have hby1:Bl W0 y1:=Below.undrew hby1'
 have hRy1:=hOy1.rd
 refine ⟨_,rfl,keepAnd hby1 ?_⟩
 clear zh
 intro zh
 simp only [aP]
 refine hC 7 18 ?_
 (with_reducible refine (sK2 _ _ hRy1 ((Below.refl W0.heap.size W0).trans (hby1.mono (Below.refl W0.heap.size W0).size))).mono ?_)
 rintro _ y2 ⟨vy2,rfl,hOy2,hby2'⟩
 have hby2:Bl W0 y2:=hby1.trans (hby2'.mono hby1.size)
 have hRy2:=hOy2.rd
 refine ⟨_,rfl,keepAnd hby2 ?_⟩
 clear zh
 intro zh
 simp only [aP]
 refine hT 8 0 ?_
 refine rD0 ?_
 clear zh
 have HA1:Hid (AtB W0 y2 vy2 sL2):=hI0 (AtB.next ((Below.refl W0.heap.size W0).trans (hby1.mono (Below.refl W0.heap.size W0).size)) hOy2 hby2')
 clear hRy1 hby1 hby1' hOy1 hRy2 hby2 hby2' hOy2 sK1 sK2
 clear hR0
 have hT3:=(HA1.out.bel.block _ HBL.out).trans HT.out
 have c1:=cW1 1 hT3 rfl
 clear hT3
 go_wp2_with fail
 clear c1
 go_loopw [0,22] (fun b i wr=>∃k:Nat,i=.int .i64 (k:Int)∧k≤cols.length∧Hid (AtB W0 wr b (sL2++(cols.take k).flatMap encCol))) (fun _ i _=>cols.length-(intOf i).toNat)
 case atStart=>exact ⟨0,rfl,Nat.zero_le _,hI0 (HA1.out.cast zi17)⟩
 clear HA1
 obtain ⟨kc,rfl,hkc,HAic⟩:=hrel
 obtain ⟨wic,rfl⟩:=eN0 wr
 by_cases hltc:kc<cols.length
 case neg=>
  have hltZ:¬(kc:Int)<(cols.length:Int):=by omega
  have HFc:=hI0 (HAic.out.cast (show sL2++(cols.take kc).flatMap encCol=sL3 by rw [List.take_of_length_le (by omega),hsL3.out]))
  clear HAic
  have hR7:=HFc.out.rd
  have HT7:=hI0 ((HFc.out.bel.block _ HBL.out).trans HT.out)
  have HBL7:Hid (w.heap.size<wic.heap.size):=hI0 (Nat.lt_of_lt_of_le HBL.out HFc.out.bel.size)
  go_wp2_with fail
  refine rB0 wic (fun zh=>?_)
  refine hT 0 30 ?_
  refine hT 1 31 ?_
  refine hU 2 32 (v:=?_) zh ?_ ?_
  rotate_left
  ·intro w' hSw;(try dsimp only at hSw);have q2:w'.cell? ⟨w.heap.size,2,none⟩=some (.slice kA key.length kC):=cW0 w' _ 2 _ _ _ ((hSw.block _ HBL7.out).trans HT7.out);go_simp<;>with_reducible rfl
  refine hT 4 34 ?_
  refine hU 5 35 (v:=?_) zh ?_ ?_
  rotate_left
  ·intro w' hSw;(try dsimp only at hSw);have q3:w'.cell? ⟨w.heap.size,3,none⟩=some (.slice fA fors.length fC):=cW0 w' _ 3 _ _ _ ((hSw.block _ HBL7.out).trans HT7.out);go_simp<;>with_reducible rfl
  refine hT 6 36 ?_
  refine hC 3 33 ?_
  (with_reducible refine (sK4 _ _ (hR7.below (Below.refl _ _).drew) (HFc.out.bel.trans ((Below.refl wic.heap.size wic).drew.mono HFc.out.bel.size))).mono ?_)
  rintro _ t1 ⟨vt1,rfl,hOt1,hbt1'⟩
  have hbt1:Bl wic t1:=Below.undrew hbt1'
  have hRt1:=hOt1.rd
  refine ⟨_,rfl,keepAnd hbt1 ?_⟩
  clear zh
  intro zh
  simp only [aP]
  refine hC 7 37 ?_
  (with_reducible refine (sK5 _ _ hRt1 (HFc.out.bel.trans (hbt1.mono HFc.out.bel.size))).mono ?_)
  rintro _ t2 ⟨vt2,rfl,hOt2,hbt2'⟩
  have hbt2:Bl wic t2:=hbt1.trans (hbt2'.mono hbt1.size)
  have hRt2:=hOt2.rd
  refine ⟨_,rfl,keepAnd hbt2 ?_⟩
  clear zh
  intro zh
  simp only [aP]
  refine hT 8 0 ?_
  refine rD0 ?_
  clear zh
  have HA3:Hid (AtB W0 t2 vt2 sL5):=hI0 (AtB.next (HFc.out.bel.trans (hbt1.mono HFc.out.bel.size)) hOt2 hbt2')
  clear hRt1 hbt1 hbt1' hOt1 hRt2 hbt2 hbt2' hOt2 sK4 sK5
  clear hR7 HT7 HBL7 HFc
  have hT3:=(HA3.out.bel.block _ HBL.out).trans HT.out
  have c3:=cW1 3 hT3 rfl
  clear hT3
  go_wp2_with fail
  clear c3
  go_loopw [0,41] (fun b i wr=>∃k:Nat,i=.int .i64 (k:Int)∧k≤fors.length∧Hid (AtB W0 wr b (sL5++(fors.take k).flatMap encFor))) (fun _ i _=>fors.length-(intOf i).toNat)
  case atStart=>exact ⟨0,rfl,Nat.zero_le _,hI0 (HA3.out.cast zi17)⟩
  clear HA3
  obtain ⟨kf,rfl,hkf,HAif⟩:=hrel
  obtain ⟨wif,rfl⟩:=eN0 wr
  by_cases hltf:kf<fors.length
  case neg=>
   have hltZ:¬(kf:Int)<(fors.length:Int):=by omega
   have HFf:=hI0 (HAif.out.cast (show sL5++(fors.take kf).flatMap encFor=sL6 by rw [List.take_of_length_le (by omega),hsL6.out]))
   clear HAif
   have hT3:=(HFf.out.bel.block _ HBL.out).trans HT.out
   have c4:=cW1 4 hT3 rfl
   clear hT3
   have KC:=sK7 _ _ HFf.out.rd HFf.out.bel
   go_wp2_with fail
   (with_reducible refine KC.mono ?_)
   rintro _ y8 ⟨vy8,rfl,hO,hb⟩
   have HA5:Hid (AtB W0 y8 vy8 sL7):=hI0 (AtB.next HFf.out.bel hO hb)
   clear KC hO hb sK7
   clear c4 HFf
   have hT3:=(HA5.out.bel.block _ HBL.out).trans HT.out
   have c4:=cW1 4 hT3 rfl
   clear hT3
   go_wp2_with fail
   clear c4
   go_loopw [0,61] (fun b i wr=>∃k:Nat,i=.int .i64 (k:Int)∧k≤chks.length∧Hid (AtB W0 wr b (sL7++(chks.take k).flatMap encX))) (fun _ i _=>chks.length-(intOf i).toNat)
   case atStart=>exact ⟨0,rfl,Nat.zero_le _,hI0 (HA5.out.cast zi17)⟩
   clear HA5
   obtain ⟨kh,rfl,hkh,HAih⟩:=hrel
   obtain ⟨wih,rfl⟩:=eN0 wr
   by_cases hlth:kh<chks.length
   case neg=>
    have hltZ:¬(kh:Int)<(chks.length:Int):=by omega
    have HFh:=hI0 (HAih.out.cast (show sL7++(chks.take kh).flatMap encX=sL8 by rw [List.take_of_length_le (by omega),hsL8.out]))
    clear HAih
    go_wp2_with fail
    go_ret
    exact HFh.out.done HBW.out (by rw [sE.out]<;>first|rfl|(simp only [List.append_assoc];done)|(simp [*,List.append_assoc];done))
   have hltZ:(kh:Int)<(chks.length:Int):=by omega
   have hBi:=HAih.out.bel
   obtain ⟨bh,offh,rfl,hF,hcl⟩:=RdE.at_ (K:=7) (enc:=RE.enc) RE.enc_length (by omega) (HVH.out.keep (Keeps.below hBi)) hlth
   have hcx:=hcl kh hlth
   have hmem:=List.getElem_mem hlth
   have hsn:=flat_snoc encX hlth
   have hle:=flat_le encX hlth
   obtain ⟨xh,hx⟩:=eN0 (chks[kh])
   rw [←hx] at hcx hmem hsn hle
   obtain ⟨Lkh,hLk⟩:=eN0 (sL7++(chks.take kh).flatMap encX)
   have hM:(Lkh++encX xh).length≤100000000000:=by
    have q:=sn8.out
    rw [hsL8.out] at q
    rw [hLk]
    simp only [List.length_append] at q ⊢
    omega
   have hS:sL7++(chks.take (kh+1)).flatMap encX=Lkh++encX xh:=by rw [hsn,←List.append_assoc,←hLk]
   have HBih:=hI0 hBi
   have hRi:=HAih.out.rd
   rw [←hLk] at hRi
   clear hcl hx hF hsn hle hBi hLk HAih
   have HXO:=hI0 (HCH.out _ hmem)
   obtain ⟨op2,it2,⟨vk2,vi2,vs2⟩,nm2,aA2,ac2,args2⟩:=xh
   have HSh:Hid (sL7++(chks.take (kh+1)).flatMap encX=Lkh++encX (RE.mk op2 it2 ⟨vk2,vi2,vs2⟩ nm2 aA2 ac2 args2)):=hI0 hS
   have hM:(Lkh++encX (RE.mk op2 it2 ⟨vk2,vi2,vs2⟩ nm2 aA2 ac2 args2)).length≤100000000000:=hM
   obtain ⟨gh0,gh1,gh2,gh3,gh4,gh5,gh6⟩:=cK7 hcx (show _=[.int .i64 op2,.int .i64 it2,.int .i64 vk2,.int .i64 vi2,.string vs2,.string nm2,.slice aA2 args2.length ac2] from rfl)
   clear hcx hS hmem
   obtain ⟨wbh,hwbh⟩:=eN0 (wih.alloc (.cells #[.int .i64 op2,.int .i64 it2,.int .i64 vk2,.int .i64 vi2,.string vs2,.string nm2,.slice aA2 args2.length ac2] 212))
   have hbb:=bN0 hwbh
   have HBbh:=bT0 HBih hbb
   have HXLh:Hid (wih.heap.size<wbh.heap.size):=hI0 (by rw [hwbh];simp)
   have HXh:Hid (wbh.heap[wih.heap.size]? =some (.cells #[.int .i64 op2,.int .i64 it2,.int .i64 vk2,.int .i64 vi2,.string vs2,.string nm2,.slice aA2 args2.length ac2] 212 (0,0))):=hI0 (by rw [hwbh];exact heap_alloc_new _ _)
   have hRbh:=hRi.below hbb
   clear hbb hRi
   have KC:Calls prog 236 #[_,.agg #[.int .i64 op2,.int .i64 it2,.int .i64 vk2,.int .i64 vi2,.string vs2,.string nm2,.slice aA2 args2.length ac2]] wbh (NewB wbh (Lkh++encX (RE.mk op2 it2 ⟨vk2,vi2,vs2⟩ nm2 aA2 ac2 args2))):=refPutExpr_any 24 (RE.mk op2 it2 ⟨vk2,vi2,vs2⟩ nm2 aA2 ac2 args2) _ Lkh wbh HXO.out.1 (exIs_below HBbh.out 24 _ HXO.out.2) hRbh hM
   go_wp2_with fail
   rw [←hwbh]
   (with_reducible refine KC.mono ?_)
   rintro _ y9 ⟨vy9,rfl,hO,hb⟩
   have HAnh:Hid (AtB W0 y9 vy9 (Lkh++encX (RE.mk op2 it2 ⟨vk2,vi2,vs2⟩ nm2 aA2 ac2 args2))):=hI0 (AtB.next HBbh.out hO hb)
   clear KC hO hb hM
   go_wp2_with fail
   go_roundw
   case rel=>exact ⟨kh+1,by go_num,by omega,hI0 (HAnh.out.cast HSh.out.symm)⟩
   case measure=>simp [intOf];omega
  have hltZ:(kf:Int)<(fors.length:Int):=by omega
  have hBi:=HAif.out.bel
  obtain ⟨bf,offf,rfl,hF,hcl⟩:=RdE.at_ (K:=2) (enc:=RFor.enc) (fun _=>rfl) (by omega) (HVF.out.keep (Keeps.below hBi)) hltf
  have hcx:=hcl kf hltf
  have hmem:=List.getElem_mem hltf
  have hsn:=flat_snoc encFor hltf
  have hle:=flat_le encFor hltf
  obtain ⟨xf,hx⟩:=eN0 (fors[kf])
  rw [←hx] at hcx hmem hsn hle
  obtain ⟨Lkf,hLk⟩:=eN0 (sL5++(fors.take kf).flatMap encFor)
  have hM:(Lkf++encFor xf).length≤100000000000:=by
   have q:=sn6.out
   rw [hsL6.out] at q
   rw [hLk]
   simp only [List.length_append] at q ⊢
   omega
  have hS:sL5++(fors.take (kf+1)).flatMap encFor=Lkf++encFor xf:=by rw [hsn,←List.append_assoc,←hLk]
  have HBif:=hI0 hBi
  have hRi:=HAif.out.rd
  rw [←hLk] at hRi
  clear hcl hx hF hsn hle hBi hLk HAif
  have HGB:=hI0 (HFO.out _ hmem)
  have HGI:Hid (RFor.is W0 (ltw W0) xf):=hI0 (HFI.out _ hmem)
  obtain ⟨gA,gc,gl,gt⟩:=xf
  have HGI:Hid (RdE 1 intE W0 (ltw W0) (.slice gA gl.length gc) gl):=HGI
  have HSf:Hid (sL5++(fors.take (kf+1)).flatMap encFor=Lkf++encFor ⟨gA,gc,gl,gt⟩):=hI0 hS
  have hM:(Lkf++encFor ⟨gA,gc,gl,gt⟩).length≤100000000000:=hM
  obtain ⟨gf0,gf1⟩:=cK2 hcx (show _=[.slice gA gl.length gc,.string gt] from rfl)
  clear hcx hS hmem
  obtain ⟨wbf,hwbf⟩:=eN0 (wif.alloc (.cells #[.slice gA gl.length gc,.string gt] 278))
  have hbb:=bN0 hwbf
  have HBbf:=bT0 HBif hbb
  have HXLf:Hid (wif.heap.size<wbf.heap.size):=hI0 (by rw [hwbf];simp)
  have HXf:Hid (wbf.heap[wif.heap.size]? =some (.cells #[.slice gA gl.length gc,.string gt] 278 (0,0))):=hI0 (by rw [hwbf];exact heap_alloc_new _ _)
  have hRbf:=hRi.below hbb
  clear hbb hRi
  obtain ⟨bL1,hbL1⟩:=eN0 (Lkf++(encI gl.length++gl.flatMap encI))
  obtain ⟨bL2,hbL2⟩:=eN0 (bL1++(encI gt.size++gt.data.toList))
  have bE:bL2=Lkf++encFor ⟨gA,gc,gl,gt⟩:=by rw [hbL2,hbL1];simp only [encFor,List.append_assoc]
  have bn2:bL2.length≤100000000000:=by rw [bE];exact hM
  have bn1:=rL0 hbL2 bn2
  have bn0:=rL0 hbL1 bn1
  have bE:=hI0 bE
  have bn0:=hI0 bn0
  have bn1:=hI0 bn1
  have bn2:=hI0 bn2
  have bK1:∀v W,RdB W (ltw W) v Lkf→Bl W0 W→Calls prog 157 #[v,.slice gA gl.length gc] W (NewB W bL1):=fun v W h hW=>by
   rw [hbL1]
   exact refPutInts_any v Lkf gA gc gl W h (HGI.out.below hW) HGB.out.2 (by have q:=bn1.out;rw [hbL1] at q;exact q)
  have bK2:∀v W,RdB W (ltw W) v bL1→Bl W0 W→Calls prog 116 #[v,.string gt] W (NewB W bL2):=fun v W h hW=>by
   rw [hbL2]
   exact refPutText_any v bL1 gt W h (by have q1:=bn1.out;have q2:gt.size≤300:=HGB.out.1;omega)
  clear hbL1 hbL2
  clear hM
  go_wp2_with fail
  rw [←hwbf]
  clear hwbf
  refine rB0 wbf (fun zh=>?_)
  refine hT 0 45 ?_
  refine hT 1 46 ?_
  refine hU 2 47 (v:=?_) zh ?_ ?_
  rotate_left
  ·intro w' hSw;(try dsimp only at hSw);have q0:w'.cell? ⟨wif.heap.size,0,none⟩=some (.slice gA gl.length gc):=cW0 w' _ 0 _ _ _ ((hSw.block _ HXLf.out).trans HXf.out);go_simp<;>with_reducible rfl
  refine hT 4 49 ?_
  refine hU 5 50 (v:=?_) zh ?_ ?_
  rotate_left
  ·intro w' hSw;(try dsimp only at hSw);have q1:w'.cell? ⟨wif.heap.size,1,none⟩=some (.string gt):=cW0 w' _ 1 _ _ _ ((hSw.block _ HXLf.out).trans HXf.out);go_simp<;>with_reducible rfl
  refine hC 3 48 ?_
  (with_reducible refine (bK1 _ _ (hRbf.below (Below.refl _ _).drew) (HBbf.out.trans ((Below.refl wbf.heap.size wbf).drew.mono HBbf.out.size))).mono ?_)
  rintro _ z1 ⟨vz1,rfl,hOz1,hbz1'⟩
  have hbz1:Bl wbf z1:=Below.undrew hbz1'
  have hRz1:=hOz1.rd
  refine ⟨_,rfl,keepAnd hbz1 ?_⟩
  clear zh
  intro zh
  simp only [aP]
  refine hC 6 51 ?_
  (with_reducible refine (bK2 _ _ hRz1 (bU0 HBbf hbz1)).mono ?_)
  rintro _ z2 ⟨vz2,rfl,hOz2,hbz2'⟩
  have hbz2:Bl wbf z2:=hbz1.trans (hbz2'.mono hbz1.size)
  have hRz2:=hOz2.rd
  refine ⟨_,rfl,keepAnd hbz2 ?_⟩
  clear zh
  intro zh
  simp only [aP]
  refine hT 7 0 ?_
  refine rD0 ?_
  clear zh
  have HAz:Hid (AtB W0 z2 vz2 bL2):=hI0 (AtB.next (bU0 HBbf hbz1) hOz2 hbz2')
  clear hRz1 hbz1 hbz1' hOz1 hRz2 hbz2 hbz2' hOz2 bK1 bK2
  have HAnf:=hI0 (HAz.out.cast bE.out)
  clear hRbf HAz
  go_wp2_with fail
  go_roundw
  case rel=>exact ⟨kf+1,by go_num,by omega,hI0 (HAnf.out.cast HSf.out.symm)⟩
  case measure=>simp [intOf];omega
 have hltZ:(kc:Int)<(cols.length:Int):=by omega
 have hBi:=HAic.out.bel
 obtain ⟨bc,offc,rfl,hF,hcl⟩:=RdE.at_ (K:=3) (enc:=RCol.enc) (fun _=>rfl) (by omega) (HVC.out.keep (Keeps.below hBi)) hltc
 have hcx:=hcl kc hltc
 have hmem:=List.getElem_mem hltc
 have hsn:=flat_snoc encCol hltc
 have hle:=flat_le encCol hltc
 obtain ⟨xc,hx⟩:=eN0 (cols[kc])
 rw [←hx] at hcx hmem hsn hle
 obtain ⟨Lkc,hLk⟩:=eN0 (sL2++(cols.take kc).flatMap encCol)
 have hM:(Lkc++encCol xc).length≤100000000000:=by
  have q:=sn3.out
  rw [hsL3.out] at q
  rw [hLk]
  simp only [List.length_append] at q ⊢
  omega
 have hS:sL2++(cols.take (kc+1)).flatMap encCol=Lkc++encCol xc:=by rw [hsn,←List.append_assoc,←hLk]
 have HBic:=hI0 hBi
 have hRi:=HAic.out.rd
 rw [←hLk] at hRi
 clear hcl hx hF hsn hle hBi hLk HAic
 have HCB:=hI0 (HCO.out _ hmem)
 obtain ⟨cn,ck,cz⟩:=xc
 have HSc:Hid (sL2++(cols.take (kc+1)).flatMap encCol=Lkc++encCol ⟨cn,ck,cz⟩):=hI0 hS
 have hM:(Lkc++encCol ⟨cn,ck,cz⟩).length≤100000000000:=hM
 obtain ⟨gc0,gc1,gc2⟩:=cK3 hcx (show _=[.string cn,.int .i64 ck,.bool cz] from rfl)
 clear hcx hS hmem
 obtain ⟨wbc,hwbc⟩:=eN0 (wic.alloc (.cells #[.string cn,.int .i64 ck,.bool cz] 77))
 have hbb:=bN0 hwbc
 have HBbc:=bT0 HBic hbb
 have HXLc:Hid (wic.heap.size<wbc.heap.size):=hI0 (by rw [hwbc];simp)
 have HXc:Hid (wbc.heap[wic.heap.size]? =some (.cells #[.string cn,.int .i64 ck,.bool cz] 77 (0,0))):=hI0 (by rw [hwbc];exact heap_alloc_new _ _)
 have hRbc:=hRi.below hbb
 clear hbb hRi
 have KC:Calls prog 189 #[_,.agg #[.string cn,.int .i64 ck,.bool cz]] wbc (NewB wbc (Lkc++encCol ⟨cn,ck,cz⟩)):=refPutColumn_any _ Lkc cn ck cz wbc hRbc HCB.out.1 HCB.out.2 hM
 go_wp2_with fail
 rw [←hwbc]
 (with_reducible refine KC.mono ?_)
 rintro _ y7 ⟨vy7,rfl,hO,hb⟩
 have HAnc:Hid (AtB W0 y7 vy7 (Lkc++encCol ⟨cn,ck,cz⟩)):=hI0 (AtB.next HBbc.out hO hb)
 clear KC hO hb hM
 go_wp2_with fail
 go_roundw
 case rel=>exact ⟨kc+1,by go_num,by omega,hI0 (HAnc.out.cast HSc.out.symm)⟩
 case measure=>simp [intOf];omega
theorem ent_ok0 {x:REn} (h:x.ok=true) (hk:x.change.kind=0):x.create.ok=true:=by
 unfold REn.ok at h
 rw [Bool.and_eq_true,Bool.and_eq_true,if_pos hk,Bool.and_eq_true,Bool.and_eq_true] at h
 exact h.2.2.2.1
theorem refPutEntries_any (v:Value) (l:List UInt8) (A:Option Addr) (c:Nat) (xs:List REn) (w:World) (hu:RdB w (ltw w) v l) (hx:RdE 16 REn.enc w (ltw w) (.slice A xs.length c) xs) (he:∀x∈xs,x.ok=true∧x.create.is w (ltw w)) (hl:(l++(encI xs.length++xs.flatMap encEnt)).length≤100000000000):
  Calls prog 114 #[v,.slice A xs.length c] w (NewB w (l++(encI xs.length++xs.flatMap encEnt))):=by
 obtain ⟨hc1,hc2⟩:=RdE.bd hx
 have HV:=hI0 hx
 have HENT:Hid (∀x∈xs,x.ok=true∧x.create.is w (ltw w)∧entW w w.heap.size x):=hI0 (fun x hx=>⟨(he x hx).1,(he x hx).2,ent_W (he x hx).1 (he x hx).2⟩)
 obtain ⟨sL1,hsL1⟩:=eN0 (l++encI xs.length)
 obtain ⟨sL2,hsL2⟩:=eN0 (sL1++xs.flatMap encEnt)
 have sE:sL2=l++(encI xs.length++xs.flatMap encEnt):=by rw [hsL2,hsL1];simp only [List.append_assoc]
 have sn2:sL2.length≤100000000000:=by rw [sE];exact hl
 have sn1:=rL0 hsL2 sn2
 have sn0:=rL0 hsL1 sn1
 have sE:=hI0 sE
 have sn0:=hI0 sn0
 have sn1:=hI0 sn1
 have sn2:=hI0 sn2
 have sK1:∀v W,RdB W (ltw W) v l→Bl w W→Calls prog 113 #[v,.int .i64 (xs.length:Int)] W (NewB W sL1):=fun v W h hW=>by
  rw [hsL1]
  exact refPutInt_any v l xs.length W (by omega) (by omega) h (by have:=sn0.out;omega)
 have hsL2:=hI0 hsL2
 clear hsL1
 have hR0:=hu
 clear hx he hl hu
 go_in
 have KC:=sK1 _ _ hR0 (Below.refl _ _)
 go_wp2_with fail
 (with_reducible refine KC.mono ?_)
 rintro _ y1 ⟨vy1,rfl,hO,hb⟩
 have HA1:Hid (AtB w y1 vy1 sL1):=hI0 (AtB.next (Below.refl _ _) hO hb)
 clear KC hO hb sK1
 clear hR0
 go_wp2_with fail
 go_loopw [0,13] (fun b i wr=>∃k:Nat,i=.int .i64 (k:Int)∧k≤xs.length∧Hid (AtB w wr b (sL1++(xs.take k).flatMap encEnt))) (fun _ i _=>xs.length-(intOf i).toNat)
 case atStart=>exact ⟨0,rfl,Nat.zero_le _,hI0 (HA1.out.cast zi17)⟩
 clear HA1
 obtain ⟨ki,rfl,hki,HAii⟩:=hrel
 obtain ⟨wii,rfl⟩:=eN0 wr
 by_cases hlti:ki<xs.length
 case neg=>
  have hltZ:¬(ki:Int)<(xs.length:Int):=by omega
  have HFi:=hI0 (HAii.out.cast (show sL1++(xs.take ki).flatMap encEnt=sL2 by rw [List.take_of_length_le (by omega),hsL2.out]))
  clear HAii
  go_wp2_with fail
  go_ret
  exact HFi.out.done (Below.refl _ _) sE.out
 have hltZ:(ki:Int)<(xs.length:Int):=by omega
 have hBi:=HAii.out.bel
 obtain ⟨bi,offi,rfl,hF,hcl⟩:=RdE.at_ (K:=16) (enc:=REn.enc) (fun _=>rfl) (by omega) (HV.out.keep (Keeps.below hBi)) hlti
 have hcx:=hcl ki hlti
 have hmem:=List.getElem_mem hlti
 have hsn:=flat_snoc encEnt hlti
 have hle:=flat_le encEnt hlti
 obtain ⟨xi,hx⟩:=eN0 (xs[ki])
 rw [←hx] at hcx hmem hsn hle
 obtain ⟨Lki,hLk⟩:=eN0 (sL1++(xs.take ki).flatMap encEnt)
 have hM:(Lki++encEnt xi).length≤100000000000:=by
  have q:=sn2.out
  rw [hsL2.out] at q
  rw [hLk]
  simp only [List.length_append] at q ⊢
  omega
 have hS:sL1++(xs.take (ki+1)).flatMap encEnt=Lki++encEnt xi:=by rw [hsn,←List.append_assoc,←hLk]
 have HBii:=hI0 hBi
 have hRi:=HAii.out.rd
 rw [←hLk] at hRi
 clear hcl hx hF hsn hle hBi hLk HAii
 have HOK:=hI0 (HENT.out _ hmem).1
 have HTI:=hI0 (HENT.out _ hmem).2.1
 have HEW:=hI0 (HENT.out _ hmem).2.2
 obtain ⟨tm,tb,⟨nm,cA,cC,cols,kA,kC,key,fA,fC,fors,hA,hC2,chks⟩,⟨x1,x2,x3,x4,x5,x6,⟨x7,x8,x9⟩⟩⟩:=xi
 have HSi:Hid (sL1++(xs.take (ki+1)).flatMap encEnt=Lki++encEnt ⟨tm,tb,⟨nm,cA,cC,cols,kA,kC,key,fA,fC,fors,hA,hC2,chks⟩,⟨x1,x2,x3,x4,x5,x6,⟨x7,x8,x9⟩⟩⟩):=hI0 hS
 have hM:(Lki++encEnt ⟨tm,tb,⟨nm,cA,cC,cols,kA,kC,key,fA,fC,fors,hA,hC2,chks⟩,⟨x1,x2,x3,x4,x5,x6,⟨x7,x8,x9⟩⟩⟩).length≤100000000000:=hM
 obtain ⟨gi0,gi1,gi2,gi3,gi4,gi5,gi6,gi7,gi8,gi9,gi10,gi11,gi12,gi13,gi14,gi15⟩:=cK16 hcx (show _=[.int .i64 tm,.string tb,.string nm,.slice cA cols.length cC,.slice kA key.length kC,.slice fA fors.length fC,.slice hA chks.length hC2,.int .i64 x1,.string x2,.string x3,.string x4,.int .i64 x5,.bool x6,.int .i64 x7,.int .i64 x8,.string x9] from rfl)
 clear hcx hS hmem
 obtain ⟨wbi,hwbi⟩:=eN0 (wii.alloc (.cells #[.int .i64 tm,.string tb,.string nm,.slice cA cols.length cC,.slice kA key.length kC,.slice fA fors.length fC,.slice hA chks.length hC2,.int .i64 x1,.string x2,.string x3,.string x4,.int .i64 x5,.bool x6,.int .i64 x7,.int .i64 x8,.string x9] 83))
 have hbb:=bN0 hwbi
 have HBbi:=bT0 HBii hbb
 have HXLi:Hid (wii.heap.size<wbi.heap.size):=hI0 (by rw [hwbi];simp)
 have HXi:Hid (wbi.heap[wii.heap.size]? =some (.cells #[.int .i64 tm,.string tb,.string nm,.slice cA cols.length cC,.slice kA key.length kC,.slice fA fors.length fC,.slice hA chks.length hC2,.int .i64 x1,.string x2,.string x3,.string x4,.int .i64 x5,.bool x6,.int .i64 x7,.int .i64 x8,.string x9] 83 (0,0))):=hI0 (by rw [hwbi];exact heap_alloc_new _ _)
 have hRbi:=hRi.below hbb
 clear hbb hRi
 by_cases hk:x1=0
 case pos=>
  have hE:encEnt ⟨tm,tb,⟨nm,cA,cC,cols,kA,kC,key,fA,fC,fors,hA,hC2,chks⟩,⟨x1,x2,x3,x4,x5,x6,⟨x7,x8,x9⟩⟩⟩=encEnt0 ⟨tm,tb,⟨nm,cA,cC,cols,kA,kC,key,fA,fC,fors,hA,hC2,chks⟩,⟨x1,x2,x3,x4,x5,x6,⟨x7,x8,x9⟩⟩⟩:=if_pos hk
  have HTO:Hid (RTab.ok ⟨nm,cA,cC,cols,kA,kC,key,fA,fC,fors,hA,hC2,chks⟩=true):=hI0 (ent_ok0 HOK.out hk)
  subst hk
  clear HOK
  have hM2:(Lki++encEnt0 ⟨tm,tb,⟨nm,cA,cC,cols,kA,kC,key,fA,fC,fors,hA,hC2,chks⟩,⟨0,x2,x3,x4,x5,x6,⟨x7,x8,x9⟩⟩⟩).length≤100000000000:=by rw [←hE];exact hM
  have HS2:Hid (sL1++(xs.take (ki+1)).flatMap encEnt=Lki++encEnt0 ⟨tm,tb,⟨nm,cA,cC,cols,kA,kC,key,fA,fC,fors,hA,hC2,chks⟩,⟨0,x2,x3,x4,x5,x6,⟨x7,x8,x9⟩⟩⟩):=hI0 (by rw [←hE];exact HSi.out)
  obtain ⟨bL1,hbL1⟩:=eN0 (Lki++encI tm)
  obtain ⟨bL2,hbL2⟩:=eN0 (bL1++(encI tb.size++tb.data.toList))
  obtain ⟨bL3,hbL3⟩:=eN0 (bL2++encI 0)
  obtain ⟨bL4,hbL4⟩:=eN0 (bL3++encTab ⟨nm,cA,cC,cols,kA,kC,key,fA,fC,fors,hA,hC2,chks⟩)
  have bE:bL4=Lki++encEnt0 ⟨tm,tb,⟨nm,cA,cC,cols,kA,kC,key,fA,fC,fors,hA,hC2,chks⟩,⟨0,x2,x3,x4,x5,x6,⟨x7,x8,x9⟩⟩⟩:=by rw [hbL4,hbL3,hbL2,hbL1];simp only [encEnt0,List.append_assoc]
  have bn4:bL4.length≤100000000000:=by rw [bE];exact hM2
  have bn3:=rL0 hbL4 bn4
  have bn2:=rL0 hbL3 bn3
  have bn1:=rL0 hbL2 bn2
  have bn0:=rL0 hbL1 bn1
  have bE:=hI0 bE
  have bn0:=hI0 bn0
  have bn1:=hI0 bn1
  have bn2:=hI0 bn2
  have bn3:=hI0 bn3
  have bn4:=hI0 bn4
  have bK1:∀v W,RdB W (ltw W) v Lki→Bl w W→Calls prog 113 #[v,.int .i64 tm] W (NewB W bL1):=fun v W h hW=>by
   rw [hbL1]
   exact refPutInt_any v Lki tm W HEW.out.tm.1 HEW.out.tm.2 h (by have:=bn0.out;omega)
  have bK2:∀v W,RdB W (ltw W) v bL1→Bl w W→Calls prog 116 #[v,.string tb] W (NewB W bL2):=fun v W h hW=>by
   rw [hbL2]
   exact refPutText_any v bL1 tb W h (by have q1:=bn1.out;have q2:tb.size≤300:=HEW.out.tb;omega)
  have bK3:∀v W,RdB W (ltw W) v bL2→Bl w W→Calls prog 113 #[v,.int .i64 0] W (NewB W bL3):=fun v W h hW=>by
   rw [hbL3]
   exact refPutInt_any v bL2 0 W (by omega) (by omega) h (by have:=bn2.out;omega)
  have bK4:∀v W,RdB W (ltw W) v bL3→Bl w W→Calls prog 187 #[v,.agg #[.string nm,.slice cA cols.length cC,.slice kA key.length kC,.slice fA fors.length fC,.slice hA chks.length hC2]] W (NewB W bL4):=fun v W h hW=>by
   rw [hbL4]
   exact refPutTable_any v bL3 ⟨nm,cA,cC,cols,kA,kC,key,fA,fC,fors,hA,hC2,chks⟩ W h (HTI.out.below hW) HTO.out (by have q:=bn4.out;rw [hbL4] at q;exact q)
  clear hbL1 hbL2 hbL3 hbL4
  clear hM hM2 hE
  go_wp2_with fail
  rw [←hwbi]
  clear hwbi
  refine rB0 wbi (fun zh=>?_)
  refine hT 0 17 ?_
  refine hT 1 18 ?_
  refine hU 2 19 (v:=?_) zh ?_ ?_
  rotate_left
  ·exact zq88
  refine hT 4 21 ?_
  refine hU 5 22 (v:=?_) zh ?_ ?_
  rotate_left
  ·exact zq90
  refine hT 7 24 ?_
  refine hT 8 25 ?_
  refine hU 9 26 (v:=?_) zh ?_ ?_
  rotate_left
  ·intro w' hSw;(try dsimp only at hSw);have q7:w'.cell? ⟨wii.heap.size,7,none⟩=some (.int .i64 0):=cW0 w' _ 7 _ _ _ ((hSw.block _ HXLi.out).trans HXi.out);go_simp<;>with_reducible rfl
  refine hC 3 20 ?_
  (with_reducible refine (bK1 _ _ (hRbi.below (Below.refl _ _).drew) (HBbi.out.trans ((Below.refl wbi.heap.size wbi).drew.mono HBbi.out.size))).mono ?_)
  rintro _ z1 ⟨vz1,rfl,hOz1,hbz1'⟩
  have hbz1:Bl wbi z1:=Below.undrew hbz1'
  have hRz1:=hOz1.rd
  refine ⟨_,rfl,keepAnd hbz1 ?_⟩
  clear zh
  intro zh
  simp only [aP]
  refine hC 6 23 ?_
  (with_reducible refine (bK2 _ _ hRz1 (bU0 HBbi hbz1)).mono ?_)
  rintro _ z2 ⟨vz2,rfl,hOz2,hbz2'⟩
  have hbz2:Bl wbi z2:=hbz1.trans (hbz2'.mono hbz1.size)
  have hRz2:=hOz2.rd
  refine ⟨_,rfl,keepAnd hbz2 ?_⟩
  clear zh
  intro zh
  simp only [aP]
  refine hC 10 27 ?_
  (with_reducible refine (bK3 _ _ hRz2 (bU0 HBbi hbz2)).mono ?_)
  rintro _ z3 ⟨vz3,rfl,hOz3,hbz3'⟩
  have hbz3:Bl wbi z3:=hbz2.trans (hbz3'.mono hbz2.size)
  have hRz3:=hOz3.rd
  refine ⟨_,rfl,keepAnd hbz3 ?_⟩
  clear zh
  intro zh
  simp only [aP]
  refine hT 11 0 ?_
  refine rD0 ?_
  clear zh
  have HWB:=hI0 hbz3
  have HAz:Hid (AtB w z3 vz3 bL3):=hI0 (AtB.next (bU0 HBbi hbz2) hOz3 hbz3')
  clear hRz1 hbz1 hbz1' hOz1 hRz2 hbz2 hbz2' hOz2 hRz3 hbz3 hbz3' hOz3 bK1 bK2 bK3
  clear hRbi
  have hT3:=(HWB.out.block _ HXLi.out).trans HXi.out
  have e2:=cW1 2 hT3 rfl
  have e3:=cW1 3 hT3 rfl
  have e4:=cW1 4 hT3 rfl
  have e5:=cW1 5 hT3 rfl
  have e6:=cW1 6 hT3 rfl
  have e7:=cW1 7 hT3 rfl
  clear hT3
  have KC:=bK4 _ _ HAz.out.rd HAz.out.bel
  go_wp2_with fail
  (with_reducible refine KC.mono ?_)
  rintro _ u8 ⟨vu8,rfl,hO,hb⟩
  have HA8:Hid (AtB w u8 vu8 bL4):=hI0 (AtB.next HAz.out.bel hO hb)
  clear KC hO hb bK4
  clear e2 e3 e4 e5 e6 e7
  have HAni:=hI0 (HA8.out.cast bE.out)
  go_wp2_with fail
  go_roundw
  case rel=>exact ⟨ki+1,by go_num,by omega,hI0 (HAni.out.cast HS2.out.symm)⟩
  case measure=>simp [intOf];omega
 have hE:encEnt ⟨tm,tb,⟨nm,cA,cC,cols,kA,kC,key,fA,fC,fors,hA,hC2,chks⟩,⟨x1,x2,x3,x4,x5,x6,⟨x7,x8,x9⟩⟩⟩=encEnt1 ⟨tm,tb,⟨nm,cA,cC,cols,kA,kC,key,fA,fC,fors,hA,hC2,chks⟩,⟨x1,x2,x3,x4,x5,x6,⟨x7,x8,x9⟩⟩⟩:=if_neg hk
 have HCH:Hid (chnW ⟨x1,x2,x3,x4,x5,x6,⟨x7,x8,x9⟩⟩):=hI0 (HEW.out.ch hk)
 clear HOK HTI
 have hM2:(Lki++encEnt1 ⟨tm,tb,⟨nm,cA,cC,cols,kA,kC,key,fA,fC,fors,hA,hC2,chks⟩,⟨x1,x2,x3,x4,x5,x6,⟨x7,x8,x9⟩⟩⟩).length≤100000000000:=by rw [←hE];exact hM
 have HS2:Hid (sL1++(xs.take (ki+1)).flatMap encEnt=Lki++encEnt1 ⟨tm,tb,⟨nm,cA,cC,cols,kA,kC,key,fA,fC,fors,hA,hC2,chks⟩,⟨x1,x2,x3,x4,x5,x6,⟨x7,x8,x9⟩⟩⟩):=hI0 (by rw [←hE];exact HSi.out)
 obtain ⟨bL1,hbL1⟩:=eN0 (Lki++encI tm)
 obtain ⟨bL2,hbL2⟩:=eN0 (bL1++(encI tb.size++tb.data.toList))
 obtain ⟨bL3,hbL3⟩:=eN0 (bL2++encI x1)
 obtain ⟨bL4,hbL4⟩:=eN0 (bL3++(encI x2.size++x2.data.toList))
 obtain ⟨bL5,hbL5⟩:=eN0 (bL4++(encI x3.size++x3.data.toList))
 obtain ⟨bL6,hbL6⟩:=eN0 (bL5++((encI x4.size++x4.data.toList)++(encI x5++flagE x6)))
 obtain ⟨bL7,hbL7⟩:=eN0 (bL6++encV ⟨x7,x8,x9⟩)
 have bE:bL7=Lki++encEnt1 ⟨tm,tb,⟨nm,cA,cC,cols,kA,kC,key,fA,fC,fors,hA,hC2,chks⟩,⟨x1,x2,x3,x4,x5,x6,⟨x7,x8,x9⟩⟩⟩:=by rw [hbL7,hbL6,hbL5,hbL4,hbL3,hbL2,hbL1];simp only [encEnt1,List.append_assoc]
 have bn7:bL7.length≤100000000000:=by rw [bE];exact hM2
 have bn6:=rL0 hbL7 bn7
 have bn5:=rL0 hbL6 bn6
 have bn4:=rL0 hbL5 bn5
 have bn3:=rL0 hbL4 bn4
 have bn2:=rL0 hbL3 bn3
 have bn1:=rL0 hbL2 bn2
 have bn0:=rL0 hbL1 bn1
 have bE:=hI0 bE
 have bn0:=hI0 bn0
 have bn1:=hI0 bn1
 have bn2:=hI0 bn2
 have bn3:=hI0 bn3
 have bn4:=hI0 bn4
 have bn5:=hI0 bn5
 have bn6:=hI0 bn6
 have bn7:=hI0 bn7
 have bK1:∀v W,RdB W (ltw W) v Lki→Bl w W→Calls prog 113 #[v,.int .i64 tm] W (NewB W bL1):=fun v W h hW=>by
  rw [hbL1]
  exact refPutInt_any v Lki tm W HEW.out.tm.1 HEW.out.tm.2 h (by have:=bn0.out;omega)
 have bK2:∀v W,RdB W (ltw W) v bL1→Bl w W→Calls prog 116 #[v,.string tb] W (NewB W bL2):=fun v W h hW=>by
  rw [hbL2]
  exact refPutText_any v bL1 tb W h (by have q1:=bn1.out;have q2:tb.size≤300:=HEW.out.tb;omega)
 have bK3:∀v W,RdB W (ltw W) v bL2→Bl w W→Calls prog 113 #[v,.int .i64 x1] W (NewB W bL3):=fun v W h hW=>by
  rw [hbL3]
  exact refPutInt_any v bL2 x1 W HEW.out.kd.1 HEW.out.kd.2 h (by have:=bn2.out;omega)
 have bK4:∀v W,RdB W (ltw W) v bL3→Bl w W→Calls prog 116 #[v,.string x2] W (NewB W bL4):=fun v W h hW=>by
  rw [hbL4]
  exact refPutText_any v bL3 x2 W h (by have q1:=bn3.out;have q2:x2.size≤300:=HCH.out.name;omega)
 have bK5:∀v W,RdB W (ltw W) v bL4→Bl w W→Calls prog 116 #[v,.string x3] W (NewB W bL5):=fun v W h hW=>by
  rw [hbL5]
  exact refPutText_any v bL4 x3 W h (by have q1:=bn4.out;have q2:x3.size≤300:=HCH.out.to;omega)
 have bK6:∀v W,RdB W (ltw W) v bL5→Bl w W→Calls prog 189 #[v,.agg #[.string x4,.int .i64 x5,.bool x6]] W (NewB W bL6):=fun v W h hW=>by
  rw [hbL6]
  exact refPutColumn_any v bL5 x4 x5 x6 W h HCH.out.cname HCH.out.ckind (by have q:=bn6.out;rw [hbL6] at q;exact q)
 have bK7:∀v W,RdB W (ltw W) v bL6→Bl w W→Calls prog 188 #[v,.agg #[.int .i64 x7,.int .i64 x8,.string x9]] W (NewB W bL7):=fun v W h hW=>by
  rw [hbL7]
  exact refPutValue_any v bL6 ⟨x7,x8,x9⟩ W HCH.out.di.1 HCH.out.di.2 HCH.out.d3 h (by have q1:=bn6.out;have q2:x9.size≤300:=(Nat.le_trans HCH.out.dt (by omega));show bL6.length+x9.size≤_;omega)
 clear hbL1 hbL2 hbL3 hbL4 hbL5 hbL6 hbL7
 clear hM hM2 hE
 go_wp2_with fail
 rw [←hwbi]
 clear hwbi
 refine rB0 wbi (fun zh=>?_)
 refine hT 0 17 ?_
 refine hT 1 18 ?_
 refine hU 2 19 (v:=?_) zh ?_ ?_
 rotate_left
 ·exact zq88
 refine hT 4 21 ?_
 refine hU 5 22 (v:=?_) zh ?_ ?_
 rotate_left
 ·exact zq90
 refine hT 7 24 ?_
 refine hT 8 25 ?_
 refine hU 9 26 (v:=?_) zh ?_ ?_
 rotate_left
 ·intro w' hSw;(try dsimp only at hSw);have q7:w'.cell? ⟨wii.heap.size,7,none⟩=some (.int .i64 x1):=cW0 w' _ 7 _ _ _ ((hSw.block _ HXLi.out).trans HXi.out);go_simp<;>with_reducible rfl
 refine hC 3 20 ?_
 (with_reducible refine (bK1 _ _ (hRbi.below (Below.refl _ _).drew) (HBbi.out.trans ((Below.refl wbi.heap.size wbi).drew.mono HBbi.out.size))).mono ?_)
 rintro _ z1 ⟨vz1,rfl,hOz1,hbz1'⟩
 have hbz1:Bl wbi z1:=Below.undrew hbz1'
 have hRz1:=hOz1.rd
 refine ⟨_,rfl,keepAnd hbz1 ?_⟩
 clear zh
 intro zh
 simp only [aP]
 refine hC 6 23 ?_
 (with_reducible refine (bK2 _ _ hRz1 (bU0 HBbi hbz1)).mono ?_)
 rintro _ z2 ⟨vz2,rfl,hOz2,hbz2'⟩
 have hbz2:Bl wbi z2:=hbz1.trans (hbz2'.mono hbz1.size)
 have hRz2:=hOz2.rd
 refine ⟨_,rfl,keepAnd hbz2 ?_⟩
 clear zh
 intro zh
 simp only [aP]
 refine hC 10 27 ?_
 (with_reducible refine (bK3 _ _ hRz2 (bU0 HBbi hbz2)).mono ?_)
 rintro _ z3 ⟨vz3,rfl,hOz3,hbz3'⟩
 have hbz3:Bl wbi z3:=hbz2.trans (hbz3'.mono hbz2.size)
 have hRz3:=hOz3.rd
 refine ⟨_,rfl,keepAnd hbz3 ?_⟩
 clear zh
 intro zh
 simp only [aP]
 refine hT 11 0 ?_
 refine rD0 ?_
 clear zh
 have HWB:=hI0 hbz3
 have HAz:Hid (AtB w z3 vz3 bL3):=hI0 (AtB.next (bU0 HBbi hbz2) hOz3 hbz3')
 clear hRz1 hbz1 hbz1' hOz1 hRz2 hbz2 hbz2' hOz2 hRz3 hbz3 hbz3' hOz3 bK1 bK2 bK3
 clear hRbi
 have hT3:=(HWB.out.block _ HXLi.out).trans HXi.out
 have e7:=cW1 7 hT3 rfl
 clear hT3
 go_wp2_with fail
 clear e7
 have hR8:=HAz.out.rd
 have HX8:=hI0 ((HWB.out.block _ HXLi.out).trans HXi.out)
 have HXL8:Hid (wii.heap.size<z3.heap.size):=hI0 (Nat.lt_of_lt_of_le HXLi.out HWB.out.size)
 refine rB0 z3 (fun zh=>?_)
 refine hT 0 36 ?_
 refine hT 1 37 ?_
 refine hT 2 38 ?_
 refine hU 3 39 (v:=?_) zh ?_ ?_
 rotate_left
 ·intro w' hSw;(try dsimp only at hSw);have q8:w'.cell? ⟨wii.heap.size,8,none⟩=some (.string x2):=cW0 w' _ 8 _ _ _ ((hSw.block _ HXL8.out).trans HX8.out);go_simp<;>with_reducible rfl
 refine hT 5 41 ?_
 refine hT 6 42 ?_
 refine hU 7 43 (v:=?_) zh ?_ ?_
 rotate_left
 ·intro w' hSw;(try dsimp only at hSw);have q9:w'.cell? ⟨wii.heap.size,9,none⟩=some (.string x3):=cW0 w' _ 9 _ _ _ ((hSw.block _ HXL8.out).trans HX8.out);go_simp<;>with_reducible rfl
 refine hC 4 40 ?_
 (with_reducible refine (bK4 _ _ (hR8.below (Below.refl _ _).drew) (HAz.out.bel.trans ((Below.refl z3.heap.size z3).drew.mono HAz.out.bel.size))).mono ?_)
 rintro _ p1 ⟨vp1,rfl,hOp1,hbp1'⟩
 have hbp1:Bl z3 p1:=Below.undrew hbp1'
 have hRp1:=hOp1.rd
 refine ⟨_,rfl,keepAnd hbp1 ?_⟩
 clear zh
 intro zh
 simp only [aP]
 refine hC 8 44 ?_
 (with_reducible refine (bK5 _ _ hRp1 (HAz.out.bel.trans (hbp1.mono HAz.out.bel.size))).mono ?_)
 rintro _ p2 ⟨vp2,rfl,hOp2,hbp2'⟩
 have hbp2:Bl z3 p2:=hbp1.trans (hbp2'.mono hbp1.size)
 have hRp2:=hOp2.rd
 refine ⟨_,rfl,keepAnd hbp2 ?_⟩
 clear zh
 intro zh
 simp only [aP]
 refine hT 9 0 ?_
 refine rD0 ?_
 clear zh
 have HW8:=hI0 hbp2
 have HA8:Hid (AtB w p2 vp2 bL5):=hI0 (AtB.next (HAz.out.bel.trans (hbp1.mono HAz.out.bel.size)) hOp2 hbp2')
 clear hRp1 hbp1 hbp1' hOp1 hRp2 hbp2 hbp2' hOp2 bK4 bK5
 clear hR8
 go_wp2_with fail
 have hR9:=HA8.out.rd
 have HX9:=hI0 ((HW8.out.block _ HXL8.out).trans HX8.out)
 have HXL9:Hid (wii.heap.size<p2.heap.size):=hI0 (Nat.lt_of_lt_of_le HXL8.out HW8.out.size)
 refine rB0 p2 (fun zh=>?_)
 refine hT 0 45 ?_
 refine hT 1 46 ?_
 refine hT 2 47 ?_
 refine hU 3 48 (v:=?_) zh ?_ ?_
 rotate_left
 ·intro w' hSw;(try dsimp only at hSw);have q10:w'.cell? ⟨wii.heap.size,10,none⟩=some (.string x4):=cW0 w' _ 10 _ _ _ ((hSw.block _ HXL9.out).trans HX9.out);have q11:w'.cell? ⟨wii.heap.size,11,none⟩=some (.int .i64 x5):=cW0 w' _ 11 _ _ _ ((hSw.block _ HXL9.out).trans HX9.out);have q12:w'.cell? ⟨wii.heap.size,12,none⟩=some (.bool x6):=cW0 w' _ 12 _ _ _ ((hSw.block _ HXL9.out).trans HX9.out);go_simp<;>with_reducible rfl
 refine hT 5 50 ?_
 refine hT 6 51 ?_
 refine hU 7 52 (v:=?_) zh ?_ ?_
 rotate_left
 ·intro w' hSw;(try dsimp only at hSw);have q13:w'.cell? ⟨wii.heap.size,13,none⟩=some (.int .i64 x7):=cW0 w' _ 13 _ _ _ ((hSw.block _ HXL9.out).trans HX9.out);have q14:w'.cell? ⟨wii.heap.size,14,none⟩=some (.int .i64 x8):=cW0 w' _ 14 _ _ _ ((hSw.block _ HXL9.out).trans HX9.out);have q15:w'.cell? ⟨wii.heap.size,15,none⟩=some (.string x9):=cW0 w' _ 15 _ _ _ ((hSw.block _ HXL9.out).trans HX9.out);go_simp<;>with_reducible rfl
 refine hC 4 49 ?_
 (with_reducible refine (bK6 _ _ (hR9.below (Below.refl _ _).drew) (HA8.out.bel.trans ((Below.refl p2.heap.size p2).drew.mono HA8.out.bel.size))).mono ?_)
 rintro _ q1 ⟨vq1,rfl,hOq1,hbq1'⟩
 have hbq1:Bl p2 q1:=Below.undrew hbq1'
 have hRq1:=hOq1.rd
 refine ⟨_,rfl,keepAnd hbq1 ?_⟩
 clear zh
 intro zh
 simp only [aP]
 refine hC 8 53 ?_
 (with_reducible refine (bK7 _ _ hRq1 (HA8.out.bel.trans (hbq1.mono HA8.out.bel.size))).mono ?_)
 rintro _ q2 ⟨vq2,rfl,hOq2,hbq2'⟩
 have hbq2:Bl p2 q2:=hbq1.trans (hbq2'.mono hbq1.size)
 have hRq2:=hOq2.rd
 refine ⟨_,rfl,keepAnd hbq2 ?_⟩
 clear zh
 intro zh
 simp only [aP]
 refine hT 9 0 ?_
 refine rD0 ?_
 clear zh
 have HA9:Hid (AtB w q2 vq2 bL7):=hI0 (AtB.next (HA8.out.bel.trans (hbq1.mono HA8.out.bel.size)) hOq2 hbq2')
 clear hRq1 hbq1 hbq1' hOq1 hRq2 hbq2 hbq2' hOq2 bK6 bK7
 clear hR9
 have HAni:=hI0 (HA9.out.cast bE.out)
 go_wp2_with fail
 go_roundw
 case rel=>exact ⟨ki+1,by go_num,by omega,hI0 (HAni.out.cast HS2.out.symm)⟩
 case measure=>simp [intOf];omega
end Go.Proofs.YtbfdegkickjbpaaGreat
