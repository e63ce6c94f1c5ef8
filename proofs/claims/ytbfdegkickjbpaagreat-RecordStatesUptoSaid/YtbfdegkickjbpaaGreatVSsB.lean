/-
 SsB
-/
import Derived.Test.YtbfdegkickjbpaaGreatVRpB
import Derived.Test.YtbfdegkickjbpaaGreatVSt2
import Derived.Test.YtbfdegkickjbpaaGreatVRl1
import Derived.Test.YtbfdegkickjbpaaGreatVSsA
import Derived.Test.YtbfdegkickjbpaaGreatVSeg1
namespace Go.Proofs.YtbfdegkickjbpaaGreat
open Go.Proofs.Tryz
set_option maxRecDepth 99999
set_option maxHeartbeats 0
open Go.RowKit Go.Lib Go.IntWalk Go.Sort Go.Shelf
theorem zi0q {P:Prop} (h:P:=by have q:=HQ.out.2;(try dsimp only at q);omega):P:=h
theorem refPutRules0_any (v:Value) (l:List UInt8) (pA qA hA:Option Addr) (pC qC hC2:Nat) (pla:List Hld) (pol:List Pol) (hor:List Hor) (w:World) (hu:RdB w (ltw w) v l)
  (x1:RdE 6 Hld.enc w (ltw w) (.slice pA pla.length pC) pla) (x2:RdE 2 Pol.enc w (ltw w) (.slice qA pol.length qC) pol) (x3:RdE 2 Hor.enc w (ltw w) (.slice hA hor.length hC2) hor)
  (h1:∀x∈pla,(x.name.size≤300∧x.table.size≤300)∧((0≤x.vf∧x.vf<x.vt∧x.vt≤1099511627776)∧0≤x.sf∧x.sf<x.st∧x.st≤1099511627776)) (h2:∀x∈pol,x.table.size≤300∧(0≤x.keep∧x.keep≤1099511627776)) (h3:∀x∈hor,x.table.size≤300∧(0≤x.time∧x.time≤1099511627775)) (hl:(l++(encH pla++(encP pol++encZ hor))).length≤100000000000):
  Calls prog 117 #[v,.slice pA pla.length pC,.slice qA pol.length qC,.slice hA hor.length hC2,.slice none 0 0,.bool false] w (NewB w (l++(encH pla++(encP pol++encZ hor)))):=by
 obtain ⟨z1,z2⟩:=RdE.bd x1
 obtain ⟨z3,z4⟩:=RdE.bd x2
 obtain ⟨z5,z6⟩:=RdE.bd x3
 have HVH:=hI0 x1
 have HVP:=hI0 x2
 have HVZ:=hI0 x3
 have HHB:=hI0 h1
 have HPB:=hI0 h2
 have HZB:=hI0 h3
 obtain ⟨sL1,hsL1⟩:=eN0 (l++encI pla.length)
 obtain ⟨sL2,hsL2⟩:=eN0 (sL1++pla.flatMap encHld)
 obtain ⟨sL3,hsL3⟩:=eN0 (sL2++encI pol.length)
 obtain ⟨sL4,hsL4⟩:=eN0 (sL3++pol.flatMap encPol)
 obtain ⟨sL5,hsL5⟩:=eN0 (sL4++encI hor.length)
 obtain ⟨sL6,hsL6⟩:=eN0 (sL5++hor.flatMap encHor)
 have sE:sL6=l++(encH pla++(encP pol++encZ hor)):=by rw [hsL6,hsL5,hsL4,hsL3,hsL2,hsL1];simp only [encH,encP,encZ,List.append_assoc]
 have sn6:sL6.length≤100000000000:=by rw [sE];exact hl
 have sn5:=rL0 hsL6 sn6
 have sn4:=rL0 hsL5 sn5
 have sn3:=rL0 hsL4 sn4
 have sn2:=rL0 hsL3 sn3
 have sn1:=rL0 hsL2 sn2
 have sn0:=rL0 hsL1 sn1
 have sE:=hI0 sE
 have sn0:=hI0 sn0
 have sn1:=hI0 sn1
 have sn2:=hI0 sn2
 have sn3:=hI0 sn3
 have sn4:=hI0 sn4
 have sn5:=hI0 sn5
 have sn6:=hI0 sn6
 have sK1:∀v W,RdB W (ltw W) v l→Bl w W→Calls prog 113 #[v,.int .i64 (pla.length:Int)] W (NewB W sL1):=fun v W h hW=>by
  rw [hsL1]
  exact refPutInt_any v l pla.length W (by omega) (by omega) h (by have:=sn0.out;omega)
 have hsL2:=hI0 hsL2
 have sK3:∀v W,RdB W (ltw W) v sL2→Bl w W→Calls prog 113 #[v,.int .i64 (pol.length:Int)] W (NewB W sL3):=fun v W h hW=>by
  rw [hsL3]
  exact refPutInt_any v sL2 pol.length W (by omega) (by omega) h (by have:=sn2.out;omega)
 have hsL4:=hI0 hsL4
 have sK5:∀v W,RdB W (ltw W) v sL4→Bl w W→Calls prog 113 #[v,.int .i64 (hor.length:Int)] W (NewB W sL5):=fun v W h hW=>by
  rw [hsL5]
  exact refPutInt_any v sL4 hor.length W (by omega) (by omega) h (by have:=sn4.out;omega)
 have hsL6:=hI0 hsL6
 clear hsL1 hsL3 hsL5
 have hR0:=hu
 clear x1 x2 x3 h1 h2 h3 hl hu
 go_in
 have KC:=sK1 _ _ hR0 (Below.refl _ _)
 go_wp2_with fail
 (with_reducible refine KC.mono ?_)
 rintro _ y1 ⟨vy1,rfl,hO,hb⟩
 have HA1:Hid (AtB w y1 vy1 sL1):=hI0 (AtB.next (Below.refl _ _) hO hb)
 clear KC hO hb sK1
 clear hR0
 go_wp2_with fail
 go_loopw [0,27] (fun b i wr=>∃k:Nat,i=.int .i64 (k:Int)∧k≤pla.length∧Hid (AtB w wr b (sL1++(pla.take k).flatMap encHld))) (fun _ i _=>pla.length-(intOf i).toNat)
 case atStart=>exact ⟨0,rfl,Nat.zero_le _,hI0 (HA1.out.cast (by rw [List.take_zero,List.flatMap_nil,List.append_nil]))⟩
 clear HA1
 obtain ⟨kp,rfl,hkp,HAip⟩:=hrel
 obtain ⟨wip,rfl⟩:=eN0 wr
 by_cases hltp:kp<pla.length
 case neg=>
  have hltZ:¬(kp:Int)<(pla.length:Int):=by omega
  have HFp:=hI0 (HAip.out.cast (show sL1++(pla.take kp).flatMap encHld=sL2 by rw [List.take_of_length_le (by omega),hsL2.out]))
  clear HAip
  have KC:=sK3 _ _ HFp.out.rd HFp.out.bel
  go_wp2_with fail
  (with_reducible refine KC.mono ?_)
  rintro _ y5 ⟨vy5,rfl,hO,hb⟩
  have HA5:Hid (AtB w y5 vy5 sL3):=hI0 (AtB.next HFp.out.bel hO hb)
  clear KC hO hb sK3
  clear HFp
  go_wp2_with fail
  go_loopw [0,69] (fun b i wr=>∃k:Nat,i=.int .i64 (k:Int)∧k≤pol.length∧Hid (AtB w wr b (sL3++(pol.take k).flatMap encPol))) (fun _ i _=>pol.length-(intOf i).toNat)
  case atStart=>exact ⟨0,rfl,Nat.zero_le _,hI0 (HA5.out.cast (by rw [List.take_zero,List.flatMap_nil,List.append_nil]))⟩
  clear HA5
  obtain ⟨kq,rfl,hkq,HAiq⟩:=hrel
  obtain ⟨wiq,rfl⟩:=eN0 wr
  by_cases hltq:kq<pol.length
  case neg=>
   have hltZ:¬(kq:Int)<(pol.length:Int):=by omega
   have HFq:=hI0 (HAiq.out.cast (show sL3++(pol.take kq).flatMap encPol=sL4 by rw [List.take_of_length_le (by omega),hsL4.out]))
   clear HAiq
   have KC:=sK5 _ _ HFq.out.rd HFq.out.bel
   go_wp2_with fail
   (with_reducible refine KC.mono ?_)
   rintro _ y7 ⟨vy7,rfl,hO,hb⟩
   have HA7:Hid (AtB w y7 vy7 sL5):=hI0 (AtB.next HFq.out.bel hO hb)
   clear KC hO hb sK5
   clear HFq
   go_wp2_with fail
   go_loopw [0,87] (fun b i wr=>∃k:Nat,i=.int .i64 (k:Int)∧k≤hor.length∧Hid (AtB w wr b (sL5++(hor.take k).flatMap encHor))) (fun _ i _=>hor.length-(intOf i).toNat)
   case atStart=>exact ⟨0,rfl,Nat.zero_le _,hI0 (HA7.out.cast (by rw [List.take_zero,List.flatMap_nil,List.append_nil]))⟩
   clear HA7
   obtain ⟨kh,rfl,hkh,HAih⟩:=hrel
   obtain ⟨wih,rfl⟩:=eN0 wr
   by_cases hlth:kh<hor.length
   case neg=>
    have hltZ:¬(kh:Int)<(hor.length:Int):=by omega
    have HFh:=hI0 (HAih.out.cast (show sL5++(hor.take kh).flatMap encHor=sL6 by rw [List.take_of_length_le (by omega),hsL6.out]))
    clear HAih
    go_wp2_with fail
    go_ret
    exact HFh.out.done (Below.refl _ _) sE.out
   have hltZ:(kh:Int)<(hor.length:Int):=by omega
   have hBi:=HAih.out.bel
   obtain ⟨bh,offh,rfl,hF,hcl⟩:=RdE.at_ (K:=2) (enc:=Hor.enc) (fun _=>rfl) (by omega) (HVZ.out.keep (Keeps.below hBi)) hlth
   have hcx:=hcl kh hlth
   have hmem:=List.getElem_mem hlth
   have hsn:=flat_snoc encHor hlth
   have hle:=flat_le encHor hlth
   obtain ⟨xh,hx⟩:=eN0 (hor[kh])
   rw [←hx] at hcx hmem hsn hle
   obtain ⟨Lkh,hLk⟩:=eN0 (sL5++(hor.take kh).flatMap encHor)
   have hM:(Lkh++encHor xh).length≤100000000000:=by
    have q:=sn6.out
    rw [hsL6.out] at q
    rw [hLk]
    simp only [List.length_append] at q ⊢
    omega
   have hS:sL5++(hor.take (kh+1)).flatMap encHor=Lkh++encHor xh:=by rw [hsn,←List.append_assoc,←hLk]
   have HBih:=hI0 hBi
   have hRi:=HAih.out.rd
   rw [←hLk] at hRi
   clear hcl hx hF hsn hle hBi hLk HAih
   have HQ:=hI0 (HZB.out _ hmem)
   obtain ⟨ht,hz⟩:=xh
   have HSh:Hid (sL5++(hor.take (kh+1)).flatMap encHor=Lkh++encHor ⟨ht,hz⟩):=hI0 hS
   have hM:(Lkh++encHor ⟨ht,hz⟩).length≤100000000000:=hM
   obtain ⟨gh0,gh1⟩:=cK2 hcx (show _=[.string ht,.int .i64 hz] from rfl)
   clear hcx hS hmem
   obtain ⟨wbh,hwbh⟩:=eN0 (wih.alloc (.cells #[.string ht,.int .i64 hz] 122))
   have hbb:=bN0 hwbh
   have HBbh:=bT0 HBih hbb
   have HXLh:Hid (wih.heap.size<wbh.heap.size):=hI0 (by rw [hwbh];simp)
   have HXh:Hid (wbh.heap[wih.heap.size]? =some (.cells #[.string ht,.int .i64 hz] 122 (0,0))):=hI0 (by rw [hwbh];exact heap_alloc_new _ _)
   have hRbh:=hRi.below hbb
   clear hbb hRi
   obtain ⟨bL1,hbL1⟩:=eN0 (Lkh++(encI ht.size++ht.data.toList))
   obtain ⟨bL2,hbL2⟩:=eN0 (bL1++encI hz)
   have bE:bL2=Lkh++encHor ⟨ht,hz⟩:=by rw [hbL2,hbL1];simp only [encHor,List.append_assoc]
   have bn2:bL2.length≤100000000000:=by rw [bE];exact hM
   have bn1:=rL0 hbL2 bn2
   have bn0:=rL0 hbL1 bn1
   have bE:=hI0 bE
   have bn0:=hI0 bn0
   have bn1:=hI0 bn1
   have bn2:=hI0 bn2
   have bK1:∀v W,RdB W (ltw W) v Lkh→Bl w W→Calls prog 116 #[v,.string ht] W (NewB W bL1):=fun v W h hW=>by
    rw [hbL1]
    exact refPutText_any v Lkh ht W h (by have q1:=bn0.out;have q2:ht.size≤300:=HQ.out.1;omega)
   have bK2:∀v W,RdB W (ltw W) v bL1→Bl w W→Calls prog 113 #[v,.int .i64 hz] W (NewB W bL2):=fun v W h hW=>by
    rw [hbL2]
    exact refPutInt_any v bL1 hz W zi0q zi0q h (by have:=bn1.out;omega)
   clear hbL1 hbL2
   clear hM
   go_wp2_with fail
   rw [←hwbh]
   clear hwbh
   refine rB0 wbh (fun zh=>?_)
   refine hT 0 91 ?_
   refine hT 1 92 ?_
   refine hU 2 93 (v:=?_) zh ?_ ?_
   rotate_left
   ·intro w' hSw;(try dsimp only at hSw);have q0:=cW1 0 ((hSw.block _ HXLh.out).trans HXh.out) rfl;go_simp<;>with_reducible rfl
   refine hT 4 95 ?_
   refine hU 5 96 (v:=?_) zh ?_ ?_
   rotate_left
   ·intro w' hSw;(try dsimp only at hSw);have q1:=cW1 1 ((hSw.block _ HXLh.out).trans HXh.out) rfl;go_simp<;>with_reducible rfl
   refine hC 3 94 ?_
   (with_reducible refine (bK1 _ _ (hRbh.below (Below.refl _ _).drew) (HBbh.out.trans ((Below.refl wbh.heap.size wbh).drew.mono HBbh.out.size))).mono ?_)
   rintro _ z1 ⟨vz1,rfl,hOz1,hbz1'⟩
   have hbz1:Bl wbh z1:=Below.undrew hbz1'
   have hRz1:=hOz1.rd
   refine ⟨_,rfl,keepAnd hbz1 ?_⟩
   clear zh
   intro zh
   simp only [aP]
   refine hC 6 97 ?_
   (with_reducible refine (bK2 _ _ hRz1 (bU0 HBbh hbz1)).mono ?_)
   rintro _ z2 ⟨vz2,rfl,hOz2,hbz2'⟩
   have hbz2:Bl wbh z2:=hbz1.trans (hbz2'.mono hbz1.size)
   have hRz2:=hOz2.rd
   refine ⟨_,rfl,keepAnd hbz2 ?_⟩
   clear zh
   intro zh
   simp only [aP]
   refine hT 7 0 ?_
   refine rD0 ?_
   clear zh
   have HAz:Hid (AtB w z2 vz2 bL2):=hI0 (AtB.next (bU0 HBbh hbz1) hOz2 hbz2')
   clear hRz1 hbz1 hbz1' hOz1 hRz2 hbz2 hbz2' hOz2 bK1 bK2
   have HAnh:=hI0 (HAz.out.cast bE.out)
   clear hRbh HAz
   go_wp2_with fail
   go_roundw
   case rel=>exact ⟨kh+1,by go_num,by omega,hI0 (HAnh.out.cast HSh.out.symm)⟩
   case measure=>simp [intOf];omega
  have hltZ:(kq:Int)<(pol.length:Int):=by omega
  have hBi:=HAiq.out.bel
  obtain ⟨bq,offq,rfl,hF,hcl⟩:=RdE.at_ (K:=2) (enc:=Pol.enc) (fun _=>rfl) (by omega) (HVP.out.keep (Keeps.below hBi)) hltq
  have hcx:=hcl kq hltq
  have hmem:=List.getElem_mem hltq
  have hsn:=flat_snoc encPol hltq
  have hle:=flat_le encPol hltq
  obtain ⟨xq,hx⟩:=eN0 (pol[kq])
  rw [←hx] at hcx hmem hsn hle
  obtain ⟨Lkq,hLk⟩:=eN0 (sL3++(pol.take kq).flatMap encPol)
  have hM:(Lkq++encPol xq).length≤100000000000:=by
   have q:=sn4.out
   rw [hsL4.out] at q
   rw [hLk]
   simp only [List.length_append] at q ⊢
   omega
  have hS:sL3++(pol.take (kq+1)).flatMap encPol=Lkq++encPol xq:=by rw [hsn,←List.append_assoc,←hLk]
  have HBiq:=hI0 hBi
  have hRi:=HAiq.out.rd
  rw [←hLk] at hRi
  clear hcl hx hF hsn hle hBi hLk HAiq
  have HQ:=hI0 (HPB.out _ hmem)
  obtain ⟨pt,pk⟩:=xq
  have HSq:Hid (sL3++(pol.take (kq+1)).flatMap encPol=Lkq++encPol ⟨pt,pk⟩):=hI0 hS
  have hM:(Lkq++encPol ⟨pt,pk⟩).length≤100000000000:=hM
  obtain ⟨gq0,gq1⟩:=cK2 hcx (show _=[.string pt,.int .i64 pk] from rfl)
  clear hcx hS hmem
  obtain ⟨wbq,hwbq⟩:=eN0 (wiq.alloc (.cells #[.string pt,.int .i64 pk] 117))
  have hbb:=bN0 hwbq
  have HBbq:=bT0 HBiq hbb
  have HXLq:Hid (wiq.heap.size<wbq.heap.size):=hI0 (by rw [hwbq];simp)
  have HXq:Hid (wbq.heap[wiq.heap.size]? =some (.cells #[.string pt,.int .i64 pk] 117 (0,0))):=hI0 (by rw [hwbq];exact heap_alloc_new _ _)
  have hRbq:=hRi.below hbb
  clear hbb hRi
  obtain ⟨bL1,hbL1⟩:=eN0 (Lkq++(encI pt.size++pt.data.toList))
  obtain ⟨bL2,hbL2⟩:=eN0 (bL1++encI pk)
  have bE:bL2=Lkq++encPol ⟨pt,pk⟩:=by rw [hbL2,hbL1];simp only [encPol,List.append_assoc]
  have bn2:bL2.length≤100000000000:=by rw [bE];exact hM
  have bn1:=rL0 hbL2 bn2
  have bn0:=rL0 hbL1 bn1
  have bE:=hI0 bE
  have bn0:=hI0 bn0
  have bn1:=hI0 bn1
  have bn2:=hI0 bn2
  have bK1:∀v W,RdB W (ltw W) v Lkq→Bl w W→Calls prog 116 #[v,.string pt] W (NewB W bL1):=fun v W h hW=>by
   rw [hbL1]
   exact refPutText_any v Lkq pt W h (by have q1:=bn0.out;have q2:pt.size≤300:=HQ.out.1;omega)
  have bK2:∀v W,RdB W (ltw W) v bL1→Bl w W→Calls prog 113 #[v,.int .i64 pk] W (NewB W bL2):=fun v W h hW=>by
   rw [hbL2]
   exact refPutInt_any v bL1 pk W zi0q zi0q h (by have:=bn1.out;omega)
  clear hbL1 hbL2
  clear hM
  go_wp2_with fail
  rw [←hwbq]
  clear hwbq
  refine rB0 wbq (fun zh=>?_)
  refine hT 0 73 ?_
  refine hT 1 74 ?_
  refine hU 2 75 (v:=?_) zh ?_ ?_
  rotate_left
  ·intro w' hSw;(try dsimp only at hSw);have q0:=cW1 0 ((hSw.block _ HXLq.out).trans HXq.out) rfl;go_simp<;>with_reducible rfl
  refine hT 4 77 ?_
  refine hU 5 78 (v:=?_) zh ?_ ?_
  rotate_left
  ·intro w' hSw;(try dsimp only at hSw);have q1:=cW1 1 ((hSw.block _ HXLq.out).trans HXq.out) rfl;go_simp<;>with_reducible rfl
  refine hC 3 76 ?_
  (with_reducible refine (bK1 _ _ (hRbq.below (Below.refl _ _).drew) (HBbq.out.trans ((Below.refl wbq.heap.size wbq).drew.mono HBbq.out.size))).mono ?_)
  rintro _ z1 ⟨vz1,rfl,hOz1,hbz1'⟩
  have hbz1:Bl wbq z1:=Below.undrew hbz1'
  have hRz1:=hOz1.rd
  refine ⟨_,rfl,keepAnd hbz1 ?_⟩
  clear zh
  intro zh
  simp only [aP]
  refine hC 6 79 ?_
  (with_reducible refine (bK2 _ _ hRz1 (bU0 HBbq hbz1)).mono ?_)
  rintro _ z2 ⟨vz2,rfl,hOz2,hbz2'⟩
  have hbz2:Bl wbq z2:=hbz1.trans (hbz2'.mono hbz1.size)
  have hRz2:=hOz2.rd
  refine ⟨_,rfl,keepAnd hbz2 ?_⟩
  clear zh
  intro zh
  simp only [aP]
  refine hT 7 0 ?_
  refine rD0 ?_
  clear zh
  have HAz:Hid (AtB w z2 vz2 bL2):=hI0 (AtB.next (bU0 HBbq hbz1) hOz2 hbz2')
  clear hRz1 hbz1 hbz1' hOz1 hRz2 hbz2 hbz2' hOz2 bK1 bK2
  have HAnq:=hI0 (HAz.out.cast bE.out)
  clear hRbq HAz
  go_wp2_with fail
  go_roundw
  case rel=>exact ⟨kq+1,by go_num,by omega,hI0 (HAnq.out.cast HSq.out.symm)⟩
  case measure=>simp [intOf];omega
 have hltZ:(kp:Int)<(pla.length:Int):=by omega
 have hBi:=HAip.out.bel
 obtain ⟨bp,offp,rfl,hF,hcl⟩:=RdE.at_ (K:=6) (enc:=Hld.enc) (fun _=>rfl) (by omega) (HVH.out.keep (Keeps.below hBi)) hltp
 have hcx:=hcl kp hltp
 have hmem:=List.getElem_mem hltp
 have hsn:=flat_snoc encHld hltp
 have hle:=flat_le encHld hltp
 obtain ⟨xp,hx⟩:=eN0 (pla[kp])
 rw [←hx] at hcx hmem hsn hle
 obtain ⟨Lkp,hLk⟩:=eN0 (sL1++(pla.take kp).flatMap encHld)
 have hM:(Lkp++encHld xp).length≤100000000000:=by
  have q:=sn2.out
  rw [hsL2.out] at q
  rw [hLk]
  simp only [List.length_append] at q ⊢
  omega
 have hS:sL1++(pla.take (kp+1)).flatMap encHld=Lkp++encHld xp:=by rw [hsn,←List.append_assoc,←hLk]
 have HBip:=hI0 hBi
 have hRi:=HAip.out.rd
 rw [←hLk] at hRi
 clear hcl hx hF hsn hle hBi hLk HAip
 have HQ:=hI0 (HHB.out _ hmem)
 obtain ⟨ln,lt,l1,l2,l3,l4⟩:=xp
 have HSp:Hid (sL1++(pla.take (kp+1)).flatMap encHld=Lkp++encHld ⟨ln,lt,l1,l2,l3,l4⟩):=hI0 hS
 have hM:(Lkp++encHld ⟨ln,lt,l1,l2,l3,l4⟩).length≤100000000000:=hM
 obtain ⟨gp0,gp1,gp2,gp3,gp4,gp5⟩:=cK6 hcx (show _=[.string ln,.string lt,.int .i64 l1,.int .i64 l2,.int .i64 l3,.int .i64 l4] from rfl)
 clear hcx hS hmem
 obtain ⟨wbp,hwbp⟩:=eN0 (wip.alloc (.cells #[.string ln,.string lt,.int .i64 l1,.int .i64 l2,.int .i64 l3,.int .i64 l4] 109))
 have hbb:=bN0 hwbp
 have HBbp:=bT0 HBip hbb
 have HXLp:Hid (wip.heap.size<wbp.heap.size):=hI0 (by rw [hwbp];simp)
 have HXp:Hid (wbp.heap[wip.heap.size]? =some (.cells #[.string ln,.string lt,.int .i64 l1,.int .i64 l2,.int .i64 l3,.int .i64 l4] 109 (0,0))):=hI0 (by rw [hwbp];exact heap_alloc_new _ _)
 have hRbp:=hRi.below hbb
 clear hbb hRi
 obtain ⟨bL1,hbL1⟩:=eN0 (Lkp++(encI ln.size++ln.data.toList))
 obtain ⟨bL2,hbL2⟩:=eN0 (bL1++(encI lt.size++lt.data.toList))
 obtain ⟨bL3,hbL3⟩:=eN0 (bL2++(encI l1++encI l2))
 obtain ⟨bL4,hbL4⟩:=eN0 (bL3++(encI l3++encI l4))
 have bE:bL4=Lkp++encHld ⟨ln,lt,l1,l2,l3,l4⟩:=by rw [hbL4,hbL3,hbL2,hbL1];simp only [encHld,List.append_assoc]
 have bn4:bL4.length≤100000000000:=by rw [bE];exact hM
 have bn3:=rL0 hbL4 bn4
 have bn2:=rL0 hbL3 bn3
 have bn1:=rL0 hbL2 bn2
 have bn0:=rL0 hbL1 bn1
 have bE:=hI0 bE
 have bn0:=hI0 bn0
 have bn1:=hI0 bn1
 have bn2:=hI0 bn2
 have bn3:=hI0 bn3
 have bn4:=hI0 bn4
 have bK1:∀v W,RdB W (ltw W) v Lkp→Bl w W→Calls prog 116 #[v,.string ln] W (NewB W bL1):=fun v W h hW=>by
  rw [hbL1]
  exact refPutText_any v Lkp ln W h (by have q1:=bn0.out;have q2:ln.size≤300:=HQ.out.1.1;omega)
 have bK2:∀v W,RdB W (ltw W) v bL1→Bl w W→Calls prog 116 #[v,.string lt] W (NewB W bL2):=fun v W h hW=>by
  rw [hbL2]
  exact refPutText_any v bL1 lt W h (by have q1:=bn1.out;have q2:lt.size≤300:=HQ.out.1.2;omega)
 have bK3:∀v W,RdB W (ltw W) v bL2→Bl w W→Calls prog 158 #[v,.agg #[.int .i64 l1,.int .i64 l2]] W (NewB W bL3):=fun v W h hW=>by
  rw [hbL3]
  exact refPutPeriod_any v bL2 l1 l2 W zi0q zi0q zi0q zi0q h (by have:=bn2.out;omega)
 have bK4:∀v W,RdB W (ltw W) v bL3→Bl w W→Calls prog 158 #[v,.agg #[.int .i64 l3,.int .i64 l4]] W (NewB W bL4):=fun v W h hW=>by
  rw [hbL4]
  exact refPutPeriod_any v bL3 l3 l4 W zi0q zi0q zi0q zi0q h (by have:=bn3.out;omega)
 clear hbL1 hbL2 hbL3 hbL4
 clear hM
 go_wp2_with fail
 rw [←hwbp]
 clear hwbp
 refine rB0 wbp (fun zh=>?_)
 refine hT 0 31 ?_
 refine hT 1 32 ?_
 refine hU 2 33 (v:=?_) zh ?_ ?_
 rotate_left
 ·intro w' hSw;(try dsimp only at hSw);have q0:=cW1 0 ((hSw.block _ HXLp.out).trans HXp.out) rfl;go_simp<;>with_reducible rfl
 refine hT 4 35 ?_
 refine hU 5 36 (v:=?_) zh ?_ ?_
 rotate_left
 ·intro w' hSw;(try dsimp only at hSw);have q1:=cW1 1 ((hSw.block _ HXLp.out).trans HXp.out) rfl;go_simp<;>with_reducible rfl
 refine hC 3 34 ?_
 (with_reducible refine (bK1 _ _ (hRbp.below (Below.refl _ _).drew) (HBbp.out.trans ((Below.refl wbp.heap.size wbp).drew.mono HBbp.out.size))).mono ?_)
 rintro _ z1 ⟨vz1,rfl,hOz1,hbz1'⟩
 have hbz1:Bl wbp z1:=Below.undrew hbz1'
 have hRz1:=hOz1.rd
 refine ⟨_,rfl,keepAnd hbz1 ?_⟩
 clear zh
 intro zh
 simp only [aP]
 refine hC 6 37 ?_
 (with_reducible refine (bK2 _ _ hRz1 (bU0 HBbp hbz1)).mono ?_)
 rintro _ z2 ⟨vz2,rfl,hOz2,hbz2'⟩
 have hbz2:Bl wbp z2:=hbz1.trans (hbz2'.mono hbz1.size)
 have hRz2:=hOz2.rd
 refine ⟨_,rfl,keepAnd hbz2 ?_⟩
 clear zh
 intro zh
 simp only [aP]
 refine hT 7 0 ?_
 refine rD0 ?_
 clear zh
 have HWB:=hI0 hbz2
 have HAz:Hid (AtB w z2 vz2 bL2):=hI0 (AtB.next (bU0 HBbp hbz1) hOz2 hbz2')
 clear hRz1 hbz1 hbz1' hOz1 hRz2 hbz2 hbz2' hOz2 bK1 bK2
 clear hRbp
 go_wp2_with fail
 have hR6:=HAz.out.rd
 have HX6:=hI0 ((HWB.out.block _ HXLp.out).trans HXp.out)
 have HXL6:Hid (wip.heap.size<z2.heap.size):=hI0 (Nat.lt_of_lt_of_le HXLp.out HWB.out.size)
 refine rB0 z2 (fun zh=>?_)
 refine hT 0 38 ?_
 refine hT 1 39 ?_
 refine hT 2 40 ?_
 refine hU 3 41 (v:=?_) zh ?_ ?_
 rotate_left
 ·intro w' hSw;(try dsimp only at hSw);have q2:=cW1 2 ((hSw.block _ HXL6.out).trans HX6.out) rfl;have q3:=cW1 3 ((hSw.block _ HXL6.out).trans HX6.out) rfl;go_simp<;>with_reducible rfl
 refine hT 5 43 ?_
 refine hT 6 44 ?_
 refine hU 7 45 (v:=?_) zh ?_ ?_
 rotate_left
 ·intro w' hSw;(try dsimp only at hSw);have q4:=cW1 4 ((hSw.block _ HXL6.out).trans HX6.out) rfl;have q5:=cW1 5 ((hSw.block _ HXL6.out).trans HX6.out) rfl;go_simp<;>with_reducible rfl
 refine hC 4 42 ?_
 (with_reducible refine (bK3 _ _ (hR6.below (Below.refl _ _).drew) (HAz.out.bel.trans ((Below.refl z2.heap.size z2).drew.mono HAz.out.bel.size))).mono ?_)
 rintro _ t1 ⟨vt1,rfl,hOt1,hbt1'⟩
 have hbt1:Bl z2 t1:=Below.undrew hbt1'
 have hRt1:=hOt1.rd
 refine ⟨_,rfl,keepAnd hbt1 ?_⟩
 clear zh
 intro zh
 simp only [aP]
 refine hC 8 46 ?_
 (with_reducible refine (bK4 _ _ hRt1 (HAz.out.bel.trans (hbt1.mono HAz.out.bel.size))).mono ?_)
 rintro _ t2 ⟨vt2,rfl,hOt2,hbt2'⟩
 have hbt2:Bl z2 t2:=hbt1.trans (hbt2'.mono hbt1.size)
 have hRt2:=hOt2.rd
 refine ⟨_,rfl,keepAnd hbt2 ?_⟩
 clear zh
 intro zh
 simp only [aP]
 refine hT 9 0 ?_
 refine rD0 ?_
 clear zh
 have HAt:Hid (AtB w t2 vt2 bL4):=hI0 (AtB.next (HAz.out.bel.trans (hbt1.mono HAz.out.bel.size)) hOt2 hbt2')
 clear hRt1 hbt1 hbt1' hOt1 hRt2 hbt2 hbt2' hOt2 bK3 bK4
 have HAnp:=hI0 (HAt.out.cast bE.out)
 clear hR6 HAt HAz
 go_wp2_with fail
 go_roundw
 case rel=>exact ⟨kp+1,by go_num,by omega,hI0 (HAnp.out.cast HSp.out.symm)⟩
 case measure=>simp [intOf];omega
theorem refEncodeState_any (c:RSt) (w:World) (hc:c.is w (ltw w)) (hl:c.lim w):Calls prog 25 #[.agg c.enc.toArray] w (EncSO c w):=by
 have KCa:∀W:World,Bl w W→Calls prog 112 #[.agg c.enc.toArray] W fun e w'=>e=.returned (.int .i64 (stateF c))∧Bl W w':=fun W h=>kstate_any c W (hc.below h) (hl.below h)
 have hbx:∀W:World,Bl w W→stateF c=0→c.is W (ltw W)∧stW W W.heap.size c∧∀x∈c.ents,x.ok=true:=fun W h h0=>⟨hc.below h,st_W h0 (hc.below h) hl,(st_ok h0).2.1⟩
 clear hc hl
 obtain ⟨C,hC⟩:=eN0 c
 have KCa:∀W:World,Bl w W→Calls prog 112 #[.agg c.enc.toArray] W fun e w'=>e=.returned (.int .i64 (stateF C))∧Bl W w':=by rw [hC];exact KCa
 have hbx:∀W:World,Bl w W→stateF C=0→c.is W (ltw W)∧stW W W.heap.size c∧∀x∈c.ents,x.ok=true:=by rw [hC];exact hbx
 have hE:C.enc=c.enc:=by rw [hC]
 have hS:encSt C=encSt c:=by rw [hC]
 rw [←hC]
 rw [hE]
 obtain ⟨stx,stm,swl,snx,seA,seC,sents,ssA,ssC,sstms,stA,stC,stabs,spA,spC,spla,sqA,sqC,spol,shA,shC,shor⟩:=c
 have KCa:∀W:World,Bl w W→Calls prog 112 #[.agg #[.int .i64 stx,.int .i64 stm,.int .i64 swl,.int .i64 snx,.slice seA sents.length seC,.slice ssA sstms.length ssC,.slice stA stabs.length stC,.slice spA spla.length spC,.slice sqA spol.length sqC,.slice shA shor.length shC]] W fun e w'=>e=.returned (.int .i64 (stateF C))∧Bl W w':=KCa
 show Calls prog 25 #[.agg #[.int .i64 stx,.int .i64 stm,.int .i64 swl,.int .i64 snx,.slice seA sents.length seC,.slice ssA sstms.length ssC,.slice stA stabs.length stC,.slice spA spla.length spC,.slice sqA spol.length sqC,.slice shA shor.length shC]] w (EncSO C w)
 have HHS:=hI0 hS
 clear hC hE hS
 obtain ⟨W0,hW0⟩:=eN0 (w.alloc (.cells #[.int .i64 stx,.int .i64 stm,.int .i64 swl,.int .i64 snx,.slice seA sents.length seC,.slice ssA sstms.length ssC,.slice stA stabs.length stC,.slice spA spla.length spC,.slice sqA spol.length sqC,.slice shA shor.length shC] 47))
 have hbW:=bN0 hW0
 have HBW:=hI0 hbW
 have HBL0:Hid (w.heap.size<W0.heap.size):=hI0 (by rw [hW0];simp)
 have HT0:Hid (W0.heap[w.heap.size]? =some (.cells #[.int .i64 stx,.int .i64 stm,.int .i64 swl,.int .i64 snx,.slice seA sents.length seC,.slice ssA sstms.length ssC,.slice stA stabs.length stC,.slice spA spla.length spC,.slice sqA spol.length sqC,.slice shA shor.length shC] 47 (0,0))):=hI0 (by rw [hW0];exact heap_alloc_new _ _)
 have hT:=HT0.out
 obtain ⟨c0,c1,c2,c3,c4,c5,c6,c7,c8,c9⟩:=cX10 hT
 clear hT hbW
 have KC:=KCa W0 HBW.out
 clear KCa
 obtain ⟨k,hk⟩:=eN0 (stateF C)
 rw [←hk] at KC
 have HKC:=hI0 hk
 clear hk
 go_in
 go_wp2_with fail
 rw [←hW0]
 clear hW0
 (with_reducible refine KC.mono ?_)
 rintro _ W1 ⟨rfl,hb1⟩
 have HB1:=bT0 HBW hb1
 have HT:=hI0 ((hb1.block _ HBL0.out).trans HT0.out)
 have HBL:Hid (w.heap.size<W1.heap.size):=hI0 (Nat.lt_of_lt_of_le HBL0.out hb1.size)
 clear KC c0 c1 c2 c3 c4 c5 c6 c7 c8 c9 hb1
 by_cases h0:k=0
 case neg=>
  clear hbx
  go_wp2_with fail
  go_ret2
  have h1:¬stateF C=0:=by rw [←HKC.out];exact h0
  exact ⟨.slice none 0 0,by rw [HKC.out]<;>rfl,by unfold outS;rw [if_neg h1];exact Rd.nil _ _ _,HB1.out,fun h=>absurd h h1⟩
 subst h0
 have HK0:Hid (stateF C=0):=hI0 HKC.out.symm
 obtain ⟨hi,hw,hok⟩:=hbx W1 HB1.out HK0.out
 clear hbx
 have hR0:RdB W1 (ltw W1) (.slice none 0 0) []:=RdB.nil _ _
 obtain ⟨z1,z2⟩:=hi.ents.bd
 obtain ⟨z3,z4⟩:=hi.stms.bd
 obtain ⟨z5,z6⟩:=hi.tabs.bd
 simp only at z1 z2 z3 z4 z5 z6
 have hl:(encSt ⟨stx,stm,swl,snx,seA,seC,sents,ssA,ssC,sstms,stA,stC,stabs,spA,spC,spla,sqA,sqC,spol,shA,shC,shor⟩).length≤100000000000:=by have:=hw.len;omega
 have HLE:Hid ((encSt C).length≤10000000000):=hI0 (by rw [HHS.out];exact hw.len)
 have HIN:Hid ((0≤stx∧stx≤1125899906842624)∧(0≤stm∧stm≤1099511627775)∧(0≤swl∧swl≤1099511627775)∧(1≤snx∧snx≤1125899906842624)):=hI0 ⟨hw.tx,hw.time,hw.wall,hw.next⟩
 have HVE:Hid (RdE 16 REn.enc W1 (ltw W1) (.slice seA sents.length seC) sents):=hI0 hi.ents
 have HEN:Hid (∀x∈sents,x.ok=true∧x.create.is W1 (ltw W1)):=hI0 (fun x hx=>⟨hok x hx,(hi.entI x hx).create⟩)
 have HVM:Hid (RdE 2 Stm.enc W1 (ltw W1) (.slice ssA sstms.length ssC) sstms):=hI0 hi.stms
 have HSM:Hid (∀x∈sstms,(0≤x.time∧x.time≤1099511627775)∧0≤x.wall∧x.wall≤x.time):=hI0 hw.stms
 have HVT:Hid (RdE 2 RTv.enc W1 (ltw W1) (.slice stA stabs.length stC) stabs):=hI0 hi.tabs
 have HTW:Hid (∀x∈stabs,tvW W1 W1.heap.size x):=hI0 hw.tabs
 have HVH:Hid (RdE 6 Hld.enc W1 (ltw W1) (.slice spA spla.length spC) spla):=hI0 hi.pla
 have HVP:Hid (RdE 2 Pol.enc W1 (ltw W1) (.slice sqA spol.length sqC) spol):=hI0 hi.pol
 have HVZ:Hid (RdE 2 Hor.enc W1 (ltw W1) (.slice shA shor.length shC) shor):=hI0 hi.hor
 have HHB:Hid (∀x∈spla,(x.name.size≤300∧x.table.size≤300)∧((0≤x.vf∧x.vf<x.vt∧x.vt≤1099511627776)∧0≤x.sf∧x.sf<x.st∧x.st≤1099511627776)):=hI0 (fun x hx=>by have:=hw.pla x hx;exact ⟨by omega,this.2⟩)
 have HPB:Hid (∀x∈spol,x.table.size≤300∧(0≤x.keep∧x.keep≤1099511627776)):=hI0 (fun x hx=>by have:=hw.pol x hx;omega)
 have HZB:Hid (∀x∈shor,x.table.size≤300∧(0≤x.time∧x.time≤1099511627775)):=hI0 (fun x hx=>by have:=hw.hor x hx;omega)
 obtain ⟨sL0,hsL0⟩:=eN0 ([]:List UInt8)
 obtain ⟨sL1,hsL1⟩:=eN0 (sL0++encI stx)
 obtain ⟨sL2,hsL2⟩:=eN0 (sL1++encI stm)
 obtain ⟨sL3,hsL3⟩:=eN0 (sL2++encI swl)
 obtain ⟨sL4,hsL4⟩:=eN0 (sL3++encI snx)
 obtain ⟨sL5,hsL5⟩:=eN0 (sL4++(encI sents.length++sents.flatMap encEnt))
 obtain ⟨sL6,hsL6⟩:=eN0 (sL5++encI sstms.length)
 obtain ⟨sL7,hsL7⟩:=eN0 (sL6++sstms.flatMap encStm)
 obtain ⟨sL8,hsL8⟩:=eN0 (sL7++encI stabs.length)
 obtain ⟨sL9,hsL9⟩:=eN0 (sL8++stabs.flatMap encTv)
 obtain ⟨sL10,hsL10⟩:=eN0 (sL9++(encH spla++(encP spol++encZ shor)))
 have sE:sL10=encSt ⟨stx,stm,swl,snx,seA,seC,sents,ssA,ssC,sstms,stA,stC,stabs,spA,spC,spla,sqA,sqC,spol,shA,shC,shor⟩:=by rw [hsL10,hsL9,hsL8,hsL7,hsL6,hsL5,hsL4,hsL3,hsL2,hsL1,hsL0];simp only [encSt,encE,encM,encTT,List.append_assoc,List.nil_append]
 have sn10:sL10.length≤100000000000:=by rw [sE];exact hl
 have sn9:=rL0 hsL10 sn10
 have sn8:=rL0 hsL9 sn9
 have sn7:=rL0 hsL8 sn8
 have sn6:=rL0 hsL7 sn7
 have sn5:=rL0 hsL6 sn6
 have sn4:=rL0 hsL5 sn5
 have sn3:=rL0 hsL4 sn4
 have sn2:=rL0 hsL3 sn3
 have sn1:=rL0 hsL2 sn2
 have sn0:=rL0 hsL1 sn1
 have sE:=hI0 sE
 have sn0:=hI0 sn0
 have sn1:=hI0 sn1
 have sn2:=hI0 sn2
 have sn3:=hI0 sn3
 have sn4:=hI0 sn4
 have sn5:=hI0 sn5
 have sn6:=hI0 sn6
 have sn7:=hI0 sn7
 have sn8:=hI0 sn8
 have sn9:=hI0 sn9
 have sn10:=hI0 sn10
 have sK1:∀v W,RdB W (ltw W) v sL0→Bl W1 W→Calls prog 113 #[v,.int .i64 stx] W (NewB W sL1):=fun v W h hW=>by
  rw [hsL1]
  exact refPutInt_any v sL0 stx W (by have:=HIN.out.1;omega) (by have:=HIN.out.1;omega) h (by have:=sn0.out;omega)
 have sK2:∀v W,RdB W (ltw W) v sL1→Bl W1 W→Calls prog 113 #[v,.int .i64 stm] W (NewB W sL2):=fun v W h hW=>by
  rw [hsL2]
  exact refPutInt_any v sL1 stm W (by have:=HIN.out.2.1;omega) (by have:=HIN.out.2.1;omega) h (by have:=sn1.out;omega)
 have sK3:∀v W,RdB W (ltw W) v sL2→Bl W1 W→Calls prog 113 #[v,.int .i64 swl] W (NewB W sL3):=fun v W h hW=>by
  rw [hsL3]
  exact refPutInt_any v sL2 swl W (by have:=HIN.out.2.2.1;omega) (by have:=HIN.out.2.2.1;omega) h (by have:=sn2.out;omega)
 have sK4:∀v W,RdB W (ltw W) v sL3→Bl W1 W→Calls prog 113 #[v,.int .i64 snx] W (NewB W sL4):=fun v W h hW=>by
  rw [hsL4]
  exact refPutInt_any v sL3 snx W (by have:=HIN.out.2.2.2;omega) (by have:=HIN.out.2.2.2;omega) h (by have:=sn3.out;omega)
 have sK5:∀v W,RdB W (ltw W) v sL4→Bl W1 W→Calls prog 114 #[v,.slice seA sents.length seC] W (NewB W sL5):=fun v W h hW=>by
  rw [hsL5]
  exact refPutEntries_any v sL4 seA seC sents W h (HVE.out.below hW) (fun x hx=>⟨(HEN.out x hx).1,(HEN.out x hx).2.below hW⟩) (by have q:=sn5.out;rw [hsL5] at q;exact q)
 have sK6:∀v W,RdB W (ltw W) v sL5→Bl W1 W→Calls prog 113 #[v,.int .i64 (sstms.length:Int)] W (NewB W sL6):=fun v W h hW=>by
  rw [hsL6]
  exact refPutInt_any v sL5 sstms.length W (by omega) (by omega) h (by have:=sn5.out;omega)
 have hsL7:=hI0 hsL7
 have sK8:∀v W,RdB W (ltw W) v sL7→Bl W1 W→Calls prog 113 #[v,.int .i64 (stabs.length:Int)] W (NewB W sL8):=fun v W h hW=>by
  rw [hsL8]
  exact refPutInt_any v sL7 stabs.length W (by omega) (by omega) h (by have:=sn7.out;omega)
 have hsL9:=hI0 hsL9
 have sK10:∀v W,RdB W (ltw W) v sL9→Bl W1 W→Calls prog 117 #[v,.slice spA spla.length spC,.slice sqA spol.length sqC,.slice shA shor.length shC,.slice none 0 0,.bool false] W (NewB W sL10):=fun v W h hW=>by
  rw [hsL10]
  exact refPutRules0_any v sL9 spA sqA shA spC sqC shC spla spol shor W h (HVH.out.below hW) (HVP.out.below hW) (HVZ.out.below hW) HHB.out HPB.out HZB.out (by have q:=sn10.out;rw [hsL10] at q;exact q)
 clear hsL1 hsL2 hsL3 hsL4 hsL5 hsL6 hsL8 hsL10
 have sE:Hid (sL10=encSt C):=hI0 (sE.out.trans HHS.out.symm)
 rw [←hsL0] at hR0
 clear hsL0 hl hi hw hok
 go_wp2_with fail
 refine rB0 W1 (fun zh=>?_)
 refine hT 0 15 ?_
 refine hU 1 16 (v:=?_) zh ?_ ?_
 rotate_left
 ·intro w' hSw;(try dsimp only at hSw);have q0:=cW1 0 ((hSw.block _ HBL.out).trans HT.out) rfl;go_simp<;>with_reducible rfl
 refine hT 3 18 ?_
 refine hU 4 19 (v:=?_) zh ?_ ?_
 rotate_left
 ·intro w' hSw;(try dsimp only at hSw);have q1:=cW1 1 ((hSw.block _ HBL.out).trans HT.out) rfl;go_simp<;>with_reducible rfl
 refine hT 6 21 ?_
 refine hU 7 22 (v:=?_) zh ?_ ?_
 rotate_left
 ·intro w' hSw;(try dsimp only at hSw);have q2:=cW1 2 ((hSw.block _ HBL.out).trans HT.out) rfl;go_simp<;>with_reducible rfl
 refine hT 9 24 ?_
 refine hU 10 25 (v:=?_) zh ?_ ?_
 rotate_left
 ·intro w' hSw;(try dsimp only at hSw);have q3:=cW1 3 ((hSw.block _ HBL.out).trans HT.out) rfl;go_simp<;>with_reducible rfl
 refine hC 2 17 ?_
 (with_reducible refine (sK1 _ _ (hR0.below (Below.refl _ _).drew) ((Below.refl W1.heap.size W1).trans ((Below.refl W1.heap.size W1).drew.mono (Below.refl W1.heap.size W1).size))).mono ?_)
 rintro _ y1 ⟨vy1,rfl,hOy1,hby1'⟩
 have hby1:Bl W1 y1:=Below.undrew hby1'
 have hRy1:=hOy1.rd
 refine ⟨_,rfl,keepAnd hby1 ?_⟩
 clear zh
 intro zh
 simp only [aP]
 refine hC 5 20 ?_
 (with_reducible refine (sK2 _ _ hRy1 ((Below.refl W1.heap.size W1).trans (hby1.mono (Below.refl W1.heap.size W1).size))).mono ?_)
 rintro _ y2 ⟨vy2,rfl,hOy2,hby2'⟩
 have hby2:Bl W1 y2:=hby1.trans (hby2'.mono hby1.size)
 have hRy2:=hOy2.rd
 refine ⟨_,rfl,keepAnd hby2 ?_⟩
 clear zh
 intro zh
 simp only [aP]
 refine hC 8 23 ?_
 (with_reducible refine (sK3 _ _ hRy2 ((Below.refl W1.heap.size W1).trans (hby2.mono (Below.refl W1.heap.size W1).size))).mono ?_)
 rintro _ y3 ⟨vy3,rfl,hOy3,hby3'⟩
 have hby3:Bl W1 y3:=hby2.trans (hby3'.mono hby2.size)
 have hRy3:=hOy3.rd
 refine ⟨_,rfl,keepAnd hby3 ?_⟩
 clear zh
 intro zh
 simp only [aP]
 refine hC 11 26 ?_
 (with_reducible refine (sK4 _ _ hRy3 ((Below.refl W1.heap.size W1).trans (hby3.mono (Below.refl W1.heap.size W1).size))).mono ?_)
 rintro _ y4 ⟨vy4,rfl,hOy4,hby4'⟩
 have hby4:Bl W1 y4:=hby3.trans (hby4'.mono hby3.size)
 have hRy4:=hOy4.rd
 refine ⟨_,rfl,keepAnd hby4 ?_⟩
 clear zh
 intro zh
 simp only [aP]
 refine hT 12 5 ?_
 refine rD0 ?_
 clear zh
 have HA1:Hid (AtB W1 y4 vy4 sL4):=hI0 (AtB.next ((Below.refl W1.heap.size W1).trans (hby3.mono (Below.refl W1.heap.size W1).size)) hOy4 hby4')
 clear hRy1 hby1 hby1' hOy1 hRy2 hby2 hby2' hOy2 hRy3 hby3 hby3' hOy3 hRy4 hby4 hby4' hOy4 sK1 sK2 sK3 sK4
 clear hR0
 go_wp2_with fail
 have hR2:=HA1.out.rd
 have HT2:=hI0 ((HA1.out.bel.block _ HBL.out).trans HT.out)
 have HBL2:Hid (w.heap.size<y4.heap.size):=hI0 (Nat.lt_of_lt_of_le HBL.out HA1.out.bel.size)
 refine rB0 y4 (fun zh=>?_)
 refine hT 0 27 ?_
 refine hT 1 28 ?_
 refine hU 2 29 (v:=?_) zh ?_ ?_
 rotate_left
 ·intro w' hSw;(try dsimp only at hSw);have q4:=cW1 4 ((hSw.block _ HBL2.out).trans HT2.out) rfl;go_simp<;>with_reducible rfl
 refine hT 4 31 ?_
 refine hU 5 32 (v:=?_) zh ?_ ?_
 rotate_left
 ·intro w' hSw;(try dsimp only at hSw);have q5:=cW1 5 ((hSw.block _ HBL2.out).trans HT2.out) rfl;go_simp<;>with_reducible rfl
 refine hT 6 33 ?_
 refine hC 3 30 ?_
 (with_reducible refine (sK5 _ _ (hR2.below (Below.refl _ _).drew) (HA1.out.bel.trans ((Below.refl y4.heap.size y4).drew.mono HA1.out.bel.size))).mono ?_)
 rintro _ z1 ⟨vz1,rfl,hOz1,hbz1'⟩
 have hbz1:Bl y4 z1:=Below.undrew hbz1'
 have hRz1:=hOz1.rd
 refine ⟨_,rfl,keepAnd hbz1 ?_⟩
 clear zh
 intro zh
 simp only [aP]
 refine hC 7 34 ?_
 (with_reducible refine (sK6 _ _ hRz1 (HA1.out.bel.trans (hbz1.mono HA1.out.bel.size))).mono ?_)
 rintro _ z2 ⟨vz2,rfl,hOz2,hbz2'⟩
 have hbz2:Bl y4 z2:=hbz1.trans (hbz2'.mono hbz1.size)
 have hRz2:=hOz2.rd
 refine ⟨_,rfl,keepAnd hbz2 ?_⟩
 clear zh
 intro zh
 simp only [aP]
 refine hT 8 5 ?_
 refine rD0 ?_
 clear zh
 have HA2:Hid (AtB W1 z2 vz2 sL6):=hI0 (AtB.next (HA1.out.bel.trans (hbz1.mono HA1.out.bel.size)) hOz2 hbz2')
 clear hRz1 hbz1 hbz1' hOz1 hRz2 hbz2 hbz2' hOz2 sK5 sK6
 clear hR2 HT2 HBL2
 have hT3:=(HA2.out.bel.block _ HBL.out).trans HT.out
 have c5:=cW1 5 hT3 rfl
 clear hT3
 go_wp2_with fail
 clear c5
 go_loopw [5,38] (fun b i wr=>∃k:Nat,i=.int .i64 (k:Int)∧k≤sstms.length∧Hid (AtB W1 wr b (sL6++(sstms.take k).flatMap encStm))) (fun _ i _=>sstms.length-(intOf i).toNat)
 case atStart=>exact ⟨0,rfl,Nat.zero_le _,hI0 (HA2.out.cast (by rw [List.take_zero,List.flatMap_nil,List.append_nil]))⟩
 clear HA2
 obtain ⟨km,rfl,hkm,HAim⟩:=hrel
 obtain ⟨wim,rfl⟩:=eN0 wr
 by_cases hltm:km<sstms.length
 case neg=>
  have hltZ:¬(km:Int)<(sstms.length:Int):=by omega
  have HFm:=hI0 (HAim.out.cast (show sL6++(sstms.take km).flatMap encStm=sL7 by rw [List.take_of_length_le (by omega),hsL7.out]))
  clear HAim
  have hT3:=(HFm.out.bel.block _ HBL.out).trans HT.out
  have c6:=cW1 6 hT3 rfl
  clear hT3
  have KC:=sK8 _ _ HFm.out.rd HFm.out.bel
  go_wp2_with fail
  (with_reducible refine KC.mono ?_)
  rintro _ y8 ⟨vy8,rfl,hO,hb⟩
  have HA8:Hid (AtB W1 y8 vy8 sL8):=hI0 (AtB.next HFm.out.bel hO hb)
  clear KC hO hb sK8
  clear c6 HFm
  have hT3:=(HA8.out.bel.block _ HBL.out).trans HT.out
  have c6:=cW1 6 hT3 rfl
  clear hT3
  go_wp2_with fail
  clear c6
  go_loopw [5,58] (fun b i wr=>∃k:Nat,i=.int .i64 (k:Int)∧k≤stabs.length∧Hid (AtB W1 wr b (sL8++(stabs.take k).flatMap encTv))) (fun _ i _=>stabs.length-(intOf i).toNat)
  case atStart=>exact ⟨0,rfl,Nat.zero_le _,hI0 (HA8.out.cast (by rw [List.take_zero,List.flatMap_nil,List.append_nil]))⟩
  clear HA8
  obtain ⟨kt,rfl,hkt,HAit⟩:=hrel
  obtain ⟨wit,rfl⟩:=eN0 wr
  by_cases hltt:kt<stabs.length
  case neg=>
   have hltZ:¬(kt:Int)<(stabs.length:Int):=by omega
   have HFt:=hI0 (HAit.out.cast (show sL8++(stabs.take kt).flatMap encTv=sL9 by rw [List.take_of_length_le (by omega),hsL9.out]))
   clear HAit
   have hT3:=(HFt.out.bel.block _ HBL.out).trans HT.out
   have c7:=cW1 7 hT3 rfl
   clear hT3
   have hT3:=(HFt.out.bel.block _ HBL.out).trans HT.out
   have c8:=cW1 8 hT3 rfl
   clear hT3
   have hT3:=(HFt.out.bel.block _ HBL.out).trans HT.out
   have c9:=cW1 9 hT3 rfl
   clear hT3
   have KC:=sK10 _ _ HFt.out.rd HFt.out.bel
   go_wp2_with fail
   (with_reducible refine KC.mono ?_)
   rintro _ y9 ⟨vy9,rfl,hO,hb⟩
   have HA9:Hid (AtB W1 y9 vy9 sL10):=hI0 (AtB.next HFt.out.bel hO hb)
   clear KC hO hb sK10
   clear c7 c8 c9 HFt
   go_wp2_with fail
   go_ret2
   have hb9:=HB1.out.trans (HA9.out.bel.mono HB1.out.size)
   have hq:=HA9.out.cast sE.out
   exact ⟨_,by rw [HK0.out]<;>rfl,by unfold outS;rw [if_pos HK0.out];exact (Rd.of_own hq.own).wide (fun b hb=>⟨by have:=hb.1;have:=HB1.out.size;omega,hb.2⟩),hb9,fun _=>HLE.out⟩
  have hltZ:(kt:Int)<(stabs.length:Int):=by omega
  have hBi:=HAit.out.bel
  obtain ⟨bt,offt,rfl,hF,hcl⟩:=RdE.at_ (K:=2) (enc:=RTv.enc) (fun _=>rfl) (by omega) (HVT.out.keep (Keeps.below hBi)) hltt
  have hcx:=hcl kt hltt
  have hmem:=List.getElem_mem hltt
  have hsn:=flat_snoc encTv hltt
  have hle:=flat_le encTv hltt
  obtain ⟨xt,hx⟩:=eN0 (stabs[kt])
  rw [←hx] at hcx hmem hsn hle
  obtain ⟨Lkt,hLk⟩:=eN0 (sL8++(stabs.take kt).flatMap encTv)
  have hM:(Lkt++encTv xt).length≤100000000000:=by
   have q:=sn9.out
   rw [hsL9.out] at q
   rw [hLk]
   simp only [List.length_append] at q ⊢
   omega
  have hS:sL8++(stabs.take (kt+1)).flatMap encTv=Lkt++encTv xt:=by rw [hsn,←List.append_assoc,←hLk]
  have HBit:=hI0 hBi
  have hRi:=HAit.out.rd
  rw [←hLk] at hRi
  clear hcl hx hF hsn hle hBi hLk HAit
  have HQ:=hI0 (HTW.out _ hmem)
  obtain ⟨tn,tA,tC,tvs⟩:=xt
  have HSt:Hid (sL8++(stabs.take (kt+1)).flatMap encTv=Lkt++encTv ⟨tn,tA,tC,tvs⟩):=hI0 hS
  have hM:(Lkt++encTv ⟨tn,tA,tC,tvs⟩).length≤100000000000:=hM
  obtain ⟨gt0,gt1⟩:=cK2 hcx (show _=[.string tn,.slice tA tvs.length tC] from rfl)
  clear hcx hS hmem
  obtain ⟨wbt,hwbt⟩:=eN0 (wit.alloc (.cells #[.string tn,.slice tA tvs.length tC] 165))
  have hbb:=bN0 hwbt
  have HBbt:=bT0 HBit hbb
  have HXLt:Hid (wit.heap.size<wbt.heap.size):=hI0 (by rw [hwbt];simp)
  have HXt:Hid (wbt.heap[wit.heap.size]? =some (.cells #[.string tn,.slice tA tvs.length tC] 165 (0,0))):=hI0 (by rw [hwbt];exact heap_alloc_new _ _)
  have hRbt:=hRi.below hbb
  clear hbb hRi
  obtain ⟨tL1,htL1⟩:=eN0 (Lkt++(encI tn.size++tn.data.toList))
  obtain ⟨tL2,htL2⟩:=eN0 (tL1++encVsB (tvs.map (·.2)))
  have tE:tL2=Lkt++encTv ⟨tn,tA,tC,tvs⟩:=by rw [htL2,htL1];simp only [encTv,List.append_assoc]
  have tn2:tL2.length≤100000000000:=by rw [tE];exact hM
  have tn1:=rL0 htL2 tn2
  have tn0:=rL0 htL1 tn1
  have tE:=hI0 tE
  have tn0:=hI0 tn0
  have tn1:=hI0 tn1
  have tn2:=hI0 tn2
  have tK1:∀v W,RdB W (ltw W) v Lkt→Bl W1 W→Calls prog 116 #[v,.string tn] W (NewB W tL1):=fun v W h hW=>by
   rw [htL1]
   exact refPutText_any v Lkt tn W h (by have q1:=tn0.out;have q2:tn.size≤300:=HQ.out.nm;omega)
  have tK2:∀v W,RdB W (ltw W) v tL1→Bl W1 W→Calls prog 115 #[v,.slice tA tvs.length tC] W (NewB W tL2):=fun v W h hW=>by
   rw [htL2]
   exact refPutVersions_any v _ tL1 tvs W h ((HQ.out.keep hW).rd.wide (fun b (hb:b<W1.heap.size)=>by show b<W.heap.size;have:=hW.size;omega)) HQ.out.ok (by have:=tn1.out;omega) HQ.out.few
  clear htL1 htL2
  clear hM
  go_wp2_with fail
  rw [←hwbt]
  clear hwbt
  refine rB0 wbt (fun zh=>?_)
  refine hT 0 62 ?_
  refine hT 1 63 ?_
  refine hU 2 64 (v:=?_) zh ?_ ?_
  rotate_left
  ·intro w' hSw;(try dsimp only at hSw);have q0:=cW1 0 ((hSw.block _ HXLt.out).trans HXt.out) rfl;go_simp<;>with_reducible rfl
  refine hT 4 66 ?_
  refine hU 5 67 (v:=?_) zh ?_ ?_
  rotate_left
  ·intro w' hSw;(try dsimp only at hSw);have q1:=cW1 1 ((hSw.block _ HXLt.out).trans HXt.out) rfl;go_simp<;>with_reducible rfl
  refine hC 3 65 ?_
  (with_reducible refine (tK1 _ _ (hRbt.below (Below.refl _ _).drew) (HBbt.out.trans ((Below.refl wbt.heap.size wbt).drew.mono HBbt.out.size))).mono ?_)
  rintro _ p1 ⟨vp1,rfl,hOp1,hbp1'⟩
  have hbp1:Bl wbt p1:=Below.undrew hbp1'
  have hRp1:=hOp1.rd
  refine ⟨_,rfl,keepAnd hbp1 ?_⟩
  clear zh
  intro zh
  simp only [aP]
  refine hC 6 68 ?_
  (with_reducible refine (tK2 _ _ hRp1 (bU0 HBbt hbp1)).mono ?_)
  rintro _ p2 ⟨vp2,rfl,hOp2,hbp2'⟩
  have hbp2:Bl wbt p2:=hbp1.trans (hbp2'.mono hbp1.size)
  have hRp2:=hOp2.rd
  refine ⟨_,rfl,keepAnd hbp2 ?_⟩
  clear zh
  intro zh
  simp only [aP]
  refine hT 7 5 ?_
  refine rD0 ?_
  clear zh
  have HAp:Hid (AtB W1 p2 vp2 tL2):=hI0 (AtB.next (bU0 HBbt hbp1) hOp2 hbp2')
  clear hRp1 hbp1 hbp1' hOp1 hRp2 hbp2 hbp2' hOp2 tK1 tK2
  have HAnt:=hI0 (HAp.out.cast tE.out)
  clear hRbt HAp
  go_wp2_with fail
  go_roundw
  case rel=>exact ⟨kt+1,by go_num,by omega,hI0 (HAnt.out.cast HSt.out.symm)⟩
  case measure=>simp [intOf];omega
 have hltZ:(km:Int)<(sstms.length:Int):=by omega
 have hBi:=HAim.out.bel
 obtain ⟨bm,offm,rfl,hF,hcl⟩:=RdE.at_ (K:=2) (enc:=Stm.enc) (fun _=>rfl) (by omega) (HVM.out.keep (Keeps.below hBi)) hltm
 have hcx:=hcl km hltm
 have hmem:=List.getElem_mem hltm
 have hsn:=flat_snoc encStm hltm
 have hle:=flat_le encStm hltm
 obtain ⟨xm,hx⟩:=eN0 (sstms[km])
 rw [←hx] at hcx hmem hsn hle
 obtain ⟨Lkm,hLk⟩:=eN0 (sL6++(sstms.take km).flatMap encStm)
 have hM:(Lkm++encStm xm).length≤100000000000:=by
  have q:=sn7.out
  rw [hsL7.out] at q
  rw [hLk]
  simp only [List.length_append] at q ⊢
  omega
 have hS:sL6++(sstms.take (km+1)).flatMap encStm=Lkm++encStm xm:=by rw [hsn,←List.append_assoc,←hLk]
 have HBim:=hI0 hBi
 have hRi:=HAim.out.rd
 rw [←hLk] at hRi
 clear hcl hx hF hsn hle hBi hLk HAim
 have HQ:=hI0 (HSM.out _ hmem)
 obtain ⟨xt,xw⟩:=xm
 have HSm:Hid (sL6++(sstms.take (km+1)).flatMap encStm=Lkm++encStm ⟨xt,xw⟩):=hI0 hS
 have hM:(Lkm++encStm ⟨xt,xw⟩).length≤100000000000:=hM
 obtain ⟨gm0,gm1⟩:=cK2 hcx (show _=[.int .i64 xt,.int .i64 xw] from rfl)
 clear hcx hS hmem
 obtain ⟨wbm,hwbm⟩:=eN0 (wim.alloc (.cells #[.int .i64 xt,.int .i64 xw] 180))
 have hbb:=bN0 hwbm
 have HBbm:=bT0 HBim hbb
 have HXLm:Hid (wim.heap.size<wbm.heap.size):=hI0 (by rw [hwbm];simp)
 have HXm:Hid (wbm.heap[wim.heap.size]? =some (.cells #[.int .i64 xt,.int .i64 xw] 180 (0,0))):=hI0 (by rw [hwbm];exact heap_alloc_new _ _)
 have hRbm:=hRi.below hbb
 clear hbb hRi
 obtain ⟨mL1,hmL1⟩:=eN0 (Lkm++encI xt)
 obtain ⟨mL2,hmL2⟩:=eN0 (mL1++encI xw)
 have mE:mL2=Lkm++encStm ⟨xt,xw⟩:=by rw [hmL2,hmL1];simp only [encStm,List.append_assoc]
 have mn2:mL2.length≤100000000000:=by rw [mE];exact hM
 have mn1:=rL0 hmL2 mn2
 have mn0:=rL0 hmL1 mn1
 have mE:=hI0 mE
 have mn0:=hI0 mn0
 have mn1:=hI0 mn1
 have mn2:=hI0 mn2
 have mK1:∀v W,RdB W (ltw W) v Lkm→Bl W1 W→Calls prog 113 #[v,.int .i64 xt] W (NewB W mL1):=fun v W h hW=>by
  rw [hmL1]
  exact refPutInt_any v Lkm xt W (by have q:=HQ.out;(try dsimp only at q);omega) (by have q:=HQ.out;(try dsimp only at q);omega) h (by have:=mn0.out;omega)
 have mK2:∀v W,RdB W (ltw W) v mL1→Bl W1 W→Calls prog 113 #[v,.int .i64 xw] W (NewB W mL2):=fun v W h hW=>by
  rw [hmL2]
  exact refPutInt_any v mL1 xw W (by have q:=HQ.out;(try dsimp only at q);omega) (by have q:=HQ.out;(try dsimp only at q);omega) h (by have:=mn1.out;omega)
 clear hmL1 hmL2
 clear hM
 go_wp2_with fail
 rw [←hwbm]
 clear hwbm
 refine rB0 wbm (fun zh=>?_)
 refine hT 0 42 ?_
 refine hT 1 43 ?_
 refine hU 2 44 (v:=?_) zh ?_ ?_
 rotate_left
 ·intro w' hSw;(try dsimp only at hSw);have q0:=cW1 0 ((hSw.block _ HXLm.out).trans HXm.out) rfl;go_simp<;>with_reducible rfl
 refine hT 4 46 ?_
 refine hU 5 47 (v:=?_) zh ?_ ?_
 rotate_left
 ·intro w' hSw;(try dsimp only at hSw);have q1:=cW1 1 ((hSw.block _ HXLm.out).trans HXm.out) rfl;go_simp<;>with_reducible rfl
 refine hC 3 45 ?_
 (with_reducible refine (mK1 _ _ (hRbm.below (Below.refl _ _).drew) (HBbm.out.trans ((Below.refl wbm.heap.size wbm).drew.mono HBbm.out.size))).mono ?_)
 rintro _ q1 ⟨vq1,rfl,hOq1,hbq1'⟩
 have hbq1:Bl wbm q1:=Below.undrew hbq1'
 have hRq1:=hOq1.rd
 refine ⟨_,rfl,keepAnd hbq1 ?_⟩
 clear zh
 intro zh
 simp only [aP]
 refine hC 6 48 ?_
 (with_reducible refine (mK2 _ _ hRq1 (bU0 HBbm hbq1)).mono ?_)
 rintro _ q2 ⟨vq2,rfl,hOq2,hbq2'⟩
 have hbq2:Bl wbm q2:=hbq1.trans (hbq2'.mono hbq1.size)
 have hRq2:=hOq2.rd
 refine ⟨_,rfl,keepAnd hbq2 ?_⟩
 clear zh
 intro zh
 simp only [aP]
 refine hT 7 5 ?_
 refine rD0 ?_
 clear zh
 have HAq:Hid (AtB W1 q2 vq2 mL2):=hI0 (AtB.next (bU0 HBbm hbq1) hOq2 hbq2')
 clear hRq1 hbq1 hbq1' hOq1 hRq2 hbq2 hbq2' hOq2 mK1 mK2
 have HAnm:=hI0 (HAq.out.cast mE.out)
 clear hRbm HAq
 go_wp2_with fail
 go_roundw
 case rel=>exact ⟨km+1,by go_num,by omega,hI0 (HAnm.out.cast HSm.out.symm)⟩
 case measure=>simp [intOf];omega
end Go.Proofs.YtbfdegkickjbpaaGreat
