/-
 DuL
-/
import Derived.Test.YtgfhknnklapldaaGreatDoorPDuK
import Derived.Test.YtgfhknnklapldaaGreatDoorPDuI
import Derived.Test.YtgfhknnklapldaaGreatDoorPDuH
namespace Go.Proofs.YtgfhknnklapldaaGreatDoor
open Go.Proofs.Tryz
set_option maxRecDepth 99999
set_option maxHeartbeats 0
open Go.RowKit Go.Lib Go.IntWalk Go.Sort Go.Shelf
def jn (l:List (List UInt8)):List UInt8:=join l [32]
theorem jn_snoc {l:List (List UInt8)} (h:l≠[]) (x:List UInt8):jn (l++[x])=jn l++32::x:=join_snoc h x
theorem jn_app {l:List (List UInt8)} (h:l≠[]) (r:List (List UInt8)):jn (l++r)=jn l++r.flatMap (32:: ·):=join_app h r
theorem jn_app2 {l r:List (List UInt8)} (h:l≠[]) (hr:r≠[]):jn (l++r)=jn l++32::jn r:=by
 cases r with
 |nil=>exact absurd rfl hr
 |cons a t=>
  rw [jn_app h,List.flatMap_cons]
  unfold jn
  rw [join_cons]
  simp [joinTail,List.flatMap_def]
theorem jn_one (x:List UInt8):jn [x]=x:=by unfold jn;rw [join_cons];simp [joinTail]
theorem jn_cons {x:List UInt8} {r:List (List UInt8)} (h:r≠[]):jn (x::r)=x++32::jn r:=by
 have:=jn_app2 (l:=[x]) (r:=r) (by simp) h
 rw [jn_one] at this
 exact this
theorem jn_len (l:List (List UInt8)):(jn l).length≤sumI l:=by
 have h:=lineB_le l
 cases l with
 |nil=>decide
 |cons a r=>
  have h:=lineB_len (a::r) (by simp)
  unfold lineB at h
  rw [List.length_append] at h
  unfold jn
  simp only [List.length_cons,List.length_nil] at h
  omega
theorem lineB_jn (l:List (List UInt8)):lineB l=jn l++[10]:=rfl
section
variable {ops:Array Oper} {Q:Exit→Act→World→Prop} {md:Region.Mode} {S:World→Prop} {fuel:Nat} {listed:Array Bool} {a:Act} {w:World}
theorem catH (i:Nat) (d:Tmp) (A B:ByteArray) {oi:Oper} {l':Array Bool} {a':Act} {x y:Operand} (h:wpAnyH prog md ops Q S fuel l' a' w)
  (hS:S w:=by assumption) (hi:ops.toList[i]? =some oi:=by rfl) (hd:oi.dst=some d:=by rfl) (ho:oi.op=.binOp .add 9 x y 9 :=by rfl) (hx:a.eval x=.string A:=by rfl) (hy:a.eval y=.string B:=by rfl)
  (hz:A.size+B.size≤9223372036854775807:=by simp only [bas_app,strB_size,bas_mk,List.size_toArray,List.length_cons,List.length_nil];omega)
  (hs:Region.noSelect ops=true:=by kernel_rfl) (hf:Region.free md ops listed i=true:=by kernel_rfl) (hr:(Region.ready md ops listed).contains i=true:=by kernel_rfl)
  (hw:Region.wanted oi (yielded ops a.tmps)=true:=by rfl) (hQ:∀c a w,Q (.panic c) (a.put (some d) (.string (A++B))) w→Q (.panic c) a w:=by exact fun _ _ _ h=>h)
  (hl:listed.setIfInBounds i true=l':=by conv=>lhs;(try simp only [aP])) (ha:a.put (some d) (.string (A++B))=a':=by conv=>lhs;(try simp only [aP])):wpAnyH prog md ops Q S (fuel+1) listed a w:=by
 subst hl;subst ha;exact heldTake i (some d) hi hd hs hf hr hw hS hQ (fun w' _=>exec_cat ho hx hy hz) h
end
theorem rversion_any (r:RV) (x:Ver) (w:World) (h:VerIs w (ltw w) r x) (hv:validVer x=true):Calls prog 90 #[.agg r.enc.toArray] w fun e w'=>e=.returned (.string (strB (jn (verI x))))∧Bl w w':=by
 obtain ⟨x1,x2,xA,xn,xc,x3,x4,x5,x6,x7,x8⟩:=r
 obtain ⟨r1,r2,r3,r4,r5,r6,r7,r8,hrow,hgo⟩:=h
 simp only at r1 r2 r3 r4 r5 r6 r7 r8 hrow
 obtain ⟨q1,q2,q3,q4⟩:=ver_bd hv
 have hn:xn=x.row.length:=by
  obtain ⟨A0,c0,hAc,_⟩:=Rd.open_ hrow
  simp only [Value.slice.injEq] at hAc
  exact hAc.2.1
 subst hn
 obtain ⟨Ao,co,hAc,m1,m2,_⟩:=Rd.open_ hrow
 simp only [Value.slice.injEq] at hAc
 obtain ⟨rfl,-,rfl⟩:=hAc
 unfold maxLen at m2
 have HNR:Hid (-9223372036854775808≤(x.row.length:Int)∧(x.row.length:Int)≤9223372036854775807):=hI0 (by omega)
 have HN1:Hid (-9223372036854775808≤x1∧x1≤9223372036854775807):=hI0 (by omega)
 have HN2:Hid (-9223372036854775808≤x2∧x2≤9223372036854775807):=hI0 (by omega)
 have HN3:Hid (-9223372036854775808≤x3∧x3≤9223372036854775807):=hI0 (by omega)
 have HN4:Hid (-9223372036854775808≤x4∧x4≤9223372036854775807):=hI0 (by omega)
 have HN5:Hid (-9223372036854775808≤x5∧x5≤9223372036854775807):=hI0 (by omega)
 have HN6:Hid (-9223372036854775808≤x6∧x6≤9223372036854775807):=hI0 (by omega)
 have HN7:Hid (-9223372036854775808≤x7∧x7≤9223372036854775807):=hI0 (by omega)
 have HN8:Hid (-9223372036854775808≤x8∧x8≤9223372036854775807):=hI0 (by omega)
 have n1:(itoa x1).length≤21:=itoa21 (n:=x1) (by omega)
 have n2:(itoa x2).length≤21:=itoa21 (n:=x2) (by omega)
 have n3:(itoa x3).length≤21:=itoa21 (n:=x3) (by omega)
 have n4:(itoa x4).length≤21:=itoa21 (n:=x4) (by omega)
 have n5:(itoa x5).length≤21:=itoa21 (n:=x5) (by omega)
 have n6:(itoa x6).length≤21:=itoa21 (n:=x6) (by omega)
 have n7:(itoa x7).length≤21:=itoa21 (n:=x7) (by omega)
 have n8:(itoa x8).length≤21:=itoa21 (n:=x8) (by omega)
 have n9:(itoa (x.row.length:Int)).length≤21:=itoaN_len (by omega)
 have HV:Hid (jn (verI x)=jn ([wVersion,itoa x1,itoa x2,itoa (x.row.length:Int)]++x.row.flatMap litI++[itoa x3,itoa x4,itoa x5,itoa x6,itoa x7,itoa x8])):=hI0 (by rw [r1,r2,r3,r4,r5,r6,r7,r8];rfl)
 have hsm:sumI ([wVersion,itoa x1,itoa x2,itoa (x.row.length:Int)]++x.row.flatMap litI)≤14000:=by
  have k1:=sumI_flat1 (f:=litI) (C:=403) (l:=x.row) fun v hv=>by
   have:=valB_len (q3 v hv)
   unfold litI
   simp only [sumI_cons,sumI_nil]
   omega
  have e1:wVersion.length=7:=rfl
  simp only [sumI_app,sumI_cons,sumI_nil]
  omega
 have HSM:=hI0 hsm
 have HRW:=hI0 hrow
 have HVL:=hI0 q3
 have HX0:Hid ((w.alloc (.cells #[.int .i64 x1,.int .i64 x2,.slice xA x.row.length xc,.int .i64 x3,.int .i64 x4,.int .i64 x5,.int .i64 x6,.int .i64 x7,.int .i64 x8] 56)).heap[w.heap.size]? =some (.cells #[.int .i64 x1,.int .i64 x2,.slice xA x.row.length xc,.int .i64 x3,.int .i64 x4,.int .i64 x5,.int .i64 x6,.int .i64 x7,.int .i64 x8] 56 (0,0))):=hI0 (heap_alloc_new w _)
 have HB0:Hid (Bl w (w.alloc (.cells #[.int .i64 x1,.int .i64 x2,.slice xA x.row.length xc,.int .i64 x3,.int .i64 x4,.int .i64 x5,.int .i64 x6,.int .i64 x7,.int .i64 x8] 56))):=hI0 (Below.of_alloc _)
 clear r1 r2 r3 r4 r5 r6 r7 r8 hrow hgo q1 q2 q3 q4 hsm hv
 show Calls prog 90 #[.agg #[.int .i64 x1,.int .i64 x2,.slice xA x.row.length xc,.int .i64 x3,.int .i64 x4,.int .i64 x5,.int .i64 x6,.int .i64 x7,.int .i64 x8]] w _
 go_in
 go_wp2_with fail
 refine wp_region_noPanic ?_
 refine wp_region_held_drew (S:=(fun Y=>Y.heap[w.heap.size]? =some (.cells #[.int .i64 x1,.int .i64 x2,.slice xA x.row.length xc,.int .i64 x3,.int .i64 x4,.int .i64 x5,.int .i64 x6,.int .i64 x7,.int .i64 x8] 56 (0,0)))) (by kernel_rfl) ?_ (fun zh=>?_)
 ·exact HX0.out
 refine hT 0 6 ?_
 refine hU 1 7 (v:=?_) zh ?_ ?_
 rotate_left
 ·intro w' hSw;(try dsimp only at hSw);have c0:=cW1 (v:=.int .i64 x1) 0 hSw rfl;go_simp<;>with_reducible rfl
 refine hT 5 11 ?_
 refine hU 6 12 (v:=?_) zh ?_ ?_
 rotate_left
 ·intro w' hSw;(try dsimp only at hSw);have c1:=cW1 (v:=.int .i64 x2) 1 hSw rfl;go_simp<;>with_reducible rfl
 refine hT 10 16 ?_
 refine hU 11 17 (v:=?_) zh ?_ ?_
 rotate_left
 ·intro w' hSw;(try dsimp only at hSw);have c2:=cW1 (v:=.slice xA x.row.length xc) 2 hSw rfl;go_simp<;>with_reducible rfl
 refine hT 12 18 ?_
 refine hC 2 8 ?_
 (with_reducible refine (rnum_any x1 _ HN1.out.1 HN1.out.2).mono ?_)
 rintro _ w1 ⟨rfl,hb1⟩
 have hB1:Bl w w1:=HB0.out.drew.trans (hb1.mono HB0.out.drew.size)
 refine ⟨_,rfl,keepAnd (keepRow hb1 zh) ?_⟩
 clear zh
 intro zh
 simp only [aP]
 refine catH 3 9 (⟨#[118,101,114,115,105,111,110,32]⟩) (strB (itoa x1)) ?_
 refine catH 4 10 (⟨#[118,101,114,115,105,111,110,32]⟩++strB (itoa x1)) (⟨#[32]⟩) ?_
 refine hC 7 13 ?_
 (with_reducible refine (rnum_any x2 w1 HN2.out.1 HN2.out.2).mono ?_)
 rintro _ w2 ⟨rfl,hb2⟩
 have hB2:Bl w w2:=hB1.trans (hb2.mono hB1.size)
 refine ⟨_,rfl,keepAnd (keepRow hb2 zh) ?_⟩
 clear zh
 intro zh
 simp only [aP]
 refine catH 8 14 (⟨#[118,101,114,115,105,111,110,32]⟩++strB (itoa x1)++⟨#[32]⟩) (strB (itoa x2)) ?_
 refine catH 9 15 (⟨#[118,101,114,115,105,111,110,32]⟩++strB (itoa x1)++⟨#[32]⟩++strB (itoa x2)) (⟨#[32]⟩) ?_
 refine hC 13 19 ?_
 (with_reducible refine (rnum_any (x.row.length:Int) w2 HNR.out.1 HNR.out.2).mono ?_)
 rintro _ w3 ⟨rfl,hb3⟩
 have hB3:Bl w w3:=hB2.trans (hb3.mono hB2.size)
 refine ⟨_,rfl,keepAnd (keepRow hb3 zh) ?_⟩
 clear zh
 intro zh
 simp only [aP]
 refine catH 14 20 (⟨#[118,101,114,115,105,111,110,32]⟩++strB (itoa x1)++⟨#[32]⟩++strB (itoa x2)++⟨#[32]⟩) (strB (itoa (x.row.length:Int))) ?_
 refine hT 15 3 ?_
 refine rD0 ?_
 have HX3:=hI0 zh
 have HB3:=hI0 hB3
 have c2:=cW1 2 HX3.out rfl
 have HS3:Hid ((⟨#[118,101,114,115,105,111,110,32]⟩:ByteArray)++strB (itoa x1)++⟨#[32]⟩++strB (itoa x2)++⟨#[32]⟩++strB (itoa (x.row.length:Int))=strB (jn [wVersion,itoa x1,itoa x2,itoa (x.row.length:Int)])):=hI0 (by
  apply bas_eq
  simp only [bas_l,bas_s]
  rw [jn_cons (by simp),jn_cons (by simp),jn_cons (by simp),jn_one]
  simp [wVersion])
 clear hB1 hB2 hB3 hb1 hb2 hb3 HX0 HB0
 generalize (⟨#[118,101,114,115,105,111,110,32]⟩:ByteArray)++strB (itoa x1)++⟨#[32]⟩++strB (itoa x2)++⟨#[32]⟩++strB (itoa (x.row.length:Int))=s3 at *
 go_wp2_with fail
 clear c2
 go_loopw [3,24] (fun o i wr=>∃k:Nat,o=.string (strB (jn ([wVersion,itoa x1,itoa x2,itoa (x.row.length:Int)]++(x.row.take k).flatMap litI)))∧i=.int .i64 (k:Int)∧k≤x.row.length∧Hid (Bl w3 wr)) (fun _ i _=>x.row.length-(intOf i).toNat)
 case atStart=>exact ⟨0,by rw [HS3.out];simp,rfl,Nat.zero_le _,hI0 (Below.refl _ _)⟩
 obtain ⟨k,rfl,rfl,hk,HW⟩:=hrel
 obtain ⟨wi,rfl⟩:=eN0 wr
 have ho:(strB (jn ([wVersion,itoa x1,itoa x2,itoa (x.row.length:Int)]++(x.row.take k).flatMap litI))).size≤14000:=by
  have k1:=jn_len ([wVersion,itoa x1,itoa x2,itoa (x.row.length:Int)]++(x.row.take k).flatMap litI)
  have k2:=takeF_le (f:=litI) (l:=x.row) k
  have k3:=HSM.out
  rw [sumI_app] at k1 k3
  rw [strB_size]
  omega
 have HB4:Hid (Bl w wi):=hI0 (HB3.out.trans (HW.out.mono HB3.out.size))
 have HX4:=hI0 (keepRow HW.out HX3.out)
 by_cases hlt:k<x.row.length
 case neg=>
  have hke:k=x.row.length:=by omega
  have ht:(jn ([wVersion,itoa x1,itoa x2,itoa (x.row.length:Int)]++(x.row.take k).flatMap litI)).length≤14000:=by rw [strB_size] at ho;exact ho
  have HF:Hid (jn ([wVersion,itoa x1,itoa x2,itoa (x.row.length:Int)]++(x.row.take k).flatMap litI)++[32]++itoa x3++[32]++itoa x4++[32]++itoa x5++[32]++itoa x6++[32]++itoa x7++[32]++itoa x8=jn (verI x)):=hI0 (by
   rw [HV.out,jn_app (l:=[wVersion,itoa x1,itoa x2,itoa (x.row.length:Int)]++x.row.flatMap litI) (by simp),hke,List.take_length]
   simp)
  generalize jn ([wVersion,itoa x1,itoa x2,itoa (x.row.length:Int)]++(x.row.take k).flatMap litI)=t at *
  clear ho hke
  go_wp2_with fail
  refine wp_region_noPanic ?_
  refine wp_region_held_drew (S:=(fun Y=>Y.heap[w.heap.size]? =some (.cells #[.int .i64 x1,.int .i64 x2,.slice xA x.row.length xc,.int .i64 x3,.int .i64 x4,.int .i64 x5,.int .i64 x6,.int .i64 x7,.int .i64 x8] 56 (0,0)))) (by kernel_rfl) ?_ (fun zh=>?_)
  ·exact HX4.out
  refine hT 0 34 ?_
  refine catH 1 35 (strB t) (⟨#[32]⟩) ?_
  refine hT 2 36 ?_
  refine hT 3 37 ?_
  refine hU 4 38 (v:=?_) zh ?_ ?_
  rotate_left
  ·intro w' hSw;(try dsimp only at hSw);have c3:=cW1 (v:=.int .i64 x3) 3 hSw rfl;go_simp<;>with_reducible rfl
  refine hT 8 42 ?_
  refine hT 9 43 ?_
  refine hU 10 44 (v:=?_) zh ?_ ?_
  rotate_left
  ·intro w' hSw;(try dsimp only at hSw);have c4:=cW1 (v:=.int .i64 x4) 4 hSw rfl;go_simp<;>with_reducible rfl
  refine hT 14 48 ?_
  refine hT 15 49 ?_
  refine hU 16 50 (v:=?_) zh ?_ ?_
  rotate_left
  ·intro w' hSw;(try dsimp only at hSw);have c5:=cW1 (v:=.int .i64 x5) 5 hSw rfl;go_simp<;>with_reducible rfl
  refine hT 20 54 ?_
  refine hT 21 55 ?_
  refine hU 22 56 (v:=?_) zh ?_ ?_
  rotate_left
  ·intro w' hSw;(try dsimp only at hSw);have c6:=cW1 (v:=.int .i64 x6) 6 hSw rfl;go_simp<;>with_reducible rfl
  refine hT 26 60 ?_
  refine hU 27 61 (v:=?_) zh ?_ ?_
  rotate_left
  ·intro w' hSw;(try dsimp only at hSw);have c7:=cW1 (v:=.int .i64 x7) 7 hSw rfl;go_simp<;>with_reducible rfl
  refine hT 31 65 ?_
  refine hU 32 66 (v:=?_) zh ?_ ?_
  rotate_left
  ·intro w' hSw;(try dsimp only at hSw);have c8:=cW1 (v:=.int .i64 x8) 8 hSw rfl;go_simp<;>with_reducible rfl
  refine hC 5 39 ?_
  (with_reducible refine (rnum_any x3 _ HN3.out.1 HN3.out.2).mono ?_)
  rintro _ w5 ⟨rfl,hb5⟩
  have hB5:Bl w w5:=HB4.out.drew.trans (hb5.mono HB4.out.drew.size)
  refine ⟨_,rfl,keepAnd (keepRow hb5 zh) ?_⟩
  clear zh
  intro zh
  simp only [aP]
  refine catH 6 40 (strB t++⟨#[32]⟩) (strB (itoa x3)) ?_
  refine catH 7 41 (strB t++⟨#[32]⟩++strB (itoa x3)) (⟨#[32]⟩) ?_
  refine hC 11 45 ?_
  (with_reducible refine (rnum_any x4 w5 HN4.out.1 HN4.out.2).mono ?_)
  rintro _ w6 ⟨rfl,hb6⟩
  have hB6:Bl w w6:=hB5.trans (hb6.mono hB5.size)
  refine ⟨_,rfl,keepAnd (keepRow hb6 zh) ?_⟩
  clear zh
  intro zh
  simp only [aP]
  refine catH 12 46 (strB t++⟨#[32]⟩++strB (itoa x3)++⟨#[32]⟩) (strB (itoa x4)) ?_
  refine catH 13 47 (strB t++⟨#[32]⟩++strB (itoa x3)++⟨#[32]⟩++strB (itoa x4)) (⟨#[32]⟩) ?_
  refine hC 17 51 ?_
  (with_reducible refine (rnum_any x5 w6 HN5.out.1 HN5.out.2).mono ?_)
  rintro _ w7 ⟨rfl,hb7⟩
  have hB7:Bl w w7:=hB6.trans (hb7.mono hB6.size)
  refine ⟨_,rfl,keepAnd (keepRow hb7 zh) ?_⟩
  clear zh
  intro zh
  simp only [aP]
  refine catH 18 52 (strB t++⟨#[32]⟩++strB (itoa x3)++⟨#[32]⟩++strB (itoa x4)++⟨#[32]⟩) (strB (itoa x5)) ?_
  refine catH 19 53 (strB t++⟨#[32]⟩++strB (itoa x3)++⟨#[32]⟩++strB (itoa x4)++⟨#[32]⟩++strB (itoa x5)) (⟨#[32]⟩) ?_
  refine hC 23 57 ?_
  (with_reducible refine (rnum_any x6 w7 HN6.out.1 HN6.out.2).mono ?_)
  rintro _ w8 ⟨rfl,hb8⟩
  have hB8:Bl w w8:=hB7.trans (hb8.mono hB7.size)
  refine ⟨_,rfl,keepAnd (keepRow hb8 zh) ?_⟩
  clear zh
  intro zh
  simp only [aP]
  refine catH 24 58 (strB t++⟨#[32]⟩++strB (itoa x3)++⟨#[32]⟩++strB (itoa x4)++⟨#[32]⟩++strB (itoa x5)++⟨#[32]⟩) (strB (itoa x6)) ?_
  refine catH 25 59 (strB t++⟨#[32]⟩++strB (itoa x3)++⟨#[32]⟩++strB (itoa x4)++⟨#[32]⟩++strB (itoa x5)++⟨#[32]⟩++strB (itoa x6)) (⟨#[32]⟩) ?_
  refine hC 28 62 ?_
  (with_reducible refine (rnum_any x7 w8 HN7.out.1 HN7.out.2).mono ?_)
  rintro _ w9 ⟨rfl,hb9⟩
  have hB9:Bl w w9:=hB8.trans (hb9.mono hB8.size)
  refine ⟨_,rfl,keepAnd (keepRow hb9 zh) ?_⟩
  clear zh
  intro zh
  simp only [aP]
  refine catH 29 63 (strB t++⟨#[32]⟩++strB (itoa x3)++⟨#[32]⟩++strB (itoa x4)++⟨#[32]⟩++strB (itoa x5)++⟨#[32]⟩++strB (itoa x6)++⟨#[32]⟩) (strB (itoa x7)) ?_
  refine catH 30 64 (strB t++⟨#[32]⟩++strB (itoa x3)++⟨#[32]⟩++strB (itoa x4)++⟨#[32]⟩++strB (itoa x5)++⟨#[32]⟩++strB (itoa x6)++⟨#[32]⟩++strB (itoa x7)) (⟨#[32]⟩) ?_
  refine hC 33 67 ?_
  (with_reducible refine (rnum_any x8 w9 HN8.out.1 HN8.out.2).mono ?_)
  rintro _ w10 ⟨rfl,hb10⟩
  have hB10:Bl w w10:=hB9.trans (hb10.mono hB9.size)
  refine ⟨_,rfl,keepAnd (keepRow hb10 zh) ?_⟩
  clear zh
  intro zh
  simp only [aP]
  refine catH 34 68 (strB t++⟨#[32]⟩++strB (itoa x3)++⟨#[32]⟩++strB (itoa x4)++⟨#[32]⟩++strB (itoa x5)++⟨#[32]⟩++strB (itoa x6)++⟨#[32]⟩++strB (itoa x7)++⟨#[32]⟩) (strB (itoa x8)) ?_
  refine hT 35 2 ?_
  refine rD0 ?_
  go_wp2_with fail
  go_ret
  refine ⟨?_,hB10⟩
  rw [←HF.out]
  refine congrArg (fun s=>Ending.returned (.string s)) ?_
  apply bas_eq
  simp only [bas_l,bas_s]
 have hrw:=HRW.out.keep (Keeps.below HB4.out)
 obtain ⟨b2,off,rfl,hF,hc⟩:=Rd.plain hrw (by omega) (by omega)
 have hvk:=HVL.out x.row[k] (List.getElem_mem hlt)
 have HT:Hid (jn ([wVersion,itoa x1,itoa x2,itoa (x.row.length:Int)]++(x.row.take (k+1)).flatMap litI)=jn ([wVersion,itoa x1,itoa x2,itoa (x.row.length:Int)]++(x.row.take k).flatMap litI)++32::valB x.row[k]):=hI0 (by
  rw [takeF hlt,←List.append_assoc]
  exact jn_snoc (by simp) _)
 have hq:∀j u,j<3→(x.row[k]).cells[j]? =some u→wi.cell? ⟨b2,off+k*3+j,none⟩=some u:=fun j u hj hu=>by
  have:=hc (k*3+j) u (by rw [show cv x.row=x.row.flatMap Val.cells from rfl,flat_getC 3 x.row Val.cells (fun _ _=>rfl) k j hj _ (List.getElem?_eq_getElem hlt)];exact hu)
  rw [←Nat.add_assoc] at this
  exact this
 clear hc hrw
 generalize x.row[k]=v at *
 have hvl:=valB_len hvk
 have hvs:(strB (valB v)).size≤402:=by rw [strB_size];exact hvl
 obtain ⟨k0,k1,k2⟩:=v
 have g0:wi.cell? ⟨b2,off+k*3,none⟩=some (.int .i64 k0):=hq 0 _ (by omega) rfl
 have g1:wi.cell? ⟨b2,off+k*3+1,none⟩=some (.int .i64 k1):=hq 1 _ (by omega) rfl
 have g2:wi.cell? ⟨b2,off+k*3+2,none⟩=some (.string k2):=hq 2 _ (by omega) rfl
 have hbW:Bl wi (wi.alloc (.cells #[.int .i64 k0,.int .i64 k1,.string k2] 51)):=Below.of_alloc _
 have KV:Hid (Calls prog 129 #[.agg #[.int .i64 k0,.int .i64 k1,.string k2]] (wi.alloc (.cells #[.int .i64 k0,.int .i64 k1,.string k2] 51)) fun e w'=>e=.returned (.string (strB (valB ⟨k0,k1,k2⟩)))∧Below (wi.alloc (.cells #[.int .i64 k0,.int .i64 k1,.string k2] 51)).heap.size (wi.alloc (.cells #[.int .i64 k0,.int .i64 k1,.string k2] 51)) w'):=hI0 (rvalue_any ⟨k0,k1,k2⟩ _ hvk)
 have HR:Hid (strB (jn ([wVersion,itoa x1,itoa x2,itoa (x.row.length:Int)]++(x.row.take (k+1)).flatMap litI))=strB (jn ([wVersion,itoa x1,itoa x2,itoa (x.row.length:Int)]++(x.row.take k).flatMap litI))++((⟨#[32]⟩:ByteArray)++strB (valB ⟨k0,k1,k2⟩))):=hI0 (by
  apply bas_eq
  simp only [bas_l,bas_s,HT.out]
  rfl)
 have HBW:=hI0 hbW
 generalize strB (jn ([wVersion,itoa x1,itoa x2,itoa (x.row.length:Int)]++(x.row.take k).flatMap litI))=o at *
 clear hq hvl hvk hbW
 go_wp2_with fail
 clear g0 g1 g2
 (with_reducible refine KV.out.mono ?_)
 rintro _ w5 ⟨rfl,hb5⟩
 generalize strB (valB ⟨k0,k1,k2⟩)=vs at *
 have HW5:=hI0 (HW.out.trans ((bU0 HBW hb5).mono HW.out.size))
 clear KV hb5
 go_wp2_with fail
 go_roundw
 case rel=>exact ⟨k+1,by rw [HR.out],by go_num,by omega,HW5⟩
 case measure=>simp [intOf];omega
theorem rlines_any (x:RTv) (w:World) (hx:x.is w (ltw w)) (hS:x.table.size≤24) (hv:∀p∈x.vers,validVer p.2=true) (hn:x.vers.length≤1048576):
  Calls prog 35 #[.agg x.enc.toArray] w fun e w'=>e=.returned (.string (strB (tvT x)))∧Bl w w':=by
 have hT:=rows_few hv hS hn
 rw [tvT_eq] at hT ⊢
 obtain ⟨S,A,c,ps⟩:=x
 simp only at hS hv hn hT ⊢
 show Calls prog 35 #[.agg #[.string S,.slice A ps.length c]] w _
 have hvs:RdVs w (ltw w) (.slice A ps.length c) ps:=hx
 obtain ⟨A0,C0,hAc,z1,z2,_⟩:=hvs.1.open_
 simp only [Value.slice.injEq] at hAc
 obtain ⟨rfl,-,rfl⟩:=hAc
 unfold maxLen at z2
 have HVS:=hI0 hvs
 have HVL:=hI0 hv
 have HTL:=hI0 hT
 have hq:=qS_len hS
 have hqs:(strB (qS S)).size≤50:=by rw [strB_size];omega
 have HH:Hid ((⟨#[116,97,98,108,101,32]⟩:ByteArray)++strB (qS S)++⟨#[10]⟩=strB (lineB [wTable,qS S])):=hI0 (by
  apply bas_eq
  simp only [bas_l,bas_s]
  rw [lineB_jn,jn_cons (by simp),jn_one]
  simp [wTable])
 clear hx hvs hv hT hq
 obtain ⟨W1,hW1⟩:=eN0 (w.alloc (.cells #[.string S,.slice A ps.length c] 37))
 have hbW1:=bN0 hW1
 have hnW1:=hN0 hW1
 have eW1:w.alloc (.cells #[.string S,.slice A ps.length c] 37)=W1:=by rw [hW1]
 clear hW1
 have HB1:Hid (Bl w W1):=hI0 hbW1
 have c0:=cW1 0 hnW1 rfl
 have HT1:=hI0 hnW1
 have KQ:=hI0 (rquote_any S W1 (by omega))
 clear hbW1 hnW1
 go_in
 go_wp2_with fail
 clear eW1 c0
 (with_reducible refine KQ.out.mono ?_)
 rintro _ w2 ⟨rfl,hb2⟩
 have HB2:=bT0 HB1 hb2
 have HT2:=hI0 (keepRow hb2 HT1.out)
 have c1:=cW1 1 HT2.out rfl
 have hz1:(⟨#[116,97,98,108,101,32]⟩:ByteArray).size+(strB (qS S)).size≤9223372036854775807:=by simp only [bas_mk,List.size_toArray,List.length_cons,List.length_nil];omega
 have hz2:((⟨#[116,97,98,108,101,32]⟩:ByteArray)++strB (qS S)).size+(⟨#[10]⟩:ByteArray).size≤9223372036854775807:=by simp only [bas_app,bas_mk,List.size_toArray,List.length_cons,List.length_nil];omega
 clear hb2 HT1 HB1 KQ
 go_wp2_with fail
 clear c1
 rw [HH.out]
 go_loopw [3,14] (fun o i wr=>∃k:Nat,o=.string (strB (lineB [wTable,qS S]++(ps.take k).flatMap (fun p=>lineB (verI p.2))))∧i=.int .i64 (k:Int)∧k≤ps.length∧Hid (Bl w2 wr)) (fun _ i _=>ps.length-(intOf i).toNat)
 case atStart=>exact ⟨0,by simp,rfl,Nat.zero_le _,hI0 (Below.refl _ _)⟩
 obtain ⟨k,rfl,rfl,hk,HB⟩:=hrel
 obtain ⟨wi,rfl⟩:=eN0 wr
 have HBo:Hid (Bl w wi):=hI0 (HB2.out.trans (HB.out.mono HB2.out.size))
 by_cases hlt:k<ps.length
 case neg=>
  have hke:k=ps.length:=by omega
  have HF:Hid (lineB [wTable,qS S]++(ps.take k).flatMap (fun p=>lineB (verI p.2))=lineB [wTable,qS S]++ps.flatMap (fun p=>lineB (verI p.2))):=hI0 (by rw [hke,List.take_length])
  clear hke
  go_wp2_with fail
  go_ret
  exact ⟨by rw [HF.out];rfl,HBo.out⟩
 have hst:=takeL hlt
 have hle:=takeL_le (l:=ps) (k+1)
 have hvk:=HVL.out ps[k] (List.getElem_mem hlt)
 rw [hst,List.length_append] at hle
 have hT:=HTL.out
 rw [List.length_append] at hT
 have hso:(strB (lineB [wTable,qS S]++(ps.take k).flatMap (fun p=>lineB (verI p.2)))).size≤20000000000:=by rw [strB_size,List.length_append];omega
 have hsv:(strB (jn (verI ps[k].2))).size≤20000000000:=by
  rw [strB_size]
  rw [lineB_jn,List.length_append] at hle
  omega
 have HST:Hid (strB (lineB [wTable,qS S]++(ps.take (k+1)).flatMap (fun p=>lineB (verI p.2)))=strB (lineB [wTable,qS S]++(ps.take k).flatMap (fun p=>lineB (verI p.2)))++(strB (jn (verI ps[k].2))++⟨#[10]⟩)):=hI0 (by
  rw [hst]
  apply bas_eq
  simp only [bas_l,bas_s]
  rw [lineB_jn (verI ps[k].2)]
  simp)
 obtain ⟨b2,off,hA,hF,hcl,hxx⟩:=RdVs.at_ (HVS.out.below HBo.out) hlt
 subst hA
 clear hst hle hT
 generalize strB (lineB [wTable,qS S]++(ps.take k).flatMap (fun p=>lineB (verI p.2)))=so at *
 generalize ps[k]=p at *
 obtain ⟨⟨x1,x2,xA,xn,xc,x3,x4,x5,x6,x7,x8⟩,x⟩:=p
 simp only at hcl hxx hvk hsv HST
 obtain ⟨g0,g1,g2,g3,g4,g5,g6,g7,g8⟩:=cK9 hcl (show _=[.int .i64 x1,.int .i64 x2,.slice xA xn xc,.int .i64 x3,.int .i64 x4,.int .i64 x5,.int .i64 x6,.int .i64 x7,.int .i64 x8] from rfl)
 have hb3:Bl wi (wi.alloc (.cells #[.int .i64 x1,.int .i64 x2,.slice xA xn xc,.int .i64 x3,.int .i64 x4,.int .i64 x5,.int .i64 x6,.int .i64 x7,.int .i64 x8] 56)):=Below.of_alloc _
 have KV:Hid (Calls prog 90 #[.agg #[.int .i64 x1,.int .i64 x2,.slice xA xn xc,.int .i64 x3,.int .i64 x4,.int .i64 x5,.int .i64 x6,.int .i64 x7,.int .i64 x8]] (wi.alloc (.cells #[.int .i64 x1,.int .i64 x2,.slice xA xn xc,.int .i64 x3,.int .i64 x4,.int .i64 x5,.int .i64 x6,.int .i64 x7,.int .i64 x8] 56)) fun e w'=>e=.returned (.string (strB (jn (verI x))))∧Below ((wi.alloc (.cells #[.int .i64 x1,.int .i64 x2,.slice xA xn xc,.int .i64 x3,.int .i64 x4,.int .i64 x5,.int .i64 x6,.int .i64 x7,.int .i64 x8] 56))).heap.size (wi.alloc (.cells #[.int .i64 x1,.int .i64 x2,.slice xA xn xc,.int .i64 x3,.int .i64 x4,.int .i64 x5,.int .i64 x6,.int .i64 x7,.int .i64 x8] 56)) w'):=hI0 (rversion_any (⟨x1,x2,xA,xn,xc,x3,x4,x5,x6,x7,x8⟩:RV) x _ ((hxx.keep (Keeps.below hb3)).wide (fun b' (h':b'<wi.heap.size)=>by show b'<((wi.alloc (.cells #[.int .i64 x1,.int .i64 x2,.slice xA xn xc,.int .i64 x3,.int .i64 x4,.int .i64 x5,.int .i64 x6,.int .i64 x7,.int .i64 x8] 56))).heap.size;have:=hb3.size;omega)) hvk)
 have HB3:=hI0 hb3
 have hz3:(strB (jn (verI x))).size+(⟨#[10]⟩:ByteArray).size≤9223372036854775807:=by simp only [bas_mk,List.size_toArray,List.length_cons,List.length_nil];omega
 have hz4:so.size+(strB (jn (verI x))++(⟨#[10]⟩:ByteArray)).size≤9223372036854775807:=by simp only [bas_app,bas_mk,List.size_toArray,List.length_cons,List.length_nil];omega
 clear hcl hxx hvk hb3
 go_wp2_with fail
 clear g0 g1 g2 g3 g4 g5 g6 g7 g8
 (with_reducible refine KV.out.mono ?_)
 rintro _ w5 ⟨rfl,hb5⟩
 have HN:Hid (Bl w2 w5):=hI0 (HB.out.trans ((bU0 HB3 hb5).mono HB.out.size))
 clear hb5 KV
 generalize strB (jn (verI x))=vs at *
 go_wp2_with fail
 go_roundw
 case rel=>exact ⟨k+1,by rw [HST.out],by go_num,by omega,HN⟩
 case measure=>simp [intOf];omega
end Go.Proofs.YtgfhknnklapldaaGreatDoor
