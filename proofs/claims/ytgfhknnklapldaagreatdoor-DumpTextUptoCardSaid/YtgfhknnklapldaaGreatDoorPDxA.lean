/-
 The reference's numbers, columns and expressions.
-/
import Derived.Test.YtgfhknnklapldaaGreatDoorPDuL
import Derived.Test.YtgfhknnklapldaaGreatDoorPSeg1
import Derived.Test.YtgfhknnklapldaaGreatDoorPRc3
import Derived.Test.YtgfhknnklapldaaGreatDoorPRcO
import Derived.Test.YtgfhknnklapldaaGreatDoorPVer
import Derived.Test.YtgfhknnklapldaaGreatDoorPDuJ
import Derived.Test.YtgfhknnklapldaaGreatDoorPDuE
namespace Go.Proofs.YtgfhknnklapldaaGreatDoor
open Go.Proofs.Tryz
set_option maxRecDepth 99999
set_option maxHeartbeats 0
open Go.RowKit Go.Lib Go.IntWalk Go.Sort Go.Shelf
theorem jn_flat {α:Type} {f:α→List (List UInt8)} {P:List (List UInt8)} (hP:P≠[]):∀(l:List α),(∀x∈l,f x≠[])→jn (P++l.flatMap f)=jn P++l.flatMap (fun x=>32::jn (f x))
 |[],_=>by simp
 |x::r,hf=>by
  have h1:=jn_app2 hP (hf x List.mem_cons_self)
  have h2:=jn_flat (P:=P++f x) (by simp [hP]) r (fun y hy=>hf y (List.mem_cons_of_mem _ hy))
  rw [List.flatMap_cons,←List.append_assoc,h2,h1,List.flatMap_cons]
  simp
theorem exI_ne (e:RE):exI e≠[]:=by obtain ⟨op,it,v,nm,A,c,args⟩:=e;rw [exI_eq];simp
theorem strB_sz {l:List UInt8} {n:Nat} (h:l.length≤n):(strB l).size≤n:=by rw [strB_size];exact h
theorem bas_pl {a b x:List UInt8} (h:b=a++x):strB b=strB a++strB x:=by
 rw [h];apply bas_eq;simp only [bas_l,bas_s]
theorem bas_sp {a b x:List UInt8} (h:b=a++32::x):strB b=strB a++((⟨#[32]⟩:ByteArray)++strB x):=by
 rw [h];apply bas_eq;simp only [bas_l,bas_s];rfl
theorem bas_lf {a b x:List UInt8} (h:b=a++(x++[10])):strB b=strB a++(strB x++(⟨#[10]⟩:ByteArray)):=by
 rw [h];apply bas_eq;simp only [bas_l,bas_s]
theorem fitG {α:Type} {g:α→List UInt8} {L:List UInt8} {l:List α} {k:Nat} (h:k<l.length) (hl:(L++l.flatMap g).length≤10000000000):(strB (L++(l.take k).flatMap g)).size≤10000000000∧(g l[k]).length≤10000000000:=by
 have:=fitA h hl
 rw [strB_size]
 omega
def StO (s:List UInt8) (w0:World) (e:Ending) (w:World):Prop:=e=.returned (.string (strB s))∧Bl w0 w
theorem rints_any (A:Option Addr) (c:Nat) (l:List Int) (w:World) (hv:RdE 1 intE w (ltw w) (.slice A l.length c) l) (hb:∀n∈l,-9223372036854775808≤n∧n≤9223372036854775807) (hl:sumI (lstI numI l)≤10000000000):
  Calls prog 130 #[.slice A l.length c] w (StO (jn (lstI numI l)) w):=by
 obtain ⟨z1,z2⟩:=RdE.bd hv
 have HJ:Hid (itoa (l.length:Int)++l.flatMap (fun x=>32::jn (numI x))=jn (lstI numI l)):=hI0 (by
  have:=jn_flat (P:=[itoa (l.length:Int)]) (f:=numI) (by simp) l (fun x _=>by simp [numI])
  rw [jn_one] at this
  exact this.symm)
 have HL:Hid ((itoa (l.length:Int)++l.flatMap (fun x=>32::jn (numI x))).length≤10000000000):=hI0 (by rw [HJ.out];exact Nat.le_trans (jn_len _) hl)
 have H1:Hid (∀x∈l,∀W,Bl w W→Calls prog 84 #[.int .i64 x] W (StO (jn (numI x)) W)):=hI0 (fun x hx W _=>by
  have:=rnum_any x W (hb x hx).1 (hb x hx).2
  unfold numI
  rw [jn_one]
  exact this)
 have KN:=hI0 (rnum_any (l.length:Int) w (by omega) (by omega))
 have HV:=hI0 hv
 generalize jn (lstI numI l)=TX at *
 clear hv hb hl
 go_in
 go_wp2_with fail
 (with_reducible refine KN.out.mono ?_)
 rintro _ w1 ⟨rfl,hb1⟩
 have HB0:=hI0 hb1
 clear hb1 KN
 go_wp2_with fail
 go_loopw [3,11] (fun o i wr=>∃k:Nat,o=.string (strB ((itoa (l.length:Int))++(l.take k).flatMap (fun x=>32::jn (numI x))))∧i=.int .i64 (k:Int)∧k≤l.length∧Hid (Bl w1 wr)) (fun _ i _=>l.length-(intOf i).toNat)
 case atStart=>exact ⟨0,by simp,rfl,Nat.zero_le _,hI0 (Below.refl _ _)⟩
 obtain ⟨k,rfl,rfl,hk,HW⟩:=hrel
 obtain ⟨wi,rfl⟩:=eN0 wr
 have HWw:Hid (Bl w wi):=hI0 (HB0.out.trans (HW.out.mono HB0.out.size))
 by_cases hlt:k<l.length
 case neg=>
  have HF:Hid (strB ((itoa (l.length:Int))++(l.take k).flatMap (fun x=>32::jn (numI x)))=strB ((itoa (l.length:Int))++l.flatMap (fun x=>32::jn (numI x)))):=hI0 (by rw [List.take_of_length_le (by omega)])
  rw [HF.out]
  clear HF
  go_wp2_with fail
  go_ret
  exact ⟨by rw [←HJ.out];rfl,HWw.out⟩
 obtain ⟨b2,off,hA,hF,hc⟩:=RdE.at_ (K:=1) (enc:=intE) (fun _=>rfl) (by omega) (HV.out.keep (Keeps.below HWw.out)) hlt
 have hq:=hc k hlt
 have hst:=takeA (g:=(fun x=>32::jn (numI x))) hlt
 obtain ⟨hso,hsv⟩:=fitG (g:=(fun x=>32::jn (numI x))) hlt HL.out
 have h1x:=H1.out l[k] (List.getElem_mem hlt)
 clear hc
 subst hA
 generalize l[k]=x at *
 have HST:Hid (strB ((itoa (l.length:Int))++(l.take (k+1)).flatMap (fun x=>32::jn (numI x)))=strB ((itoa (l.length:Int))++(l.take k).flatMap (fun x=>32::jn (numI x)))++((⟨#[32]⟩:ByteArray)++strB (jn (numI x)))):=hI0 (bas_sp (by rw [hst,←List.append_assoc]<;>rfl))
 clear hst
 generalize strB ((itoa (l.length:Int))++(l.take k).flatMap (fun x=>32::jn (numI x)))=so at *
 have g0:wi.cell? ⟨b2,off+k,none⟩=some (.int .i64 x):=by have:=hq 0 (.int .i64 x) (by omega) rfl;simpa using this
 clear hq
 have hW1:Bl wi wi:=Below.refl _ _
 have KV:Hid (Calls prog 84 #[.int .i64 x] wi (StO (jn (numI x)) wi)):=hI0 (h1x wi (bU0 HWw hW1))
 have HW1:=bT0 HW hW1
 have hvs:(strB (jn (numI x))).size≤10000000000:=strB_sz (Nat.le_of_succ_le (show (jn (numI x)).length+1≤10000000000 from hsv))
 clear h1x hW1 hsv
 go_wp2_with fail
 clear g0
 (with_reducible refine KV.out.mono ?_)
 rintro _ w2 ⟨rfl,hb2⟩
 have HW2:=bT0 HW1 hb2
 generalize strB (jn (numI x))=vs at *
 have hz1:(⟨#[32]⟩:ByteArray).size+vs.size≤9223372036854775807:=by simp only [bas_mk,List.size_toArray,List.length_cons,List.length_nil];omega
 have hz2:so.size+((⟨#[32]⟩:ByteArray)++vs).size≤9223372036854775807:=by simp only [bas_app,bas_mk,List.size_toArray,List.length_cons,List.length_nil];omega
 clear hb2 KV
 go_wp2_with fail
 go_roundw
 case rel=>exact ⟨k+1,by rw [HST.out],by go_num,by omega,HW2⟩
 case measure=>simp [intOf];omega
theorem rcolumn_any (x:RCol) (w:World) (ha:x.name.size≤1000) (h1: -9223372036854775808≤x.kind) (h2:x.kind≤9223372036854775807):Calls prog 128 #[.agg x.enc.toArray] w (StO (jn (colI x)) w):=by
 obtain ⟨a,n,q⟩:=x
 simp only at ha h1 h2
 show Calls prog 128 #[.agg #[.string a,.int .i64 n,.bool q]] w _
 have HA:=hI0 ha
 have HN:Hid (-9223372036854775808≤n∧n≤9223372036854775807):=hI0 ⟨h1,h2⟩
 have n1:=qS_len ha
 have n2:(itoa n).length≤21:=itoa_length_le _ h1 h2
 have n3:(flagB q).length≤1:=by cases q<;>simp [flagB]
 have HX:Hid ((w.alloc (.cells #[.string a,.int .i64 n,.bool q] 75)).heap[w.heap.size]? =some (.cells #[.string a,.int .i64 n,.bool q] 75 (0,0))):=hI0 (heap_alloc_new w _)
 have HB:Hid (Bl w (w.alloc (.cells #[.string a,.int .i64 n,.bool q] 75))):=hI0 (Below.of_alloc _)
 have HR:Hid (strB (qS a)++⟨#[32]⟩++strB (itoa n)++⟨#[32]⟩++strB (flagB q)=strB (jn (colI ⟨a,n,q⟩))):=hI0 (by
  apply bas_eq
  simp only [bas_l,bas_s]
  unfold colI
  rw [jn_cons (by simp),jn_cons (by simp),jn_one]
  simp)
 clear ha h1 h2
 go_in
 go_wp2_with fail
 refine wp_region_noPanic ?_
 refine wp_region_held_drew (S:=(fun Y=>Y.heap[w.heap.size]? =some (.cells #[.string a,.int .i64 n,.bool q] 75 (0,0)))) (by kernel_rfl) ?_ (fun zh=>?_)
 ·exact HX.out
 refine hT 0 3 ?_
 refine hU 1 4 (v:=?_) zh ?_ ?_
 rotate_left
 ·intro w' hSw;(try dsimp only at hSw);have c0:=cW1 (v:=.string a) 0 hSw rfl;go_simp<;>with_reducible rfl
 refine hT 4 7 ?_
 refine hU 5 8 (v:=?_) zh ?_ ?_
 rotate_left
 ·intro w' hSw;(try dsimp only at hSw);have c1:=cW1 (v:=.int .i64 n) 1 hSw rfl;go_simp<;>with_reducible rfl
 refine hT 9 12 ?_
 refine hU 10 13 (v:=?_) zh ?_ ?_
 rotate_left
 ·intro w' hSw;(try dsimp only at hSw);have c2:=cW1 (v:=.bool q) 2 hSw rfl;go_simp<;>with_reducible rfl
 refine hC 2 5 ?_
 (with_reducible refine (rquote_any a _ HA.out).mono ?_)
 rintro _ w1 ⟨rfl,hb1⟩
 have hB1:Bl w w1:=HB.out.drew.trans (hb1.mono HB.out.drew.size)
 refine ⟨_,rfl,keepAnd (keepRow hb1 zh) ?_⟩
 clear zh
 intro zh
 simp only [aP]
 refine catH 3 6 (strB (qS a)) (⟨#[32]⟩) ?_
 refine hC 6 9 ?_
 (with_reducible refine (rnum_any n w1 HN.out.1 HN.out.2).mono ?_)
 rintro _ w2 ⟨rfl,hb2⟩
 have hB2:Bl w w2:=hB1.trans (hb2.mono hB1.size)
 refine ⟨_,rfl,keepAnd (keepRow hb2 zh) ?_⟩
 clear zh
 intro zh
 simp only [aP]
 refine catH 7 10 (strB (qS a)++⟨#[32]⟩) (strB (itoa n)) ?_
 refine catH 8 11 (strB (qS a)++⟨#[32]⟩++strB (itoa n)) (⟨#[32]⟩) ?_
 refine hC 11 14 ?_
 (with_reducible refine (rflag_any q w2).mono ?_)
 rintro _ w3 ⟨rfl,hb3⟩
 have hB3:Bl w w3:=hB2.trans (hb3.mono hB2.size)
 refine ⟨_,rfl,keepAnd (keepRow hb3 zh) ?_⟩
 clear zh
 intro zh
 simp only [aP]
 refine catH 12 15 (strB (qS a)++⟨#[32]⟩++strB (itoa n)++⟨#[32]⟩) (strB (flagB q)) ?_
 refine hT 13 2 ?_
 refine rD0 ?_
 go_wp2_with fail
 go_ret
 exact ⟨by rw [HR.out];rfl,hB3⟩
theorem rexpr_any:∀(d:Nat) (e:RE) (w:World),okX d e=true→exIs d w (ltw w) e→e.nodes≤1048576→
  Calls prog 131 #[.agg e.enc.toArray] w (StO (jn (exI e)) w):=by
 intro d
 induction d with
 |zero=>intro e w h;simp [okX] at h
 |succ d ih=>
  intro e w hok hi hn
  have hle:=exI_le (d+1) e hok hn
  obtain ⟨op,it,⟨vk,vi,vs⟩,nm,ea,ec,eargs⟩:=e
  obtain ⟨hr,_,_,hia⟩:=hi
  simp only [okX,Bool.and_eq_true,decide_eq_true_eq,List.all_eq_true] at hok
  obtain ⟨h1,h2,hvv,hnm0,_,hoa⟩:=hok
  obtain ⟨z1,z2⟩:=RdE.bd hr
  have hsz:(jn (exI (.mk op it ⟨vk,vi,vs⟩ nm ea ec eargs))).length≤10000000000:=by
   have:=jn_len (exI (.mk op it ⟨vk,vi,vs⟩ nm ea ec eargs))
   omega
  rw [exI_eq] at hsz ⊢
  show Calls prog 131 #[.agg #[.int .i64 op,.int .i64 it,.int .i64 vk,.int .i64 vi,.string vs,.string nm,.slice ea eargs.length ec]] w _
  obtain ⟨T0,hT0⟩:=eN0 (jn [itoa op,itoa it,valB ⟨vk,vi,vs⟩,qS nm,itoa (eargs.length:Int)])
  have HJ:Hid (T0++eargs.flatMap (fun x=>32::jn (exI x))=jn ([itoa op,itoa it,valB ⟨vk,vi,vs⟩,qS nm]++lstI exI eargs)):=hI0 (by
   rw [hT0,←jn_flat (P:=[itoa op,itoa it,valB ⟨vk,vi,vs⟩,qS nm,itoa (eargs.length:Int)]) (f:=exI) (by simp) _ (fun x _=>exI_ne x)]
   rfl)
  have HL:Hid ((T0++eargs.flatMap (fun x=>32::jn (exI x))).length≤10000000000):=hI0 (by rw [HJ.out];exact hsz)
  have n1:(itoa op).length≤21:=itoa21 (by omega)
  have n2:(itoa it).length≤21:=itoa21 (by omega)
  have n3:=valB_len hvv
  have n4:=qS_len (Nat.le_trans hnm0 (by omega:49≤1000))
  have n5:(itoa (eargs.length:Int)).length≤21:=itoaN_len (by omega)
  have HS:Hid (strB (itoa op)++⟨#[32]⟩++strB (itoa it)++⟨#[32]⟩++strB (valB ⟨vk,vi,vs⟩)++⟨#[32]⟩++strB (qS nm)++⟨#[32]⟩++strB (itoa (eargs.length:Int))=strB T0):=hI0 (by
   rw [hT0]
   apply bas_eq
   simp only [bas_l,bas_s]
   rw [jn_cons (by simp),jn_cons (by simp),jn_cons (by simp),jn_cons (by simp),jn_one]
   simp)
  have H1:Hid (∀x∈eargs,∀W,Bl w W→Calls prog 131 #[.agg x.enc.toArray] W (StO (jn (exI x)) W)):=hI0 (fun x hx W hW=>ih x W (hoa x hx) (exIs_below hW d x (hia x hx)) (by
   simp only [RE.nodes,nodesL_sum] at hn
   have:=szL_mem (sz:=RE.nodes) hx
   unfold szL at this
   omega))
  have HO:Hid (-9223372036854775808≤op∧op≤9223372036854775807):=hI0 (by omega)
  have HI:Hid (-9223372036854775808≤it∧it≤9223372036854775807):=hI0 (by omega)
  have HNL:Hid (-9223372036854775808≤(eargs.length:Int)∧(eargs.length:Int)≤9223372036854775807):=hI0 (by omega)
  have HVV:Hid (∀W,Calls prog 129 #[.agg #[.int .i64 vk,.int .i64 vi,.string vs]] W fun e w'=>e=.returned (.string (strB (valB ⟨vk,vi,vs⟩)))∧Bl W w'):=hI0 (fun W=>rvalue_any ⟨vk,vi,vs⟩ W hvv)
  have HNM:Hid (nm.size≤1000):=hI0 (by omega)
  have HV:=hI0 hr
  have HX:Hid ((w.alloc (.cells #[.int .i64 op,.int .i64 it,.int .i64 vk,.int .i64 vi,.string vs,.string nm,.slice ea eargs.length ec] 117)).heap[w.heap.size]? =some (.cells #[.int .i64 op,.int .i64 it,.int .i64 vk,.int .i64 vi,.string vs,.string nm,.slice ea eargs.length ec] 117 (0,0))):=hI0 (heap_alloc_new w _)
  have HB:Hid (Bl w (w.alloc (.cells #[.int .i64 op,.int .i64 it,.int .i64 vk,.int .i64 vi,.string vs,.string nm,.slice ea eargs.length ec] 117))):=hI0 (Below.of_alloc _)
  generalize jn ([itoa op,itoa it,valB ⟨vk,vi,vs⟩,qS nm]++lstI exI eargs)=TX at *
  clear hle hsz hT0 hr hia hoa ih h1 h2 hvv hnm0 hn
  go_in
  go_wp2_with fail
  refine wp_region_noPanic ?_
  refine wp_region_held_drew (S:=(fun Y=>Y.heap[w.heap.size]? =some (.cells #[.int .i64 op,.int .i64 it,.int .i64 vk,.int .i64 vi,.string vs,.string nm,.slice ea eargs.length ec] 117 (0,0)))) (by kernel_rfl) ?_ (fun zh=>?_)
  ·exact HX.out
  refine hT 0 6 ?_
  refine hU 1 7 (v:=?_) zh ?_ ?_
  rotate_left
  ·intro w' hSw;(try dsimp only at hSw);have c0:=cW1 (v:=.int .i64 op) 0 hSw rfl;go_simp<;>with_reducible rfl
  refine hT 4 10 ?_
  refine hU 5 11 (v:=?_) zh ?_ ?_
  rotate_left
  ·intro w' hSw;(try dsimp only at hSw);have c1:=cW1 (v:=.int .i64 it) 1 hSw rfl;go_simp<;>with_reducible rfl
  refine hT 9 15 ?_
  refine hU 10 16 (v:=?_) zh ?_ ?_
  rotate_left
  ·intro w' hSw;(try dsimp only at hSw);have c2:=cW1 (v:=.int .i64 vk) 2 hSw rfl;have c3:=cW1 (v:=.int .i64 vi) 3 hSw rfl;have c4:=cW1 (v:=.string vs) 4 hSw rfl;go_simp<;>with_reducible rfl
  refine hT 14 20 ?_
  refine hU 15 21 (v:=?_) zh ?_ ?_
  rotate_left
  ·intro w' hSw;(try dsimp only at hSw);have c5:=cW1 (v:=.string nm) 5 hSw rfl;go_simp<;>with_reducible rfl
  refine hT 19 25 ?_
  refine hU 20 26 (v:=?_) zh ?_ ?_
  rotate_left
  ·intro w' hSw;(try dsimp only at hSw);have c6:=cW1 (v:=.slice ea eargs.length ec) 6 hSw rfl;go_simp<;>with_reducible rfl
  refine hT 21 27 ?_
  refine hC 2 8 ?_
  (with_reducible refine (rnum_any op _ HO.out.1 HO.out.2).mono ?_)
  rintro _ w1 ⟨rfl,hb1⟩
  have hB1:Bl w w1:=HB.out.drew.trans (hb1.mono HB.out.drew.size)
  refine ⟨_,rfl,keepAnd (keepRow hb1 zh) ?_⟩
  clear zh
  intro zh
  simp only [aP]
  refine catH 3 9 (strB (itoa op)) (⟨#[32]⟩) ?_
  refine hC 6 12 ?_
  (with_reducible refine (rnum_any it w1 HI.out.1 HI.out.2).mono ?_)
  rintro _ w2 ⟨rfl,hb2⟩
  have hB2:Bl w w2:=hB1.trans (hb2.mono hB1.size)
  refine ⟨_,rfl,keepAnd (keepRow hb2 zh) ?_⟩
  clear zh
  intro zh
  simp only [aP]
  refine catH 7 13 (strB (itoa op)++⟨#[32]⟩) (strB (itoa it)) ?_
  refine catH 8 14 (strB (itoa op)++⟨#[32]⟩++strB (itoa it)) (⟨#[32]⟩) ?_
  refine hC 11 17 ?_
  (with_reducible refine (HVV.out w2).mono ?_)
  rintro _ w3 ⟨rfl,hb3⟩
  have hB3:Bl w w3:=hB2.trans (hb3.mono hB2.size)
  refine ⟨_,rfl,keepAnd (keepRow hb3 zh) ?_⟩
  clear zh
  intro zh
  simp only [aP]
  refine catH 12 18 (strB (itoa op)++⟨#[32]⟩++strB (itoa it)++⟨#[32]⟩) (strB (valB ⟨vk,vi,vs⟩)) ?_
  refine catH 13 19 (strB (itoa op)++⟨#[32]⟩++strB (itoa it)++⟨#[32]⟩++strB (valB ⟨vk,vi,vs⟩)) (⟨#[32]⟩) ?_
  refine hC 16 22 ?_
  (with_reducible refine (rquote_any nm w3 HNM.out).mono ?_)
  rintro _ w4 ⟨rfl,hb4⟩
  have hB4:Bl w w4:=hB3.trans (hb4.mono hB3.size)
  refine ⟨_,rfl,keepAnd (keepRow hb4 zh) ?_⟩
  clear zh
  intro zh
  simp only [aP]
  refine catH 17 23 (strB (itoa op)++⟨#[32]⟩++strB (itoa it)++⟨#[32]⟩++strB (valB ⟨vk,vi,vs⟩)++⟨#[32]⟩) (strB (qS nm)) ?_
  refine catH 18 24 (strB (itoa op)++⟨#[32]⟩++strB (itoa it)++⟨#[32]⟩++strB (valB ⟨vk,vi,vs⟩)++⟨#[32]⟩++strB (qS nm)) (⟨#[32]⟩) ?_
  refine hC 22 28 ?_
  (with_reducible refine (rnum_any (eargs.length:Int) w4 HNL.out.1 HNL.out.2).mono ?_)
  rintro _ w5 ⟨rfl,hb5⟩
  have hB5:Bl w w5:=hB4.trans (hb5.mono hB4.size)
  refine ⟨_,rfl,keepAnd (keepRow hb5 zh) ?_⟩
  clear zh
  intro zh
  simp only [aP]
  refine catH 23 29 (strB (itoa op)++⟨#[32]⟩++strB (itoa it)++⟨#[32]⟩++strB (valB ⟨vk,vi,vs⟩)++⟨#[32]⟩++strB (qS nm)++⟨#[32]⟩) (strB (itoa (eargs.length:Int))) ?_
  refine hT 24 3 ?_
  refine rD0 ?_
  have HB0:=hI0 hB5
  have c6:=cW1 6 zh rfl
  clear hB1 hB2 hB3 hB4 hB5 hb1 hb2 hb3 hb4 hb5 zh HX HB
  generalize strB (itoa op)++⟨#[32]⟩++strB (itoa it)++⟨#[32]⟩++strB (valB ⟨vk,vi,vs⟩)++⟨#[32]⟩++strB (qS nm)++⟨#[32]⟩++strB (itoa (eargs.length:Int))=s3 at *
  go_wp2_with fail
  clear c6
  go_loopw [3,33] (fun o i wr=>∃k:Nat,o=.string (strB (T0++(eargs.take k).flatMap (fun x=>32::jn (exI x))))∧i=.int .i64 (k:Int)∧k≤eargs.length∧Hid (Bl w5 wr)) (fun _ i _=>eargs.length-(intOf i).toNat)
  case atStart=>exact ⟨0,by rw [HS.out];simp,rfl,Nat.zero_le _,hI0 (Below.refl _ _)⟩
  obtain ⟨k,rfl,rfl,hk,HW⟩:=hrel
  obtain ⟨wi,rfl⟩:=eN0 wr
  have HWw:Hid (Bl w wi):=hI0 (HB0.out.trans (HW.out.mono HB0.out.size))
  by_cases hlt:k<eargs.length
  case neg=>
   have HF:Hid (strB (T0++(eargs.take k).flatMap (fun x=>32::jn (exI x)))=strB (T0++eargs.flatMap (fun x=>32::jn (exI x)))):=hI0 (by rw [List.take_of_length_le (by omega)])
   rw [HF.out]
   clear HF
   go_wp2_with fail
   go_ret
   exact ⟨by rw [←HJ.out];rfl,HWw.out⟩
  obtain ⟨b2,off,hA,hF,hc⟩:=RdE.at_ (K:=7) (enc:=RE.enc) RE.enc_length (by omega) (HV.out.keep (Keeps.below HWw.out)) hlt
  have hq:=hc k hlt
  have hst:=takeA (g:=(fun x=>32::jn (exI x))) hlt
  obtain ⟨hso,hsv⟩:=fitG (g:=(fun x=>32::jn (exI x))) hlt HL.out
  have h1x:=H1.out eargs[k] (List.getElem_mem hlt)
  clear hc
  subst hA
  generalize eargs[k]=x at *
  have HST:Hid (strB (T0++(eargs.take (k+1)).flatMap (fun x=>32::jn (exI x)))=strB (T0++(eargs.take k).flatMap (fun x=>32::jn (exI x)))++((⟨#[32]⟩:ByteArray)++strB (jn (exI x)))):=hI0 (bas_sp (by rw [hst,←List.append_assoc]<;>rfl))
  clear hst
  generalize strB (T0++(eargs.take k).flatMap (fun x=>32::jn (exI x)))=so at *
  obtain ⟨op2,it2,⟨vk2,vi2,vs2⟩,nm2,A2,c2,args2⟩:=x
  have g0:wi.cell? ⟨b2,off+k*7,none⟩=some (.int .i64 op2):=hq 0 _ (by omega) rfl
  have g1:wi.cell? ⟨b2,off+k*7+1,none⟩=some (.int .i64 it2):=hq 1 _ (by omega) rfl
  have g2:wi.cell? ⟨b2,off+k*7+2,none⟩=some (.int .i64 vk2):=hq 2 _ (by omega) rfl
  have g3:wi.cell? ⟨b2,off+k*7+3,none⟩=some (.int .i64 vi2):=hq 3 _ (by omega) rfl
  have g4:wi.cell? ⟨b2,off+k*7+4,none⟩=some (.string vs2):=hq 4 _ (by omega) rfl
  have g5:wi.cell? ⟨b2,off+k*7+5,none⟩=some (.string nm2):=hq 5 _ (by omega) rfl
  have g6:wi.cell? ⟨b2,off+k*7+6,none⟩=some (.slice A2 args2.length c2):=hq 6 _ (by omega) rfl
  clear hq
  have hW1:Bl wi (wi.alloc (.cells #[.int .i64 op2,.int .i64 it2,.int .i64 vk2,.int .i64 vi2,.string vs2,.string nm2,.slice A2 args2.length c2] 117)):=Below.of_alloc _
  have KV:Hid (Calls prog 131 #[.agg #[.int .i64 op2,.int .i64 it2,.int .i64 vk2,.int .i64 vi2,.string vs2,.string nm2,.slice A2 args2.length c2]] (wi.alloc (.cells #[.int .i64 op2,.int .i64 it2,.int .i64 vk2,.int .i64 vi2,.string vs2,.string nm2,.slice A2 args2.length c2] 117)) (StO (jn (exI (RE.mk op2 it2 ⟨vk2,vi2,vs2⟩ nm2 A2 c2 args2))) (wi.alloc (.cells #[.int .i64 op2,.int .i64 it2,.int .i64 vk2,.int .i64 vi2,.string vs2,.string nm2,.slice A2 args2.length c2] 117)))):=hI0 (h1x (wi.alloc (.cells #[.int .i64 op2,.int .i64 it2,.int .i64 vk2,.int .i64 vi2,.string vs2,.string nm2,.slice A2 args2.length c2] 117)) (bU0 HWw hW1))
  have HW1:=bT0 HW hW1
  have hvs:(strB (jn (exI (RE.mk op2 it2 ⟨vk2,vi2,vs2⟩ nm2 A2 c2 args2)))).size≤10000000000:=strB_sz (Nat.le_of_succ_le (show (jn (exI (RE.mk op2 it2 ⟨vk2,vi2,vs2⟩ nm2 A2 c2 args2))).length+1≤10000000000 from hsv))
  clear h1x hW1 hsv
  go_wp2_with fail
  clear g0 g1 g2 g3 g4 g5 g6
  (with_reducible refine KV.out.mono ?_)
  rintro _ w2 ⟨rfl,hb2⟩
  have HW2:=bT0 HW1 hb2
  generalize strB (jn (exI (RE.mk op2 it2 ⟨vk2,vi2,vs2⟩ nm2 A2 c2 args2)))=vs at *
  have hz1:(⟨#[32]⟩:ByteArray).size+vs.size≤9223372036854775807:=by simp only [bas_mk,List.size_toArray,List.length_cons,List.length_nil];omega
  have hz2:so.size+((⟨#[32]⟩:ByteArray)++vs).size≤9223372036854775807:=by simp only [bas_app,bas_mk,List.size_toArray,List.length_cons,List.length_nil];omega
  clear hb2 KV
  go_wp2_with fail
  go_roundw
  case rel=>exact ⟨k+1,by rw [HST.out],by go_num,by omega,HW2⟩
  case measure=>simp [intOf];omega
end Go.Proofs.YtgfhknnklapldaaGreatDoor
