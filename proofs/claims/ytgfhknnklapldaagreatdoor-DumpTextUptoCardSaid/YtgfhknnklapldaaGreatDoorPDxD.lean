/-
 The law DumpText.
-/
import Derived.Test.YtgfhknnklapldaaGreatDoorPDxC
import Derived.Test.YtgfhknnklapldaaGreatDoorPDuR
namespace Go.Proofs.YtgfhknnklapldaaGreatDoor
open Go.Proofs.Tryz
set_option maxRecDepth 99999
set_option maxHeartbeats 0
open Go.RowKit Go.Lib Go.IntWalk Go.Sort Go.Shelf
def BetN (b:Int) (w:World) (e:Ending) (w':World):Prop:=∃n:Int,e=.returned (.int .i64 n)∧1≤n∧n≤b∧Bl w w'
def BoO (w:World) (e:Ending) (w':World):Prop:=∃b:Bool,e=.returned (.bool b)∧Bl w w'
theorem exBelow {w w':World} {e:RE} (h:exAll w (ltw w) e) (hb:Bl w w'):exAll w' (ltw w') e:=fun d=>exIs_below hb d e (h d)
theorem exArgs {w:World} {F:Nat→Prop} {op it:Int} {v:Val} {nm:ByteArray} {A:Option Addr} {c:Nat} {args:List RE} (h:exAll w F (.mk op it v nm A c args)):RdE 7 RE.enc w F (.slice A args.length c) args∧∀a∈args,exAll w F a:=
 ⟨(h 1).1,fun a ha d=>(h (d+1)).2.2.2 a ha⟩
theorem lsize_any:∀(most:Nat) (e:RE) (mi:Int) (w:World),mi=most→most≤40→exAll w (ltw w) e→Calls prog 45 #[.agg e.enc.toArray,.int .i64 mi] w (BetN (1000+300*most) w):=by
 intro most
 induction most with
 |zero=>
  intro e mi w hmi _ _
  obtain ⟨op,it,⟨vk,vi,vs⟩,nm,A,c,args⟩:=e
  obtain rfl:mi=0:=hmi
  show Calls prog 45 #[.agg #[.int .i64 op,.int .i64 it,.int .i64 vk,.int .i64 vi,.string vs,.string nm,.slice A args.length c],.int .i64 0] w _
  go_in
  go_wp2_with fail
  go_ret
  exact ⟨1000,rfl,by omega,by omega,Below.of_alloc _⟩
 |succ most ih=>
  intro e mi w hmi h40 he
  obtain ⟨op,it,⟨vk,vi,vs⟩,nm,A,c,args⟩:=e
  have HAL:=hI0 (exArgs he)
  have IH:=hI0 ih
  obtain ⟨n1,n2⟩:=RdE.bd HAL.out.1
  show Calls prog 45 #[.agg #[.int .i64 op,.int .i64 it,.int .i64 vk,.int .i64 vi,.string vs,.string nm,.slice A args.length c],.int .i64 mi] w _
  have hm0:(mi==0)=false:=by rw [beq_eq_false_iff_ne];omega
  have hm1:mi-1≤9223372036854775807:=by omega
  have hm2: -9223372036854775808≤mi-1:=by omega
  have HMI:=hI0 hmi
  have H40:=hI0 h40
  have HX0:Hid ((w.alloc (.cells #[.int .i64 op,.int .i64 it,.int .i64 vk,.int .i64 vi,.string vs,.string nm,.slice A args.length c] 117)).heap[w.heap.size]? =some (.cells #[.int .i64 op,.int .i64 it,.int .i64 vk,.int .i64 vi,.string vs,.string nm,.slice A args.length c] 117 (0,0))):=hI0 (heap_alloc_new w _)
  have HB0:Hid (Bl w (w.alloc (.cells #[.int .i64 op,.int .i64 it,.int .i64 vk,.int .i64 vi,.string vs,.string nm,.slice A args.length c] 117))):=hI0 (Below.of_alloc _)
  clear ih he hmi h40
  go_in
  go_wp2_with fail
  go_loopw [5,6] (fun n i wr=>∃(m:Int) (k:Nat),n=.int .i64 m∧i=.int .i64 (k:Int)∧k≤args.length∧(1≤m∧m≤1000+300*((most:Int)+1))∧Hid (Bl w wr)∧Hid (wr.heap[w.heap.size]? =some (.cells #[.int .i64 op,.int .i64 it,.int .i64 vk,.int .i64 vi,.string vs,.string nm,.slice A args.length c] 117 (0,0)))) (fun _ i _=>args.length-(intOf i).toNat)
  case atStart=>exact ⟨1,0,rfl,rfl,Nat.zero_le _,by omega,HB0,HX0⟩
  obtain ⟨m,k,rfl,rfl,hk,⟨hm3,hm4⟩,HW,HX⟩:=hrel
  obtain ⟨wi,rfl⟩:=eN0 wr
  have h40:=H40.out
  have c6:=cW1 6 HX.out rfl
  by_cases hlt:k<args.length
  case neg=>
   have hn:¬(k:Int)<(args.length:Int):=by omega
   go_wp2_with fail
   go_ret
   exact ⟨m,rfl,by omega,by push_cast;omega,HW.out⟩
  have hlt2:(k:Int)<(args.length:Int):=by omega
  by_cases h300:m≤300
  case neg=>
   go_wp2_with fail
   go_ret
   exact ⟨m,rfl,by omega,by push_cast;omega,HW.out⟩
  obtain ⟨b2,off,hA,hF,hc⟩:=RdE.at_ (K:=7) (enc:=RE.enc) RE.enc_length (by omega) (HAL.out.1.keep (Keeps.below HW.out)) hlt
  have hq:=hc k hlt
  have hmem:=List.getElem_mem hlt
  clear hc
  subst hA
  generalize args[k]=x at *
  have KX:=IH.out x (mi-1) wi (by have:=HMI.out;omega) (by omega) (exBelow (HAL.out.2 _ hmem) HW.out)
  obtain ⟨op2,it2,⟨vk2,vi2,vs2⟩,nm2,A2,c2,args2⟩:=x
  obtain ⟨g0,g1,g2,g3,g4,g5,g6⟩:=cK7 hq (show _=[.int .i64 op2,.int .i64 it2,.int .i64 vk2,.int .i64 vi2,.string vs2,.string nm2,.slice A2 args2.length c2] from rfl)
  clear hq hmem
  have KX2:Hid (Calls prog 45 #[.agg #[.int .i64 op2,.int .i64 it2,.int .i64 vk2,.int .i64 vi2,.string vs2,.string nm2,.slice A2 args2.length c2],.int .i64 (mi-1)] wi (BetN (1000+300*most) wi)):=hI0 KX
  clear KX
  go_wp2_with fail
  clear g0 g1 g2 g3 g4 g5 g6 c6
  (with_reducible refine KX2.out.mono ?_)
  rintro _ w2 ⟨r,rfl,hr1,hr2,hb2⟩
  have HX2:=hI0 (keepRow hb2 HX.out)
  have HW2:=bT0 HW hb2
  have hov:m+r≤9223372036854775807:=by omega
  have hov2: -9223372036854775808≤m+r:=by omega
  clear hb2 KX2
  go_wp2_with fail
  go_roundw
  case rel=>exact ⟨_,k+1,rfl,by go_num,by omega,by omega,HW2,HX2⟩
  case measure=>simp [intOf];omega
theorem lentries_any (v:Value) (l:List REn) (w:World) (hv:RdE 16 REn.enc w (ltw w) v l) (hi:∀x∈l,x.create.is w (ltw w)) (hx:∀x∈l,∀e∈x.create.chks,exAll w (ltw w) e):Calls prog 19 #[v] w (BoO w):=by
 obtain ⟨A,c,rfl,hc1,hc2,hc3⟩:=Rd.open_ (show Rd w _ 16 v l.length (l.flatMap REn.enc) from hv)
 unfold maxLen at hc2
 have HV:=hI0 hv
 have HI:=hI0 hi
 have HXX:=hI0 hx
 clear hv hi hx hc3
 go_in
 go_wp2_with fail
 go_loopw [3] (fun i wr=>∃k:Nat,i=.int .i64 (k:Int)∧k≤l.length∧Hid (Bl w wr)) (fun i _=>l.length-(intOf i).toNat)
 case atStart=>exact ⟨0,rfl,Nat.zero_le _,hI0 (Below.refl _ _)⟩
 obtain ⟨k,rfl,hk,HW⟩:=hrel
 obtain ⟨wi,rfl⟩:=eN0 wr
 by_cases hlt:k<l.length
 case neg=>
  have hlt2:¬(k:Int)<(l.length:Int):=by omega
  go_wp2_with fail
  go_ret
  exact ⟨_,rfl,HW.out⟩
 have hlt2:(k:Int)<(l.length:Int):=by omega
 by_cases h20:k<20
 case neg=>
  have h21:¬(k:Int)<20:=by omega
  go_wp2_with fail
  go_ret
  exact ⟨_,rfl,HW.out⟩
 have h21:(k:Int)<20:=by omega
 obtain ⟨b2,off,hA,hF,hc⟩:=RdE.at_ (K:=16) (enc:=REn.enc) (fun _=>rfl) (by omega) (HV.out.keep (Keeps.below HW.out)) hlt
 have hq:=hc k hlt
 have hmem:=List.getElem_mem hlt
 have hti:=HI.out _ hmem
 have htx:=HXX.out _ hmem
 clear hc hmem
 subst hA
 generalize l[k]=x at *
 obtain ⟨tm,tb,⟨tn,tcA,tcC,tcols,tkA,tkC,tkey,tfA,tfC,tfors,thA,thC,tchks⟩,⟨ck,cn,cto,cc,cq,cb,⟨dk,di,ds⟩⟩⟩:=x
 simp only at hti htx
 have HCK:Hid (RdE 7 RE.enc w (ltw w) (.slice thA tchks.length thC) tchks):=hI0 hti.chks
 have HCX:=hI0 htx
 obtain ⟨a1,a2⟩:=RdE.bd hti.cols
 obtain ⟨b1,b2'⟩:=RdE.bd hti.key
 obtain ⟨d1,d2⟩:=RdE.bd hti.fors
 obtain ⟨f1,f2⟩:=RdE.bd hti.chks
 simp only at a1 a2 b1 b2' d1 d2 f1 f2
 have g0:wi.cell? ⟨b2,off+k*16+2,none⟩=some (.string tn):=by have:=hq 2 (.string tn) (by decide) rfl;simpa [Nat.add_assoc] using this
 have g1:wi.cell? ⟨b2,off+k*16+2+1,none⟩=some (.slice tcA tcols.length tcC):=by have:=hq 3 (.slice tcA tcols.length tcC) (by decide) rfl;simpa [Nat.add_assoc] using this
 have g2:wi.cell? ⟨b2,off+k*16+2+2,none⟩=some (.slice tkA tkey.length tkC):=by have:=hq 4 (.slice tkA tkey.length tkC) (by decide) rfl;simpa [Nat.add_assoc] using this
 have g3:wi.cell? ⟨b2,off+k*16+2+3,none⟩=some (.slice tfA tfors.length tfC):=by have:=hq 5 (.slice tfA tfors.length tfC) (by decide) rfl;simpa [Nat.add_assoc] using this
 have g4:wi.cell? ⟨b2,off+k*16+2+4,none⟩=some (.slice thA tchks.length thC):=by have:=hq 6 (.slice thA tchks.length thC) (by decide) rfl;simpa [Nat.add_assoc] using this
 clear hq hti htx
 obtain ⟨W1,hW1⟩:=eN0 (wi.alloc (.cells #[.string tn,.slice tcA tcols.length tcC,.slice tkA tkey.length tkC,.slice tfA tfors.length tfC,.slice thA tchks.length thC] 73))
 have hbW1:=bN0 hW1
 have hnW1:=hN0 hW1
 have eW1:wi.alloc (.cells #[.string tn,.slice tcA tcols.length tcC,.slice tkA tkey.length tkC,.slice tfA tfors.length tfC,.slice thA tchks.length thC] 73)=W1:=by rw [hW1]
 clear hW1
 have HX1:=hI0 hnW1
 have HW1:=bT0 HW hbW1
 have t1:=cW1 1 hnW1 rfl
 have t2:=cW1 2 hnW1 rfl
 have t3:=cW1 3 hnW1 rfl
 have t4:=cW1 4 hnW1 rfl
 clear hbW1 hnW1
 by_cases u0:(20:Int)<(tcols.length:Int)
 case pos=>
  have v0:20<tcols.length:=by omega
  go_wp2_with fail
  go_ret
  exact ⟨_,rfl,HW1.out⟩
 have v0:¬ 20<tcols.length:=by omega
 by_cases u1:(20:Int)<(tkey.length:Int)
 case pos=>
  have v1:20<tkey.length:=by omega
  go_wp2_with fail
  go_ret
  exact ⟨_,rfl,HW1.out⟩
 have v1:¬ 20<tkey.length:=by omega
 by_cases u2:(10:Int)<(tfors.length:Int)
 case pos=>
  have v2:10<tfors.length:=by omega
  go_wp2_with fail
  go_ret
  exact ⟨_,rfl,HW1.out⟩
 have v2:¬ 10<tfors.length:=by omega
 by_cases u3:(10:Int)<(tchks.length:Int)
 case pos=>
  have v3:10<tchks.length:=by omega
  go_wp2_with fail
  go_ret
  exact ⟨_,rfl,HW1.out⟩
 have v3:¬ 10<tchks.length:=by omega
 go_wp2_with fail
 clear t1 t2 t3 t4 u0 u1 u2 u3 v0 v1 v2 v3 eW1 g0 g1 g2 g3 g4
 have HLK:=hI0 hlt
 have HKK:=hI0 hk
 go_loopw [47] (fun i wr=>∃j:Nat,i=.int .i64 (j:Int)∧j≤tchks.length∧Hid (Bl w wr)) (fun i _=>tchks.length-(intOf i).toNat)
 case atStart=>exact ⟨0,rfl,Nat.zero_le _,HW1⟩
 clear hlt hk
 obtain ⟨j,rfl,hj,HBj⟩:=hrel
 obtain ⟨wj,rfl⟩:=eN0 wr
 by_cases hlt:j<tchks.length
 case neg=>
  have hlt2:¬(j:Int)<(tchks.length:Int):=by omega
  have hkl:=HLK.out
  have hkl2:(k:Int)+1≤9223372036854775807:=by omega
  go_wp2_with fail
  go_roundw
  case rel=>exact ⟨k+1,by go_num,by have:=HLK.out;omega,HBj⟩
  case measure=>have:=HLK.out;simp [intOf];omega
 have hlt2:(j:Int)<(tchks.length:Int):=by omega
 obtain ⟨b3,off3,hA,hF,hc⟩:=RdE.at_ (K:=7) (enc:=RE.enc) RE.enc_length (by omega) (HCK.out.keep (Keeps.below HBj.out)) hlt
 have hq:=hc j hlt
 have hmem:=List.getElem_mem hlt
 clear hc
 subst hA
 generalize tchks[j]=x at *
 have KX:=fun (V:World) (hV:Bl w V)=>lsize_any 40 x 40 V rfl (by omega) (exBelow (HCX.out _ hmem) hV)
 obtain ⟨op2,it2,⟨vk2,vi2,vs2⟩,nm2,A2,c2,args2⟩:=x
 obtain ⟨g0,g1,g2,g3,g4,g5,g6⟩:=cK7 hq (show _=[.int .i64 op2,.int .i64 it2,.int .i64 vk2,.int .i64 vi2,.string vs2,.string nm2,.slice A2 args2.length c2] from rfl)
 clear hq hmem
 obtain ⟨W3,hW3⟩:=eN0 (wj.alloc (.cells #[.int .i64 op2,.int .i64 it2,.int .i64 vk2,.int .i64 vi2,.string vs2,.string nm2,.slice A2 args2.length c2] 117))
 have hbW3:=bN0 hW3
 have hnW3:=hN0 hW3
 have eW3:wj.alloc (.cells #[.int .i64 op2,.int .i64 it2,.int .i64 vk2,.int .i64 vi2,.string vs2,.string nm2,.slice A2 args2.length c2] 117)=W3:=by rw [hW3]
 clear hW3
 have HW3:=bT0 HBj hbW3
 have HX3:=hI0 hnW3
 have KX2:Hid (Calls prog 45 #[.agg #[.int .i64 op2,.int .i64 it2,.int .i64 vk2,.int .i64 vi2,.string vs2,.string nm2,.slice A2 args2.length c2],.int .i64 40] W3 (BetN (1000+300*((40:Nat):Int)) W3)):=hI0 (KX W3 HW3.out)
 obtain ⟨q0,q1,q2,q3,q4,q5,q6⟩:=cX7 hnW3
 clear hbW3 hnW3 KX
 go_wp2_with fail
 clear eW3 g0 g1 g2 g3 g4 g5 g6 q0 q1 q2 q3 q4 q5 q6
 (with_reducible refine KX2.out.mono ?_)
 rintro _ w4 ⟨r,rfl,hr1,hr2,hb4⟩
 have HB4:=bT0 HW3 hb4
 clear hb4 KX2 hr1 hr2
 by_cases hr:300<r
 case pos=>
  go_wp2_with fail
  go_ret
  exact ⟨_,rfl,HB4.out⟩
 go_wp2_with fail
 go_roundw
 case rel=>exact ⟨j+1,by go_num,hlt,HB4⟩
 case measure=>simp [intOf];omega
theorem lsmall_any (c:RSt) (w:World) (hc:c.is w (ltw w)) (hlm:c.lim w):Calls prog 8 #[.agg c.enc.toArray] w (BoO w):=by
 have HE:Hid (∀W,Bl w W→Calls prog 19 #[.slice c.eA c.ents.length c.eC] W (BoO W)):=hI0 fun W hW=>lentries_any _ c.ents W (hc.ents.below hW) (fun x hx=>((hc.entI x hx).below hW).create) (fun x hx e he=>exBelow (hlm.exps x hx e he).1 hW)
 have HT:=hI0 hc.tabs
 have HTI:=hI0 hc.tabI
 have n1:=hlm.ents
 have n2:=hlm.stms
 have n3:=hlm.tabs
 have n4:=hlm.pla
 have n5:=hlm.pol
 have n6:=hlm.hor
 clear hc hlm
 obtain ⟨ctx,ctm,cwl,cnx,ceA,ceC,cents,csA,csC,cstms,ctA,ctC,ctabs,cpA,cpC,cpla,cqA,cqC,cpol,chA,chC,chor⟩:=c
 simp only at HE HT HTI n1 n2 n3 n4 n5 n6
 show Calls prog 8 #[.agg #[.int .i64 ctx,.int .i64 ctm,.int .i64 cwl,.int .i64 cnx,.slice ceA cents.length ceC,.slice csA cstms.length csC,.slice ctA ctabs.length ctC,.slice cpA cpla.length cpC,.slice cqA cpol.length cqC,.slice chA chor.length chC]] w _
 obtain ⟨W,hW⟩:=eN0 (w.alloc (.cells #[.int .i64 ctx,.int .i64 ctm,.int .i64 cwl,.int .i64 cnx,.slice ceA cents.length ceC,.slice csA cstms.length csC,.slice ctA ctabs.length ctC,.slice cpA cpla.length cpC,.slice cqA cpol.length cqC,.slice chA chor.length chC] 29))
 have hbW:=bN0 hW
 have hnW:=hN0 hW
 have eW:w.alloc (.cells #[.int .i64 ctx,.int .i64 ctm,.int .i64 cwl,.int .i64 cnx,.slice ceA cents.length ceC,.slice csA cstms.length csC,.slice ctA ctabs.length ctC,.slice cpA cpla.length cpC,.slice cqA cpol.length cqC,.slice chA chor.length chC] 29)=W:=by rw [hW]
 clear hW
 have HB0:=hI0 hbW
 have HX0:=hI0 hnW
 have c5:=cW1 5 hnW rfl
 have c6:=cW1 6 hnW rfl
 have c7:=cW1 7 hnW rfl
 have c8:=cW1 8 hnW rfl
 have c9:=cW1 9 hnW rfl
 have i1:(cstms.length:Int)+(ctabs.length:Int)≤9223372036854775807:=by omega
 have i2:(cstms.length:Int)+(ctabs.length:Int)+(cpla.length:Int)≤9223372036854775807:=by omega
 have i3:(cstms.length:Int)+(ctabs.length:Int)+(cpla.length:Int)+(cpol.length:Int)≤9223372036854775807:=by omega
 have i4:(cstms.length:Int)+(ctabs.length:Int)+(cpla.length:Int)+(cpol.length:Int)+(chor.length:Int)≤9223372036854775807:=by omega
 clear hbW hnW
 go_in
 go_wp2_with fail
 clear eW i1 i2 i3 i4 c5 c6 c7 c8 c9
 generalize (cstms.length:Int)+(ctabs.length:Int)+(cpla.length:Int)+(cpol.length:Int)+(chor.length:Int)=nn at *
 go_loopw [4] (fun i wr=>∃k:Nat,i=.int .i64 (k:Int)∧k≤ctabs.length∧Hid (Bl w wr)∧Hid (wr.heap[w.heap.size]? =some (.cells #[.int .i64 ctx,.int .i64 ctm,.int .i64 cwl,.int .i64 cnx,.slice ceA cents.length ceC,.slice csA cstms.length csC,.slice ctA ctabs.length ctC,.slice cpA cpla.length cpC,.slice cqA cpol.length cqC,.slice chA chor.length chC] 29 (0,0)))) (fun i _=>ctabs.length-(intOf i).toNat)
 case atStart=>exact ⟨0,rfl,Nat.zero_le _,HB0,HX0⟩
 obtain ⟨k,rfl,hk,HW,HX⟩:=hrel
 obtain ⟨wi,rfl⟩:=eN0 wr
 have c6:=cW1 6 HX.out rfl
 have c4:=cW1 4 HX.out rfl
 have KE:=hI0 (HE.out wi HW.out)
 by_cases h100:nn≤100
 case neg=>
  by_cases hlt:k<ctabs.length
  case neg=>
   have hlt2:¬(k:Int)<(ctabs.length:Int):=by omega
   go_wp2_with fail
   go_ret
   exact ⟨_,rfl,HW.out⟩
  have hlt2:(k:Int)<(ctabs.length:Int):=by omega
  go_wp2_with fail
  go_ret
  exact ⟨_,rfl,HW.out⟩
 by_cases hlt:k<ctabs.length
 case neg=>
  have hlt2:¬(k:Int)<(ctabs.length:Int):=by omega
  go_wp2_with fail
  clear c4 c6
  (with_reducible refine KE.out.mono ?_)
  rintro _ w2 ⟨r,rfl,hb2⟩
  have HB2:=bT0 HW hb2
  clear hb2 KE
  go_wp2_with fail
  go_ret
  exact ⟨_,rfl,HB2.out⟩
 have hlt2:(k:Int)<(ctabs.length:Int):=by omega
 clear KE c4
 obtain ⟨b2,off,hA,hF,hc⟩:=RdE.at_ (K:=2) (enc:=RTv.enc) (fun _=>rfl) (by omega) (HT.out.keep (Keeps.below HW.out)) hlt
 have hq:=hc k hlt
 have hti:=(HTI.out _ (List.getElem_mem hlt)).below HW.out
 clear hc
 subst hA
 generalize ctabs[k]=x at *
 obtain ⟨xn,xA,xC,xvs⟩:=x
 have g1:wi.cell? ⟨b2,off+k*2+1,none⟩=some (.slice xA xvs.length xC):=hq 1 _ (by decide) rfl
 have KV:=hI0 (versions_any xA xC xvs wi hti)
 clear hq hti
 go_wp2_with fail
 clear g1 c6
 (with_reducible refine KV.out.mono ?_)
 rintro _ w2 ⟨⟨q,rfl,-⟩,hb2⟩
 have HB2:=bT0 HW hb2
 have HX2:=hI0 (keepRow hb2 HX.out)
 clear hb2 KV
 cases q
 case false=>
  go_wp2_with fail
  go_ret
  exact ⟨_,rfl,HB2.out⟩
 go_wp2_with fail
 go_roundw
 case rel=>exact ⟨k+1,by go_num,by omega,HB2,HX2⟩
 case measure=>simp [intOf];omega
theorem lawText_any (c:RSt) (w:World) (he:EnvD w) (hc:c.is w (ltw w)) (hl:c.lim w):
  Calls prog 3 #[.agg c.enc.toArray] w fun e w'=>e=.returned (.bool true)∧Bl w w':=by
 have KW:Hid (∀W,Bl w W→Calls prog 9 #[] W fun e w'=>e=.returned (.bool true)∧Bl W w'):=hI0 (fun W hb=>works_any W (he.below hb))
 have KS:Hid (∀W,Bl w W→Calls prog 8 #[.agg c.enc.toArray] W (BoO W)):=hI0 (fun W hb=>lsmall_any c W (hc.below hb) (hl.below hb))
 have KD:Hid (∀W,Bl w W→Calls prog 10 #[.agg c.enc.toArray] W (TxOut c W)):=hI0 (fun W hb=>dtext_any c W (he.below hb) (hc.below hb) (hl.below hb))
 have KR:Hid (∀W,Bl w W→Calls prog 11 #[.agg c.enc.toArray] W (TxOut c W)):=hI0 (fun W hb=>rtext_any c W (hc.below hb) (hl.below hb))
 unfold TxOut at KD KR
 generalize txT c=tx at *
 generalize stateF c=er at *
 generalize strB tx=st at *
 clear he hc hl
 have hTS:(st.toList==st.toList)=true:=by simp
 obtain ⟨ctx,ctm,cwl,cnx,ceA,ceC,cents,csA,csC,cstms,ctA,ctC,ctabs,cpA,cpC,cpla,cqA,cqC,cpol,chA,chC,chor⟩:=c
 have KS':Hid (∀W,Bl w W→Calls prog 8 #[.agg #[.int .i64 ctx,.int .i64 ctm,.int .i64 cwl,.int .i64 cnx,.slice ceA cents.length ceC,.slice csA cstms.length csC,.slice ctA ctabs.length ctC,.slice cpA cpla.length cpC,.slice cqA cpol.length cqC,.slice chA chor.length chC]] W (BoO W)):=KS
 have KD':Hid (∀W,Bl w W→Calls prog 10 #[.agg #[.int .i64 ctx,.int .i64 ctm,.int .i64 cwl,.int .i64 cnx,.slice ceA cents.length ceC,.slice csA cstms.length csC,.slice ctA ctabs.length ctC,.slice cpA cpla.length cpC,.slice cqA cpol.length cqC,.slice chA chor.length chC]] W (fun e w'=>e=.returned (.tuple #[.string st,.int .i64 er])∧Bl W w')):=KD
 have KR':Hid (∀W,Bl w W→Calls prog 11 #[.agg #[.int .i64 ctx,.int .i64 ctm,.int .i64 cwl,.int .i64 cnx,.slice ceA cents.length ceC,.slice csA cstms.length csC,.slice ctA ctabs.length ctC,.slice cpA cpla.length cpC,.slice cqA cpol.length cqC,.slice chA chor.length chC]] W (fun e w'=>e=.returned (.tuple #[.string st,.int .i64 er])∧Bl W w')):=KR
 clear KS KD KR
 show Calls prog 3 #[.agg #[.int .i64 ctx,.int .i64 ctm,.int .i64 cwl,.int .i64 cnx,.slice ceA cents.length ceC,.slice csA cstms.length csC,.slice ctA ctabs.length ctC,.slice cpA cpla.length cpC,.slice cqA cpol.length cqC,.slice chA chor.length chC]] w _
 obtain ⟨W1,hW1⟩:=eN0 (w.alloc (.cells #[.int .i64 ctx,.int .i64 ctm,.int .i64 cwl,.int .i64 cnx,.slice ceA cents.length ceC,.slice csA cstms.length csC,.slice ctA ctabs.length ctC,.slice cpA cpla.length cpC,.slice cqA cpol.length cqC,.slice chA chor.length chC] 29))
 have hbW1:=bN0 hW1
 have hnW1:=hN0 hW1
 have eW1:w.alloc (.cells #[.int .i64 ctx,.int .i64 ctm,.int .i64 cwl,.int .i64 cnx,.slice ceA cents.length ceC,.slice csA cstms.length csC,.slice ctA ctabs.length ctC,.slice cpA cpla.length cpC,.slice cqA cpol.length cqC,.slice chA chor.length chC] 29)=W1:=by rw [hW1]
 clear hW1
 have HB1:=hI0 hbW1
 have HX1:=hI0 hnW1
 have K1:=hI0 (KS'.out W1 HB1.out)
 obtain ⟨a0,a1,a2,a3,a4,a5,a6,a7,a8,a9⟩:=cX10 hnW1
 clear hbW1 hnW1
 go_in
 go_wp2_with fail
 clear eW1 a0 a1 a2 a3 a4 a5 a6 a7 a8 a9
 (with_reducible refine K1.out.mono ?_)
 rintro _ w2 ⟨q,rfl,hb2⟩
 have HB2:=bT0 HB1 hb2
 have HX2:=hI0 (keepRow hb2 HX1.out)
 clear hb2 K1
 cases q
 case false=>
  go_wp2_with fail
  (with_reducible refine (KW.out w2 HB2.out).mono ?_)
  rintro _ w3 ⟨rfl,hb3⟩
  have HB3:=bT0 HB2 hb3
  go_wp2_with fail
  go_ret
  exact ⟨rfl,HB3.out⟩
 have K2:=hI0 (KD'.out w2 HB2.out)
 obtain ⟨a0,a1,a2,a3,a4,a5,a6,a7,a8,a9⟩:=cX10 HX2.out
 go_wp2_with fail
 clear a0 a1 a2 a3 a4 a5 a6 a7 a8 a9
 (with_reducible refine K2.out.mono ?_)
 rintro _ w3 ⟨rfl,hb3⟩
 have HB3:=bT0 HB2 hb3
 have HX3:=hI0 (keepRow hb3 HX2.out)
 have K3:=hI0 (KR'.out w3 HB3.out)
 clear hb3 K2
 obtain ⟨a0,a1,a2,a3,a4,a5,a6,a7,a8,a9⟩:=cX10 HX3.out
 go_wp2_with fail
 clear a0 a1 a2 a3 a4 a5 a6 a7 a8 a9
 (with_reducible refine K3.out.mono ?_)
 rintro _ w4 ⟨rfl,hb4⟩
 have HB4:=bT0 HB3 hb4
 have KW4:=hI0 (KW.out w4 HB4.out)
 clear hb4 K3
 go_wp2_with fail
 (with_reducible refine KW4.out.mono ?_)
 rintro _ w5 ⟨rfl,hb5⟩
 have HB5:=bT0 HB4 hb5
 go_wp2_with fail
 go_ret
 exact ⟨rfl,HB5.out⟩
end Go.Proofs.YtgfhknnklapldaaGreatDoor
