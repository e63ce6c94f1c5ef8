/-
 DuH
-/
import Derived.Test.YtgfhknnklapldaaGreatDoorBDuF
namespace Go.Proofs.YtgfhknnklapldaaGreatDoor
open Go.Proofs.Tryz
set_option maxRecDepth 99999
set_option maxHeartbeats 0
open Go.RowKit Go.Lib Go.IntWalk Go.Sort Go.Shelf
def EnvP (b:Nat) (w:World):Prop:=∃w0,EnvD w0∧w0.heap.size≤b∧Bl w0 w
theorem EnvP.now {b:Nat} {w:World} (h:EnvP b w):EnvD w:=by
 obtain ⟨w0,h1,_,h2⟩:=h
 exact h1.below h2
theorem EnvP.keep {b:Nat} {w w':World} (h:EnvP b w) (hb:Below b w w'):EnvP b w':=by
 obtain ⟨w0,h1,h2,h3⟩:=h
 exact ⟨w0,h1,h2,h3.trans (hb.mono h2)⟩
theorem takeL {vs:List VP} {k:Nat} (h:k<vs.length):(vs.take (k+1)).flatMap (fun p=>lineB (verI p.2))=(vs.take k).flatMap (fun p=>lineB (verI p.2))++lineB (verI vs[k].2):=by
 rw [List.take_succ_eq_append_getElem h,List.flatMap_append,List.flatMap_singleton]
theorem takeG_le {α:Type} {g:α→List UInt8} {l:List α} (k:Nat):((l.take k).flatMap g).length≤(l.flatMap g).length:=by
 have h:=congrArg (fun z=>(z.flatMap g).length) (List.take_append_drop k l)
 simp only [List.flatMap_append,List.length_append] at h
 omega
theorem takeL_le {l:List VP} (k:Nat):((l.take k).flatMap (fun p=>lineB (verI p.2))).length≤(l.flatMap (fun p=>lineB (verI p.2))).length:=takeG_le k
theorem tvT_eq (x:RTv):tvT x=lineB [wTable,qS x.table]++x.vers.flatMap (fun p=>lineB (verI p.2)):=by
 unfold tvT tabT
 rw [List.flatMap_map]
theorem table_any (b:Nat) (l:List UInt8) (x:RTv) (w:World) (he:EnvP b w) (hp:PrAt w b l) (hx:x.is w (·<b)) (hS:x.table.size≤24) (hv:∀p∈x.vers,validVer p.2=true) (hll:l.length+(tvT x).length≤100000000000):
  Calls prog 24 #[.pointer (some ⟨b,0,none⟩),.agg x.enc.toArray] w (PrOut b (l++tvT x) w):=by
 rw [tvT_eq] at hll ⊢
 obtain ⟨S,A,C,vs⟩:=x
 simp only at hS hv hll ⊢
 show Calls prog 24 #[.pointer (some ⟨b,0,none⟩),.agg #[.string S,.slice A vs.length C]] w _
 have hx':RdVs w (·<b) (.slice A vs.length C) vs:=hx
 obtain ⟨A0,C0,hAc,z1,z2,_⟩:=hx'.1.open_
 simp only [Value.slice.injEq] at hAc
 obtain ⟨rfl,-,rfl⟩:=hAc
 unfold maxLen at z2
 have hbl:=hp.lt
 have HE:=hI0 he
 have HP:=hI0 hp
 have HV:=hI0 hx'
 have HVL:=hI0 hv
 have HBL:=hI0 hbl
 have HLL:Hid ((l++(lineB [wTable,qS S]++vs.flatMap (fun p=>lineB (verI p.2)))).length≤100000000000):=hI0 (by rw [List.length_append];exact hll)
 have hl0:l.length+sumI [wTable,qS S]≤100000000000:=by
  rw [←lineB_len _ (by simp)]
  rw [List.length_append] at hll
  omega
 have HL0:=hI0 hl0
 clear he hp hx hx' hv hll hl0 hbl
 obtain ⟨W1,hW1⟩:=eN0 (w.alloc (.cells #[.string S,.slice A vs.length C] 37))
 have hbW1:=bN0 hW1
 have hnW1:=hN0 hW1
 have eW1:w.alloc (.cells #[.string S,.slice A vs.length C] 37)=W1:=by rw [hW1]
 clear hW1
 have HB1:Hid (Bl w W1):=hI0 hbW1
 have KQ:=hI0 (quote_any S W1 (HE.out.now.below hbW1) (by omega))
 have c0:=cW1 0 hnW1 rfl
 have HT1:=hI0 hnW1
 clear hbW1 hnW1
 go_in
 go_wp2_with fail
 clear eW1 c0
 (with_reducible refine KQ.out.mono ?_)
 rintro _ V2 ⟨rfl,hb2⟩
 have HB2:=bT0 HB1 hb2
 have HT2:=hI0 (keepRow hb2 HT1.out)
 clear hb2
 obtain ⟨V3,hV3⟩:=eN0 (V2.alloc (.cells (svL [wTable,qS S]).toArray 9))
 have hbV3:=bN0 hV3
 have hnV3:=hN0 hV3
 have eV3:V2.alloc (.cells #[.string ⟨#[116,97,98,108,101]⟩,.string (strB (qS S))] 9)=V3:=by rw [hV3];rfl
 clear hV3
 have HB3:=bT0 HB2 hbV3
 have HT3:=hI0 (keepRow hbV3 HT2.out)
 have KL:=hI0 (prLine_any b l [wTable,qS S] (.slice (some ⟨V2.heap.size,0,none⟩) 2 2) V3 (HP.out.below HB3.out) (OwnS.lit (w:=V2) [wTable,qS S] w.heap.size hnV3 HB2.out.size rfl (by simp) rfl).rd (by simp) HL0.out)
 clear hbV3 hnV3 HT1 HT2 HB1 HB2 KQ
 go_wp2_with fail
 clear eV3
 (with_reducible refine KL.out.mono ?_)
 rintro _ V4 ⟨rfl,hp4,hb4,hk4⟩
 have HT4:=hI0 ((hk4.2 _ (gL0 HT3.out) (by have:=HBL.out;omega) (fun cur e=>by have:=HT3.out.symm.trans e;injection this with this;injection this with _ e _;exact absurd e (by decide))).trans HT3.out)
 have HP4:=hI0 hp4
 have HW4:Hid (Below b w V4):=hI0 ((HB3.out.mono (Nat.le_of_lt HBL.out)).trans hb4)
 have HK4:Hid (KeepO b w V4):=hI0 ((KeepO.of_below HB3.out).trans hk4)
 have c1:=cW1 1 HT4.out rfl
 clear hp4 hb4 hk4 HT3 HB3 KL HT4 HP HL0 HBL
 go_wp2_with fail
 clear c1
 go_loopw [16] (fun i wr=>∃k:Nat,i=.int .i64 (k:Int)∧k≤vs.length∧Hid (PrAt wr b (l++lineB [wTable,qS S]++(vs.take k).flatMap (fun p=>lineB (verI p.2))))∧Hid (Below b w wr)∧Hid (KeepO b w wr)) (fun i _=>vs.length-(intOf i).toNat)
 case atStart=>exact ⟨0,rfl,Nat.zero_le _,hI0 (by simpa using HP4.out),HW4,HK4⟩
 obtain ⟨k,rfl,hk,HP,HW,HK⟩:=hrel
 obtain ⟨wi,rfl⟩:=eN0 wr
 clear HP4 HW4 HK4
 by_cases hlt:k<vs.length
 case neg=>
  have e:k=vs.length:=by omega
  have hpw:=HP.out
  rw [e,List.take_length,List.append_assoc] at hpw
  have HPW:=hI0 hpw
  clear hpw e
  go_wp2_with fail
  go_end0
  exact ⟨rfl,HPW.out,HW.out,HK.out⟩
 obtain ⟨b2,off,hA,hF,hcl,hxx⟩:=RdVs.at_ (HV.out.keep (Keeps.below HW.out)) hlt
 have hval:=HVL.out vs[k] (List.getElem_mem hlt)
 have hvs:=takeL hlt
 have hle:=takeL_le (l:=vs) (k+1)
 have HVS:=hI0 hvs
 rw [hvs,List.length_append] at hle
 have HLE:Hid ((l++lineB [wTable,qS S]++(vs.take k).flatMap (fun p=>lineB (verI p.2))).length+(lineB (verI vs[k].2)).length≤100000000000):=hI0 (by
  have:=HLL.out
  simp only [List.length_append] at this ⊢
  omega)
 clear hvs hle
 subst hA
 generalize vs[k]=p at *
 obtain ⟨⟨x1,x2,xA,xn,xc,x3,x4,x5,x6,x7,x8⟩,x⟩:=p
 simp only at hcl hxx hval
 obtain ⟨g0,g1,g2,g3,g4,g5,g6,g7,g8⟩:=cK9 hcl (show _=[.int .i64 x1,.int .i64 x2,.slice xA xn xc,.int .i64 x3,.int .i64 x4,.int .i64 x5,.int .i64 x6,.int .i64 x7,.int .i64 x8] from rfl)
 obtain ⟨q1,q2,q3,q4⟩:=ver_bd hval
 obtain ⟨r1,r2,r3,r4,r5,r6,r7,r8,hrow,hgo⟩:=hxx
 simp only at r1 r2 r3 r4 r5 r6 r7 r8 hrow
 have hLV:=verI_le hval
 have HNV:Hid (verI x≠[]):=hI0 (by simp [verI])
 have hll:=lineB_len (verI x) HNV.out
 have HLE2:Hid ((l++lineB [wTable,qS S]++(vs.take k).flatMap (fun p=>lineB (verI p.2))).length+sumI (verI x)≤100000000000):=hI0 (by rw [←hll];exact HLE.out)
 have hsl:sumI (lstI litI x.row)≤100000000000:=by
  have e:verI x=[wVersion,itoa x.id,itoa x.sch]++lstI litI x.row++[itoa x.vf,itoa x.vt,itoa x.sf,itoa x.st,itoa x.by_,itoa x.un]:=rfl
  rw [e,sumI_app,sumI_app] at hLV
  omega
 have g20:=sumI_ge (lstI litI x.row)
 have hn:xn=x.row.length:=by
  obtain ⟨A0,c0,hAc,_⟩:=Rd.open_ hrow
  simp only [Value.slice.injEq] at hAc
  exact hAc.2.1
 subst hn
 have HI2:Hid (∀n∈[x1,x2],-9223372036854775808≤n∧n≤9223372036854775807):=hI0 (by
  intro n hm
  simp only [List.mem_cons,List.not_mem_nil,or_false] at hm
  rcases hm with rfl|rfl<;>omega)
 have HI6:Hid (∀n∈[x3,x4,x5,x6,x7,x8],-9223372036854775808≤n∧n≤9223372036854775807):=hI0 (by
  intro n hm
  simp only [List.mem_cons,List.not_mem_nil,or_false] at hm
  rcases hm with rfl|rfl|rfl|rfl|rfl|rfl<;>omega)
 have HVI:Hid ([wVersion]++[x1,x2].map itoa++lstI litI x.row++[x3,x4,x5,x6,x7,x8].map itoa=verI x):=hI0 (by rw [r1,r2,r3,r4,r5,r6,r7,r8];rfl)
 have hbz:=HP.out.lt
 have HBZ:=hI0 hbz
 have HE2:Hid (EnvD wi):=hI0 (HE.out.keep HW.out).now
 have KL:Hid (∀V,Bl wi V→Calls prog 74 #[.slice xA x.row.length xc,.func (.func 75) #[] #[]] V (ItS (lstI litI x.row) V)):=hI0 fun V hV=>
  lstVal_any xA xc x.row litI V (HE2.out.below hV) ((Rd.wide hrow (fun b' (h':b'<b)=>by show b'<wi.heap.size;omega)).below' hV) (fun y hy U hU=>lit1_any y U ((HE2.out.below hV).below hU) (q3 y hy)) hsl
 have HG20:Hid ((lstI litI x.row).length≤100000000000):=hI0 (by omega)
 clear hcl q1 q2 q3 q4 r1 r2 r3 r4 r5 r6 r7 r8 hrow hgo hLV hsl g20 hll hval hbz
 obtain ⟨W1,hW1⟩:=eN0 (wi.alloc (.cells #[.int .i64 x1,.int .i64 x2,.slice xA x.row.length xc,.int .i64 x3,.int .i64 x4,.int .i64 x5,.int .i64 x6,.int .i64 x7,.int .i64 x8] 56))
 have hbW1:=bN0 hW1
 have hnW1:=hN0 hW1
 have eW1:wi.alloc (.cells #[.int .i64 x1,.int .i64 x2,.slice xA x.row.length xc,.int .i64 x3,.int .i64 x4,.int .i64 x5,.int .i64 x6,.int .i64 x7,.int .i64 x8] 56)=W1:=by rw [hW1]
 clear hW1
 obtain ⟨W2,hW2⟩:=eN0 (W1.alloc (.cells (svL [wVersion]).toArray 9))
 have hbW2:=bN0 hW2
 have hnW2:=hN0 hW2
 have eW2:W1.alloc (.cells #[.string ⟨#[118,101,114,115,105,111,110]⟩] 9)=W2:=by rw [hW2];rfl
 clear hW2
 have HX1:=hI0 hnW1
 have HX2:=hI0 (keepRow hbW2 hnW1)
 have c1:=cW1 1 HX2.out rfl
 have c0:=cW1 0 HX2.out rfl
 obtain ⟨W3,hW3⟩:=eN0 (W2.alloc (.cells ([x1,x2].flatMap intE).toArray 3))
 have hbW3:=bN0 hW3
 have hnW3:=hN0 hW3
 have eW3:W2.alloc (.cells #[.int .i64 x1,.int .i64 x2] 3)=W3:=by rw [hW3];rfl
 clear hW3
 have HB1:Hid (Bl wi W1):=hI0 hbW1
 have HB2:=bT0 HB1 hbW2
 have HB3:=bT0 HB2 hbW3
 have HX3:=hI0 (keepRow hbW3 HX2.out)
 have HO3:Hid (OwnS W3 wi.heap.size (.slice (some ⟨W1.heap.size,0,none⟩) 1 1) [wVersion]):=hI0 (OwnS.below (OwnS.lit (w:=W1) [wVersion] wi.heap.size hnW2 HB1.out.size rfl (by simp) rfl) hbW3)
 have KD:=hI0 (digits_any (.slice (some ⟨W2.heap.size,0,none⟩) 2 2) [x1,x2] W3 (HE2.out.below HB3.out) (rdInts hnW3 (by simp) rfl) HI2.out (by simp))
 clear hbW1 hbW2 hbW3 hnW1 hnW2 hnW3 HB1 HB2 HX1 HX2
 go_wp2_with fail
 clear eW1 eW2 eW3 c0 c1 g0 g1 g2 g3 g4 g5 g6 g7 g8
 (with_reducible refine KD.out.mono ?_)
 rintro _ V4 ⟨u4,rfl,ho4,hb4⟩
 have HO4:=hI0 (OwnS.below HO3.out hb4)
 have HB4:=bT0 HB3 hb4
 have HX4:=hI0 (keepRow hb4 HX3.out)
 have HR4:=hI0 ho4.rd
 clear ho4 hb4 HO3 HB3 HX3 KD
 go_wp2_with (at_builtin;refine apS 20 26 HO4.out HR4.out (by simp) HB4.out.size ?_;intro v5 V5 hap hag hab;have HX5:=hI0 (keepGr HO4.out hag HX4.out (by intro cs fr e;injection e with _ e _;exact absurd e (by decide)));have c2:V5.cell? ⟨wi.heap.size,2,none⟩=some (.slice xA x.row.length xc):=cW0 _ _ 2 _ _ _ HX5.out)
 have HO5:=hI0 hap
 have HB5:Hid (Bl wi V5):=hI0 (HB4.out.trans hab)
 clear hap hag hab HO4 HB4 HX4 HR4 c2
 (with_reducible refine (KL.out V5 HB5.out).mono ?_)
 rintro _ V6 ⟨u6,rfl,ho6,hb6⟩
 have HO6:=hI0 (OwnS.below HO5.out hb6)
 have HB6:=bT0 HB5 hb6
 have HX6:=hI0 (keepRow hb6 HX5.out)
 have HR6:=hI0 ho6.rd
 clear ho6 hb6 HO5 HB5 HX5
 have HLN6:Hid (([wVersion]++[x1,x2].map itoa).length+(lstI litI x.row).length≤1000000000000):=hI0 (by have:=HG20.out;simp;omega)
 go_wp2_with (at_builtin;refine apS 28 31 HO6.out HR6.out HLN6.out HB6.out.size ?_;intro v7 V7 hap hag hab;have HX7:=hI0 (keepGr HO6.out hag HX6.out (by intro cs fr e;injection e with _ e _;exact absurd e (by decide)));have c3:V7.cell? ⟨wi.heap.size,3,none⟩=some (.int .i64 x3):=cW0 _ _ 3 _ _ _ HX7.out;have c4:V7.cell? ⟨wi.heap.size,4,none⟩=some (.int .i64 x4):=cW0 _ _ 4 _ _ _ HX7.out;have c5:V7.cell? ⟨wi.heap.size,5,none⟩=some (.int .i64 x5):=cW0 _ _ 5 _ _ _ HX7.out;have c6:V7.cell? ⟨wi.heap.size,6,none⟩=some (.int .i64 x6):=cW0 _ _ 6 _ _ _ HX7.out;have c7:V7.cell? ⟨wi.heap.size,7,none⟩=some (.int .i64 x7):=cW0 _ _ 7 _ _ _ HX7.out;have c8:V7.cell? ⟨wi.heap.size,8,none⟩=some (.int .i64 x8):=cW0 _ _ 8 _ _ _ HX7.out;obtain ⟨V8,hV8⟩:∃X,X=V7.alloc (.cells ([x3,x4,x5,x6,x7,x8].flatMap intE).toArray 3):=⟨_,rfl⟩;have eV8:V7.alloc (.cells #[.int .i64 x3,.int .i64 x4,.int .i64 x5,.int .i64 x6,.int .i64 x7,.int .i64 x8] 3)=V8:=(by rw [hV8];rfl);have HV8:=hI0 hV8;clear hV8)
 have hV8:=HV8.out
 have hb8:=bN0 hV8
 have hn8:=hN0 hV8
 have hB7:Bl wi V7:=HB6.out.trans hab
 have HB8:Hid (Bl wi V8):=hI0 (hB7.trans (hb8.mono hB7.size))
 have HO8:=hI0 (OwnS.below hap hb8)
 have KD2:=hI0 (digits_any (.slice (some ⟨V7.heap.size,0,none⟩) 6 6) [x3,x4,x5,x6,x7,x8] V8 (HE2.out.below HB8.out) (rdInts hn8 (by simp) rfl) HI6.out (by simp))
 clear hap hag hab HO6 HB6 HX6 HR6 c3 c4 c5 c6 c7 c8 eV8 hV8 hb8 hn8 hB7
 (with_reducible refine KD2.out.mono ?_)
 rintro _ V9 ⟨u9,rfl,ho9,hb9⟩
 have HO9:=hI0 (OwnS.below HO8.out hb9)
 have HB9:=bT0 HB8 hb9
 have HR9:=hI0 ho9.rd
 clear ho9 hb9 HO8 HB8 KD2
 have HLN9:Hid (([wVersion]++[x1,x2].map itoa++lstI litI x.row).length+([x3,x4,x5,x6,x7,x8].map itoa).length≤1000000000000):=hI0 (by have:=HG20.out;simp;omega)
 go_wp2_with (at_builtin;refine apS 34 52 HO9.out HR9.out HLN9.out HB9.out.size ?_;intro v10 V10 hap hag hab;have HO10:=hI0 hap;have HB10:Hid (Bl wi V10):=hI0 (HB9.out.trans hab))
 have hro:RdIt V10 (ltw V10) v10 (verI x):=by rw [←HVI.out];exact HO10.out.rd
 have KP:=hI0 (prLine_any b (l++lineB [wTable,qS S]++(vs.take k).flatMap (fun p=>lineB (verI p.2))) (verI x) v10 V10 (HP.out.below HB10.out) hro HNV.out HLE2.out)
 clear hro hap hag hab HO9 HB9 HR9
 (with_reducible refine KP.out.mono ?_)
 rintro _ V11 ⟨rfl,hp11,hb11,hk11⟩
 go_wp2_with fail
 go_roundw
 case rel=>exact ⟨k+1,by go_num,by omega,hI0 (by rw [HVS.out,←List.append_assoc];exact hp11),hI0 ((HW.out.trans (HB10.out.mono (Nat.le_of_lt HBZ.out))).trans hb11),hI0 ((HK.out.trans (KeepO.of_below HB10.out)).trans hk11)⟩
 case measure=>simp [intOf];omega
end Go.Proofs.YtgfhknnklapldaaGreatDoor
