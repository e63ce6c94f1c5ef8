/-
 SsD
-/
import Derived.Test.YtbfdegkickjbpaaGreatVSsB
import Derived.Test.YtbfdegkickjbpaaGreatVSsC
import Derived.Test.YtbfdegkickjbpaaGreatVSm3
import Derived.Test.YtbfdegkickjbpaaGreatVRr4
import Derived.Test.YtbfdegkickjbpaaGreatVRl1
namespace Go.Proofs.YtbfdegkickjbpaaGreat
open Go.Proofs.Tryz
set_option maxRecDepth 99999
set_option maxHeartbeats 0
open Go.RowKit Go.Lib Go.IntWalk Go.Sort Go.Shelf
theorem msz_VerP (l:List UInt8):Msz (rdVerP l) vpSz:=fun s h=>by
 have:=(mon_VerP s h).2.1
 have h2:=rdR_len l (rdI l (rdI l s).2).2
 have e:vpSz (rdVerP l s).1=(rdR l (rdI l (rdI l s).2).2).1.length+1:=rfl
 rw [e]
 omega
theorem msz_Tv (l:List UInt8):Msz (rdTv l) RTv.sz:=fun s h=>by
 have hr:(rdL l (rdVerP l) (rdT l s).2).2.2=0:=h
 have h2:=msz_L mon_VerP (msz_VerP l) _ hr
 have h1:=mon_T _ (mon_L mon_VerP _ hr).1
 show 64*s.1+((szL vpSz (rdL l (rdVerP l) (rdT l s).2).1+1:Nat):Int)≤64*(rdL l (rdVerP l) (rdT l s).2).2.1
 unfold szL
 omega
theorem limS_of {l:List UInt8} (hl:l.length≤2000) (V:World) (C:RSt) (hC:C.er=(rdSt l (0,0)).1) (he:(rdSt l (0,0)).2.2=0) (hx:∀x∈C.ents,∀e∈x.create.chks,exAll V (ltw V) e):C.lim V:=by
 have hl2:l.length≤1048576:=by omega
 have e10:(rdL l (rdHor l) _).2.2=0:=he
 have e9:=(mon_L mon_Hor _ e10).1
 have e8:=(mon_L mon_Pol _ e9).1
 have e7:=(mon_L mon_Hld _ e8).1
 have m7:=mon_L mon_Tv _ e7
 have e6:=m7.1
 have m6:=mon_L mon_Stm _ e6
 have e5:=m6.1
 have m5:=mon_L mon_Ent _ e5
 have e4:=m5.1
 have p4:=mon_I _ e4
 have p3:=mon_I _ p4.1
 have p2:=mon_I _ p3.1
 have p1:=mon_I (l:=l) (0,0) p2.1
 have z5:=msz_L mon_Ent (msz_Ent l) _ e5
 have z7:=msz_L mon_Tv (msz_Tv l) _ e7
 have hE:C.ents.map REn.er=(rdSt l (0,0)).1.ents:=(congrArg RSt.ents hC:C.er.ents=_)
 have hD:C.tabs.map RTv.er=(rdSt l (0,0)).1.tabs:=(congrArg RSt.tabs hC:C.er.tabs=_)
 have sE:(C.ents.map REn.sz).sum=((rdSt l (0,0)).1.ents.map REn.sz).sum:=by
  rw [←hE,List.map_map]
  exact congrArg List.sum (List.map_congr_left (fun x _=>by show x.create.sz+1=x.create.er.sz+1;rw [tab_er_sz]))
 have sD:(C.tabs.map RTv.sz).sum=((rdSt l (0,0)).1.tabs.map RTv.sz).sum:=by
  rw [←hD,List.map_map]
  exact congrArg List.sum (List.map_congr_left (fun x _=>by simp only [Function.comp,RTv.sz,RTv.er,szL,List.map_map];rfl))
 have zE:szL REn.sz C.ents≤1048576:=by
  unfold szL
  rw [sE]
  simp only [rdSt] at z5 ⊢
  omega
 have zD:szL RTv.sz C.tabs≤1048576:=by
  unfold szL
  rw [sD]
  simp only [rdSt] at z7 ⊢
  omega
 have lE:C.ents.length=(rdSt l (0,0)).1.ents.length:=by rw [←hE,List.length_map]
 have lD:C.tabs.length=(rdSt l (0,0)).1.tabs.length:=by rw [←hD,List.length_map]
 have fS:C.stms=(rdSt l (0,0)).1.stms:=(congrArg RSt.stms hC:C.er.stms=_)
 have fP:C.pla=(rdSt l (0,0)).1.pla:=(congrArg RSt.pla hC:C.er.pla=_)
 have fQ:C.pol=(rdSt l (0,0)).1.pol:=(congrArg RSt.pol hC:C.er.pol=_)
 have fH:C.hor=(rdSt l (0,0)).1.hor:=(congrArg RSt.hor hC:C.er.hor=_)
 refine ⟨by rw [lE];exact rdL_lenN mon_Ent hl2 _,by rw [fS];exact rdL_lenN mon_Stm hl2 _,by rw [lD];exact rdL_lenN mon_Tv hl2 _,by rw [fP];exact rdL_lenN mon_Hld hl2 _,by rw [fQ];exact rdL_lenN mon_Pol hl2 _,by rw [fH];exact rdL_lenN mon_Hor hl2 _,
  fun d hd=>RTv.sz_few (Nat.le_trans (szL_mem (sz:=RTv.sz) hd) zD),fun x hx1 e he1=>⟨hx x hx1 e he1,(REn.sz_few (Nat.le_trans (szL_mem (sz:=REn.sz) hx1) zE)).2 e he1⟩,fun x hx1=>?_,fun x hx1=>?_,fun x hx1=>?_,fun x hx1=>?_,zE,zD,fun x hx1=>?_⟩
 ·have hm:x.er∈(rdSt l (0,0)).1.ents:=by rw [←hE];exact List.mem_map_of_mem hx1
  have g:=rdL_all (p:=fun y:REn=>y.sm) (l:=l) (one:=rdEnt l) (rdEnt_sm l) _ x.er hm
  exact ⟨g.table,tab_er_sm g.create,g.change⟩
 ·rw [fP] at hx1
  exact rdL_all (p:=fun y:Hld=>y.sm) (l:=l) (one:=rdHld l) (fun s=>⟨rdT_size l s,rdT_size l _⟩) _ x hx1
 ·rw [fQ] at hx1
  exact rdL_all (p:=fun y:Pol=>y.sm) (l:=l) (one:=rdPol l) (fun s=>rdT_size l s) _ x hx1
 ·rw [fH] at hx1
  exact rdL_all (p:=fun y:Hor=>y.sm) (l:=l) (one:=rdHor l) (fun s=>rdT_size l s) _ x hx1
 ·have hm:x.er∈(rdSt l (0,0)).1.tabs:=by rw [←hD];exact List.mem_map_of_mem hx1
  exact rdL_all (p:=fun y:RTv=>y.table.size≤maxLen) (l:=l) (one:=rdTv l) (fun s=>rdT_size l s) _ x.er hm
theorem exA_keep' {V W:World} {G:Nat→Prop} {l:List REn} (h:∀x∈l,∀e∈x.create.chks,exAll V G e) (hk:Keeps G V W) (hw:∀b,G b→b<W.heap.size):∀x∈l,∀e∈x.create.chks,exAll W (ltw W) e:=
 fun x hx e he=>isK_X.wide (isK_X.keep (h x hx e he) hk) hw
theorem wpList_loadRowH {P:Program} {ops:Array Oper} {Q:Exit→Act→World→Prop} {a:Act} {w:World} {rest:List Oper} {o:Oper} {t:TypeId} {T:Nat} {cs:Array Value} {e:TypeId} {fr:Nat×Nat} (p:Operand) (hgd:Region.wanted o (yielded ops a.tmps)=true) (hop:o.op=.load t p) (hp:a.eval p=.pointer (some ⟨T,0,none⟩)) (hz:∀w,(Go.sizeOf t).run P w=.ok cs.size w) (ha:∀w,(isAgg t).run P w=.ok true w) (h:w.heap[T]? =some (.cells cs e fr))
  (hK:wpList P ops Q rest (a.put o.dst (.agg cs)) w):wpList P ops Q (o::rest) a w:=
 wpList_step fun K' hK'=>by
  rw [if_pos hgd]
  unfold Oper.wp execOp
  simp only [hop,hp,Sem.run_bind,run_loadRow hz ha h,Result.andThen_ok,Sem.run_pure]
  exact hK' _ _ hK
theorem lawRStates_any (d:RSt) (v:Value) (l:List UInt8) (w:World) (hd:d.is w (ltw w)) (hdm:d.lim w) (hv:RdB w (ltw w) v l):Calls prog 8 #[.agg d.enc.toArray,v] w fun e w'=>e=.returned (.bool true)∧Bl w w':=by
 obtain ⟨Av,cv,rfl,y1,y2,y3⟩:=Rd.open_ hv
 unfold maxLen at y2
 obtain ⟨D,hD⟩:=eN0 d
 have K3:=hI0 (fun (V:World) (hV:Bl w V)=>state_any d V (hd.below hV) (hdm.below hV))
 have K4:=hI0 (fun (V:World) (hV:Bl w V)=>recEncodeState_any d V (hd.below hV) (hdm.below hV))
 have K5:=hI0 (fun (V:World) (hV:Bl w V)=>refEncodeState_any d V (hd.below hV) (hdm.below hV))
 have HV:=hI0 hv
 have K4:Hid (∀V,Bl w V→Calls prog 24 #[.agg d.enc.toArray] V (EncSO D V)):=by rw [hD];exact K4
 have K5:Hid (∀V,Bl w V→Calls prog 25 #[.agg d.enc.toArray] V (EncSO D V)):=by rw [hD];exact K5
 clear hd hdm hD hv y3
 obtain ⟨stx,stm,swl,snx,seA,seC,sents,ssA,ssC,sstms,stA,stC,stabs,spA,spC,spla,sqA,sqC,spol,shA,shC,shor⟩:=d
 simp only [RSt.enc] at K3 K4 K5
 show Calls prog 8 #[.agg #[.int .i64 stx,.int .i64 stm,.int .i64 swl,.int .i64 snx,.slice seA sents.length seC,.slice ssA sstms.length ssC,.slice stA stabs.length stC,.slice spA spla.length spC,.slice sqA spol.length sqC,.slice shA shor.length shC],.slice Av l.length cv] w _
 obtain ⟨y0,hW0⟩:=eN0 (w.alloc (.cells #[.int .i64 stx,.int .i64 stm,.int .i64 swl,.int .i64 snx,.slice seA sents.length seC,.slice ssA sstms.length ssC,.slice stA stabs.length stC,.slice spA spla.length spC,.slice sqA spol.length sqC,.slice shA shor.length shC] 47))
 have HB0:Hid (Bl w y0):=hI0 (by rw [hW0];exact Below.of_alloc _)
 have HS0:Hid (y0.heap[w.heap.size]? =some (.cells #[.int .i64 stx,.int .i64 stm,.int .i64 swl,.int .i64 snx,.slice seA sents.length seC,.slice ssA sstms.length ssC,.slice stA stabs.length stC,.slice spA spla.length spC,.slice sqA spol.length sqC,.slice shA shor.length shC] 47 (0,0))):=hI0 (by rw [hW0];exact heap_alloc_new _ _)
 have HL0:Hid (w.heap.size<y0.heap.size):=hI0 (by rw [hW0];simp)
 go_in
 go_upto_region 1 with (fail)
 rw [←hW0]
 clear hW0
 go_wp2_with (refine wpList_loadRow (cs:=#[.int .i64 stx,.int .i64 stm,.int .i64 swl,.int .i64 snx,.slice seA sents.length seC,.slice ssA sstms.length ssC,.slice stA stabs.length stC,.slice spA spla.length spC,.slice sqA spol.length sqC,.slice shA shor.length shC]) (.tmp 2) rfl rfl rfl sz_sta ag_sta HS0.out ?_)
 (with_reducible refine (K3.out _ HB0.out).mono ?_)
 rintro _ y2 ⟨r,rfl,hb⟩
 have hbk:=hb
 have HS2:=hI0 ((hbk.block _ HL0.out).trans HS0.out)
 have HL2:Hid (w.heap.size<y2.heap.size):=hI0 (Nat.lt_of_lt_of_le HL0.out hbk.size)
 have HB2:=bT0 HB0 hbk
 clear hbk
 clear hb K3 HS0 HL0 HB0
 cases r
 case false=>
  go_wp2_with fail
  (with_reducible refine (works35d _).mono ?_)
  rintro _ z9 ⟨rfl,hb9⟩
  have HZ9:=bT0 HB2 hb9
  clear hb9
  go_wp2_with fail
  go_ret
  exact ⟨by first|rfl|simp,HZ9.out⟩
 by_cases hln:2000<l.length
 case pos=>
  have hli:(2000:Int)<(l.length:Int):=by omega
  go_wp2_with fail
  (with_reducible refine (works35d _).mono ?_)
  rintro _ z9 ⟨rfl,hb9⟩
  have HZ9:=bT0 HB2 hb9
  clear hb9
  go_wp2_with fail
  go_ret
  exact ⟨by first|rfl|simp,HZ9.out⟩
 have hli:¬(2000:Int)<(l.length:Int):=by omega
 go_upto_region 3 with (fail)
 have HLN:=hI0 hln
 clear hln hli
 go_wp2_with (refine wpList_loadRow (cs:=#[.int .i64 stx,.int .i64 stm,.int .i64 swl,.int .i64 snx,.slice seA sents.length seC,.slice ssA sstms.length ssC,.slice stA stabs.length stC,.slice spA spla.length spC,.slice sqA spol.length sqC,.slice shA shor.length shC]) (.tmp 2) rfl rfl rfl sz_sta ag_sta HS2.out ?_)
 (with_reducible refine (K4.out _ HB2.out).mono ?_)
 rintro _ y3 ⟨u1,rfl,hu,hb,_⟩
 have hbk:=hb
 have HS3:=hI0 ((hbk.block _ HL2.out).trans HS2.out)
 have HL3:Hid (w.heap.size<y3.heap.size):=hI0 (Nat.lt_of_lt_of_le HL2.out hbk.size)
 have HB3:=bT0 HB2 hbk
 clear hbk
 have HU1:Hid (RdB y3 (ltw y3) u1 (outS D)):=hI0 (hu.wide (fun b hb=>hb.2))
 clear hb hu K4
 go_upto_region 4 with (fail)
 go_wp2_with (refine wpList_loadRow (cs:=#[.int .i64 stx,.int .i64 stm,.int .i64 swl,.int .i64 snx,.slice seA sents.length seC,.slice ssA sstms.length ssC,.slice stA stabs.length stC,.slice spA spla.length spC,.slice sqA spol.length sqC,.slice shA shor.length shC]) (.tmp 2) rfl rfl rfl sz_sta ag_sta HS3.out ?_)
 (with_reducible refine (K5.out _ HB3.out).mono ?_)
 rintro _ y4 ⟨u2,rfl,hu,hb,_⟩
 have HU1:=hI0 (HU1.out.below hb)
 have hbk:=hb
 have HS4:=hI0 ((hbk.block _ HL3.out).trans HS3.out)
 have HL4:Hid (w.heap.size<y4.heap.size):=hI0 (Nat.lt_of_lt_of_le HL3.out hbk.size)
 have HB4:=bT0 HB3 hbk
 clear hbk
 have HU2:Hid (RdB y4 (ltw y4) u2 (outS D)):=hI0 (hu.wide (fun b hb=>hb.2))
 clear hb hu K5 HS2 HS3 HS4 HL2 HL3 HL4
 obtain ⟨ke,hke⟩:=eN0 (stateF D)
 rw [←hke]
 clear hke
 have K6:=decodeState_any _ l y4 (HV.out.below HB4.out) (by have:=HLN.out;omega)
 go_upto_region 5 with (fail)
 go_wp2_with fail
 (with_reducible refine K6.mono ?_)
 rintro _ y5 ⟨c,rfl,hce,hci,hcx,hb⟩
 obtain ⟨ustx,ustm,uswl,usnx,useA,useC,usents,ussA,ussC,usstms,ustA,ustC,ustabs,uspA,uspC,uspla,usqA,usqC,uspol,ushA,ushC,ushor⟩:=c
 simp only [RSt.enc]
 obtain ⟨y6,hW⟩:=eN0 (y5.alloc (.cells #[.int .i64 ustx,.int .i64 ustm,.int .i64 uswl,.int .i64 usnx,.slice useA usents.length useC,.slice ussA usstms.length ussC,.slice ustA ustabs.length ustC,.slice uspA uspla.length uspC,.slice usqA uspol.length usqC,.slice ushA ushor.length ushC] 47))
 have hbW:=bN0 hW
 have HT:=hI0 (show y6.heap[y5.heap.size]? =some (.cells #[.int .i64 ustx,.int .i64 ustm,.int .i64 uswl,.int .i64 usnx,.slice useA usents.length useC,.slice ussA usstms.length ussC,.slice ustA ustabs.length ustC,.slice uspA uspla.length uspC,.slice usqA uspol.length usqC,.slice ushA ushor.length ushC] 47 (0,0)) by rw [hW];exact heap_alloc_new _ _)
 have HTL:Hid (y5.heap.size<y6.heap.size):=hI0 (by rw [hW];simp)
 have HCI:=hI0 (RSt.is_kw (w':=y6) (G:=(ltw y6)) hci (fun b hb=>hbW.block b hb.2) (fun b hb=>Nat.lt_of_lt_of_le hb.2 hbW.size))
 have HCX:=hI0 (exA_keep' (W:=y6) hcx (fun b hb=>hbW.block b hb.2) (fun b hb=>Nat.lt_of_lt_of_le hb.2 hbW.size))
 have HCE:=hI0 hce
 have hb46:=hb.trans (hbW.mono hb.size)
 have HB6:=bT0 HB4 hb46
 have HU1:=hI0 (HU1.out.below hb46)
 have HU2:=hI0 (HU2.out.below hb46)
 have HW:=hI0 hW
 clear hce hci hcx hb hbW hW hb46 K6 HB4
 have K7:=rdecodeState_any _ l y6 (HV.out.below HB6.out) (by have:=HLN.out;omega) (fun V C h1 h2 h3 h4=>limS_of (by have:=HLN.out;omega) V C h1 h2 h4)
 obtain ⟨e0,he0⟩:=eN0 ((decSt l).2)
 unfold DecSO at K7
 rw [←he0] at K7 ⊢
 clear he0
 go_upto_region 6 with (fail)
 rw [←HW.out]
 clear HW
 go_wp2_with fail
 (with_reducible refine K7.mono ?_)
 rintro _ y7 ⟨d2,rfl,hde,hdi,hdx,hb⟩
 obtain ⟨xstx,xstm,xswl,xsnx,xseA,xseC,xsents,xssA,xssC,xsstms,xstA,xstC,xstabs,xspA,xspC,xspla,xsqA,xsqC,xspol,xshA,xshC,xshor⟩:=d2
 simp only [RSt.enc]
 obtain ⟨y8,hW⟩:=eN0 (y7.alloc (.cells #[.int .i64 xstx,.int .i64 xstm,.int .i64 xswl,.int .i64 xsnx,.slice xseA xsents.length xseC,.slice xssA xsstms.length xssC,.slice xstA xstabs.length xstC,.slice xspA xspla.length xspC,.slice xsqA xspol.length xsqC,.slice xshA xshor.length xshC] 47))
 have hbW:=bN0 hW
 have HX:=hI0 (show y8.heap[y7.heap.size]? =some (.cells #[.int .i64 xstx,.int .i64 xstm,.int .i64 xswl,.int .i64 xsnx,.slice xseA xsents.length xseC,.slice xssA xsstms.length xssC,.slice xstA xstabs.length xstC,.slice xspA xspla.length xspC,.slice xsqA xspol.length xsqC,.slice xshA xshor.length xshC] 47 (0,0)) by rw [hW];exact heap_alloc_new _ _)
 have hb68:=hb.trans (hbW.mono hb.size)
 have HT2:=hI0 ((hb68.block _ HTL.out).trans HT.out)
 have KSm:=fun W (hW:Bl y8 W)=>likeState_any _ _ (HCE.out.trans hde.symm) W (HCI.out.below (hb68.trans (hW.mono hb68.size))) (RSt.is_kw (w':=W) hdi (fun b hb=>(hW.block b (Nat.lt_of_lt_of_le hb.2 hbW.size)).trans (hbW.block b hb.2)) (fun b hb=>Nat.lt_of_lt_of_le hb.2 (Nat.le_trans hbW.size hW.size))) (exA_keep' HCX.out (fun b hb=>(hb68.trans (hW.mono hb68.size)).block b hb) (fun b hb=>Nat.lt_of_lt_of_le hb (hb68.trans (hW.mono hb68.size)).size)) (exA_keep' hdx (fun b hb=>(hW.block b (Nat.lt_of_lt_of_le hb.2 hbW.size)).trans (hbW.block b hb.2)) (fun b hb=>Nat.lt_of_lt_of_le hb.2 (Nat.le_trans hbW.size hW.size)))
 simp only [RSt.enc] at KSm
 have KSM:=hI0 KSm
 have HB8:=bT0 HB6 hb68
 have hU1:=HU1.out.below hb68
 have hU2:=HU2.out.below hb68
 have KQ:=equal35_any u1 u2 (outS D) _ _ y8 hU1 hU2
 have HW:=hI0 hW
 clear hde hdi hdx hb hbW hW hb68 K7 HB6 HU1 HU2 hU1 hU2 KSm HT HTL HCI HCX HCE
 go_upto_region 7 with (fail)
 rw [←HW.out]
 clear HW
 go_wp2_with fail
 (with_reducible refine KQ.mono ?_)
 rintro _ y9 ⟨rfl,hy9⟩
 rw [hy9]
 clear hy9 KQ
 have KS:=KSM.out y8 (Below.refl _ _)
 clear KSM
 go_wp2_with (first|(refine wpList_loadRowH (cs:=#[.int .i64 ustx,.int .i64 ustm,.int .i64 uswl,.int .i64 usnx,.slice useA usents.length useC,.slice ussA usstms.length ussC,.slice ustA ustabs.length ustC,.slice uspA uspla.length uspC,.slice usqA uspol.length usqC,.slice ushA ushor.length ushC]) (.tmp 9) (by kernel_rfl) rfl rfl sz_sta ag_sta HT2.out ?_)|(refine wpList_loadRowH (cs:=#[.int .i64 xstx,.int .i64 xstm,.int .i64 xswl,.int .i64 xsnx,.slice xseA xsents.length xseC,.slice xssA xsstms.length xssC,.slice xstA xstabs.length xstC,.slice xspA xspla.length xspC,.slice xsqA xspol.length xsqC,.slice xshA xshor.length xshC]) (.tmp 11) (by kernel_rfl) rfl rfl sz_sta ag_sta HX.out ?_))
 (with_reducible refine KS.mono ?_)
 rintro _ y10 ⟨rfl,hb⟩
 have HB10:=bT0 HB8 hb
 clear hb KS
 go_wp2_with fail
 (with_reducible refine (works35d _).mono ?_)
 rintro _ z9 ⟨rfl,hb9⟩
 have HZ9:=bT0 HB10 hb9
 clear hb9
 go_wp2_with fail
 go_ret
 exact ⟨by first|rfl|simp,HZ9.out⟩
end Go.Proofs.YtbfdegkickjbpaaGreat
