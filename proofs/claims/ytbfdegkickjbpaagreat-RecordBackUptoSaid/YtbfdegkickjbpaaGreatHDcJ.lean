/-
 DcJ
-/
import Derived.Test.YtbfdegkickjbpaaGreatHDcK
import Derived.Test.YtbfdegkickjbpaaGreatHDcP
namespace Go.Proofs.YtbfdegkickjbpaaGreat
set_option maxRecDepth 1000000
set_option maxHeartbeats 32000000
open Go.RowKit Go.Lib Go.IntWalk Go.Sort Go.Shelf
theorem zq31 {P:Prop} (i:Nat) (h:Tg i→P:=by
 intro zT31
 first
  |guard_hyp zT31:Tg 2
   have he2:(ed != 0)=true:=by simpa using he
   have HX:=hI0 (decCm_end HBIG.out HD.out (by rw [←HED.out];exact he))
   go_wp2_with (refine wpList_storeRow (cur:=#[.int .i64 0,.int .i64 0,.int .i64 0,.int .i64 0,.slice none 0 0,.slice none 0 0,.slice none 0 0,.slice none 0 0,.slice none 0 0,.slice none 0 0]) (vs:=#[.int .i64 0,.int .i64 0,.int .i64 0,.int .i64 0,.slice none 0 0,.slice none 0 0,.slice none 0 0,.slice none 0 0,.slice none 0 0,.slice none 0 0]) (.tmp 2) (.tmp 57) rfl rfl rfl rfl sz_com rfl rfl HR.out.res ?_;intro E hE hEc)
   have hbE:Below w.heap.size w E:=HCF.out.trans (hEc.below (by have:=HCF.out.size;omega) (fun i hi=>by omega))
  |guard_hyp zT31:Tg 1
   have hk3:(kk != 0)=true:=by simpa using hk
   have HX:=hI0 (decCm_chk HBIG.out HD.out HED.out.symm (by rw [←HKK.out];exact hk))
   go_wp2_with (refine wpList_storeRow (cur:=#[.int .i64 0,.int .i64 0,.int .i64 0,.int .i64 0,.slice none 0 0,.slice none 0 0,.slice none 0 0,.slice none 0 0,.slice none 0 0,.slice none 0 0]) (vs:=#[.int .i64 0,.int .i64 0,.int .i64 0,.int .i64 0,.slice none 0 0,.slice none 0 0,.slice none 0 0,.slice none 0 0,.slice none 0 0,.slice none 0 0]) (.tmp 2) (.tmp 63) rfl rfl rfl rfl sz_com rfl rfl HR2.out.res ?_;intro E hE hEc)
   have hbE:Below w.heap.size w E:=HCG.out.trans (hEc.below (by have:=HCG.out.size;omega) (fun i hi=>by omega))
  |have hi:(1048576:Int)<(l.length:Int):=by omega
   have hH:(w.alloc (.cells #[.int .i64 0,.int .i64 0,.int .i64 0,.int .i64 0,.slice none 0 0,.slice none 0 0,.slice none 0 0,.slice none 0 0,.slice none 0 0,.slice none 0 0] 29)).heap[w.heap.size]? =some (.cells #[.int .i64 0,.int .i64 0,.int .i64 0,.int .i64 0,.slice none 0 0,.slice none 0 0,.slice none 0 0,.slice none 0 0,.slice none 0 0,.slice none 0 0] 29 (0,0)):=heap_alloc_new _ _
   have HD:=hI0 (decCm_big hbig)
   clear hv hbig
   go_enter Tryz.func17,Tryz.ntmps17
   go_wp2_with (refine wpList_storeRow (cur:=#[.int .i64 0,.int .i64 0,.int .i64 0,.int .i64 0,.slice none 0 0,.slice none 0 0,.slice none 0 0,.slice none 0 0,.slice none 0 0,.slice none 0 0]) (vs:=#[.int .i64 0,.int .i64 0,.int .i64 0,.int .i64 0,.slice none 0 0,.slice none 0 0,.slice none 0 0,.slice none 0 0,.slice none 0 0,.slice none 0 0]) (.tmp 2) (.tmp 11) rfl rfl rfl rfl sz_com rfl rfl hH ?_;intro E hE hEc)
   have hbE:Below w.heap.size w E:=(Below.of_alloc _).trans (hEc.below (by simp) (fun i hi=>by omega))
 have HE:=hI0 hE
 have HEc:=hI0 hEc
 clear hE hEc
 have p0:E.cell? ⟨w.heap.size,0,none⟩=some (.int .i64 0):=cW0 E _ 0 _ _ _ HE.out
 have p1:E.cell? ⟨w.heap.size,1,none⟩=some (.int .i64 0):=cW0 E _ 1 _ _ _ HE.out
 have p2:E.cell? ⟨w.heap.size,2,none⟩=some (.int .i64 0):=cW0 E _ 2 _ _ _ HE.out
 have p3:E.cell? ⟨w.heap.size,3,none⟩=some (.int .i64 0):=cW0 E _ 3 _ _ _ HE.out
 have p4:E.cell? ⟨w.heap.size,4,none⟩=some (.slice none 0 0):=cW0 E _ 4 _ _ _ HE.out
 have p5:E.cell? ⟨w.heap.size,5,none⟩=some (.slice none 0 0):=cW0 E _ 5 _ _ _ HE.out
 have p6:E.cell? ⟨w.heap.size,6,none⟩=some (.slice none 0 0):=cW0 E _ 6 _ _ _ HE.out
 have p7:E.cell? ⟨w.heap.size,7,none⟩=some (.slice none 0 0):=cW0 E _ 7 _ _ _ HE.out
 have p8:E.cell? ⟨w.heap.size,8,none⟩=some (.slice none 0 0):=cW0 E _ 8 _ _ _ HE.out
 have p9:E.cell? ⟨w.heap.size,9,none⟩=some (.slice none 0 0):=cW0 E _ 9 _ _ _ HE.out
 first
  |guard_hyp zT31:Tg 2
   exact bodyPost_ret (v:=.tuple #[.agg #[.int .i64 0,.int .i64 0,.int .i64 0,.int .i64 0,.slice none 0 0,.slice none 0 0,.slice none 0 0,.slice none 0 0,.slice none 0 0,.slice none 0 0],.int .i64 (ed)]) (by simp [results,Tryz.results17,go_sem,p0,p1,p2,p3,p4,p5,p6,p7,p8,p9]) rfl ⟨RCm.none_,by rw [HX.out,←HED.out];rfl,by rw [HX.out];rfl,none_is _ _,(fun x hx=>by cases hx),hbE⟩
   skip
  |guard_hyp zT31:Tg 1
   exact bodyPost_ret (v:=.tuple #[.agg #[.int .i64 0,.int .i64 0,.int .i64 0,.int .i64 0,.slice none 0 0,.slice none 0 0,.slice none 0 0,.slice none 0 0,.slice none 0 0,.slice none 0 0],.int .i64 (kk)]) (by simp [results,Tryz.results17,go_sem,p0,p1,p2,p3,p4,p5,p6,p7,p8,p9]) rfl ⟨RCm.none_,by rw [HX.out,←HKK.out];rfl,by rw [HX.out];rfl,none_is _ _,(fun x hx=>by cases hx),hbE⟩
   skip
  |exact bodyPost_ret (v:=.tuple #[.agg #[.int .i64 0,.int .i64 0,.int .i64 0,.int .i64 0,.slice none 0 0,.slice none 0 0,.slice none 0 0,.slice none 0 0,.slice none 0 0,.slice none 0 0],.int .i64 (5)]) (by simp [results,Tryz.results17,go_sem,p0,p1,p2,p3,p4,p5,p6,p7,p8,p9]) rfl ⟨RCm.none_,by rw [HD.out];rfl,by rw [HD.out];rfl,none_is _ _,(fun x hx=>by cases hx),hbE⟩) : P := h ⟨⟩
def DecOut (l:List UInt8) (w0:World) (e:Ending) (w:World):Prop:=
 ∃c:RCm,e=.returned (.tuple #[.agg c.enc.toArray,.int .i64 (decCm l).2])∧c.er=(decCm l).1∧c.is w (fun b=>w0.heap.size≤b∧b<w.heap.size)∧(∀x∈c.ents,∀e∈x.create.chks,exAll w (fun b=>w0.heap.size≤b∧b<w.heap.size) e)∧Below w0.heap.size w0 w
theorem none_is (w:World) (F:Nat→Prop):RCm.none_.is w F:=⟨Rd.nil _ _ _,(fun x hx=>by cases hx),Rd.nil _ _ _,(fun x hx=>by cases hx),Rd.nil _ _ _,Rd.nil _ _ _,Rd.nil _ _ _,Rd.nil _ _ _⟩
theorem decCm_big {l:List UInt8} (h:1048576<l.length):decCm l=(RCm.none_,5):=by unfold decCm;rw [if_pos h]
theorem decCm_end {l:List UInt8} {c:RCm} {s:Int×Int} (h:¬ 1048576<l.length) (hc:rdCm l (0,0)=(c,s)) (he:endE s l.length≠0):decCm l=(RCm.none_,endE s l.length):=by unfold decCm;rw [if_neg h,hc,if_pos he]
theorem decCm_chk {l:List UInt8} {c:RCm} {s:Int×Int} (h:¬ 1048576<l.length) (hc:rdCm l (0,0)=(c,s)) (he:endE s l.length=0) (hk:checkF c≠0):decCm l=(RCm.none_,checkF c):=by unfold decCm;rw [if_neg h,hc,if_neg (by simpa using he),if_pos hk]
theorem decCm_ok {l:List UInt8} {c:RCm} {s:Int×Int} (h:¬ 1048576<l.length) (hc:rdCm l (0,0)=(c,s)) (he:endE s l.length=0) (hk:checkF c=0):decCm l=(c,0):=by unfold decCm;rw [if_neg h,hc,if_neg (by simpa using he),if_neg (by simpa using hk)]
theorem RTab.is_kw {w w':World} {F G:Nat→Prop} {t:RTab} (h:t.is w F) (hk:Keeps F w w') (hw:∀b,F b→G b):t.is w' G:=
 ⟨Rd.wide (Rd.keep h.cols hk) hw,Rd.wide (Rd.keep h.key hk) hw,Rd.wide (Rd.keep h.fors hk) hw,fun x hx=>Rd.wide (Rd.keep (h.forI x hx) hk) hw,Rd.wide (Rd.keep h.chks hk) hw,fun x hx=>exIs_wide hw 24 x (exIs_keep hk 24 x (h.chkI x hx))⟩
theorem RCm.is_kw {w w':World} {F G:Nat→Prop} {c:RCm} (h:c.is w F) (hk:Keeps F w w') (hw:∀b,F b→G b):c.is w' G:=
 ⟨Rd.wide (Rd.keep h.ents hk) hw,fun x hx=>⟨RTab.is_kw (h.entI x hx).create hk hw,(h.entI x hx).few,(h.entI x hx).text⟩,Rd.wide (Rd.keep h.dels hk) hw,fun x hx=>⟨Rd.wide (Rd.keep (h.delI x hx).close hk) hw,⟨Rd.wide (Rd.keep (h.delI x hx).opens.1 hk) hw,fun p hp=>isK_F.wide (isK_F.keep ((h.delI x hx).opens.2 p hp) hk) hw⟩,(h.delI x hx).few⟩,
  Rd.wide (Rd.keep h.pla hk) hw,Rd.wide (Rd.keep h.rel hk) hw,Rd.wide (Rd.keep h.pol hk) hw,Rd.wide (Rd.keep h.hor hk) hw⟩
theorem en_is {w:World} {F:Nat→Prop} {x:REn} (h:enIs w F x) (hf:x.er.create.few):x.is w F:=
 ⟨⟨h.1.1,h.1.2.1,h.1.2.2.1,h.1.2.2.2.1,h.1.2.2.2.2.1,fun e he=>h.1.2.2.2.2.2 e he 24⟩,by simpa [RTab.few,REn.er,RTab.er] using hf,h.2.2.2⟩
theorem del_is {w:World} {F:Nat→Prop} {d:RDl} (h:delIs w F d) (hf:d.er.cl.length≤10000000000∧d.er.ops.length≤10000000000):d.is w F:=
 ⟨h.1,⟨h.2.1,h.2.2⟩,by simpa [RDl.er] using hf⟩
theorem sz_com (w:World):(Go.sizeOf 29).run Tryz.prog w=.ok 10 w:=by simp [go_sem]
theorem ag_com (w:World):(isAgg 29).run Tryz.prog w=.ok true w:=by simp [isAgg,go_sem]
theorem decode_any (v:Value) (l:List UInt8) (w:World) (hv:RdB w (·<w.heap.size) v l):
  Calls Tryz.prog 17 #[v] w (DecOut l w):=by
 obtain ⟨Av,cv,rfl,v1,v2,v3⟩:=hv.open_
 have HV3:=hI0 v3
 have hln:l.length≤maxLen:=hv.nonneg
 unfold maxLen at v2 hln
 clear v3
 by_cases hbig:1048576<l.length
 case pos=>
  exact zq31 0
 case neg=>
 have hl:l.length≤10000000000:=by omega
 have hi:¬(1048576:Int)<(l.length:Int):=by omega
 obtain ⟨R,hRe⟩:∃R,R=w.heap.size+1:=⟨_,rfl⟩
 obtain ⟨W,hW⟩:∃W,W=(w.alloc (.cells #[.int .i64 0,.int .i64 0,.int .i64 0,.int .i64 0,.slice none 0 0,.slice none 0 0,.slice none 0 0,.slice none 0 0,.slice none 0 0,.slice none 0 0] 29)).alloc (.cells #[.slice Av l.length cv,.int .i64 0,.int .i64 0] 130):=⟨_,rfl⟩
 have hbW:Below w.heap.size w W:=by rw [hW];exact (Below.of_alloc _).alloc (by simp) _
 have hWs:W.heap.size=w.heap.size+2:=by rw [hW];simp
 have hQ:W.heap[w.heap.size]? =some (.cells #[.int .i64 0,.int .i64 0,.int .i64 0,.int .i64 0,.slice none 0 0,.slice none 0 0,.slice none 0 0,.slice none 0 0,.slice none 0 0,.slice none 0 0] 29 (0,0)):=by rw [hW];exact (Below.heap_alloc _ _ _ (by simp)).trans (heap_alloc_new _ _)
 have hS00:SrcAt W R (.slice Av l.length cv) (0,0):=by
  have h:=heap_alloc_new (w.alloc (.cells #[.int .i64 0,.int .i64 0,.int .i64 0,.int .i64 0,.slice none 0 0,.slice none 0 0,.slice none 0 0,.slice none 0 0,.slice none 0 0,.slice none 0 0] 29)) (.cells #[.slice Av l.length cv,.int .i64 0,.int .i64 0] 130)
  unfold SrcAt
  rw [hW,hRe]
  simpa using h
 obtain ⟨v,hve⟩:∃v,v=Value.slice Av l.length cv:=⟨_,rfl⟩
 rw [←hve] at hS00 hv
 have hS0:SrcAt W.drew R v (0,0):=hS00
 have hC0:Chg (·=R) W W.drew:=(Chg.refl _ _).drew
 have hvW:∀V,Chg (·=R) W V→RdB V (·<R) v l:=fun V hV=>Rd.wide (Rd.keep hv (fun b (hb:b<w.heap.size)=>(hV.block b (by omega) (by omega)).trans (hbW.block b hb))) (fun b (hb:b<w.heap.size)=>by show b<R;omega)
 rcases h1:rdI l (0,0) with ⟨n1,s1⟩
 rcases h2:rdI l s1 with ⟨n2,s2⟩
 rcases h3:rdI l s2 with ⟨n3,s3⟩
 rcases h4:rdI l s3 with ⟨n4,s4⟩
 rcases h5:rdL l (rdEnt l) s4 with ⟨xs5,s5⟩
 rcases h6:rdL l (rdDel l) s5 with ⟨xs6,s6⟩
 rcases h7:rdL l (rdHld l) s6 with ⟨xs7,s7⟩
 rcases h8:rdL l (rdT l) s7 with ⟨xs8,s8⟩
 rcases h9:rdL l (rdPol l) s8 with ⟨xs9,s9⟩
 rcases h10:rdL l (rdHor l) s9 with ⟨xs10,s10⟩
 have hd:rdCm l (0,0)=(⟨n1,n2,n3,n4,none,0,xs5,none,0,xs6,none,0,xs7,none,0,xs8,none,0,xs9,none,0,xs10⟩,s10):=by unfold rdCm;simp only [h1,h2,h3,h4,h5,h6,h7,h8,h9,h10]
 have K1:∀V,SrcAt V R v (0,0)→Chg (·=R) W V→Calls Tryz.prog 60 #[.pointer (some ⟨R,0,none⟩)] V fun x w'=>x=.returned (.int .i64 n1)∧SrcAt w' R v s1∧Chg (·=R) V w':=fun V hs hV=>by
  have k:=srcInt_any R v l (0,0) V hs (hvW V hV)
  rw [h1] at k
  exact k
 have K2:∀V,SrcAt V R v s1→Chg (·=R) W V→Calls Tryz.prog 60 #[.pointer (some ⟨R,0,none⟩)] V fun x w'=>x=.returned (.int .i64 n2)∧SrcAt w' R v s2∧Chg (·=R) V w':=fun V hs hV=>by
  exact zq72
 have K3:∀V,SrcAt V R v s2→Chg (·=R) W V→Calls Tryz.prog 60 #[.pointer (some ⟨R,0,none⟩)] V fun x w'=>x=.returned (.int .i64 n3)∧SrcAt w' R v s3∧Chg (·=R) V w':=fun V hs hV=>by
  have k:=srcInt_any R v l s2 V hs (hvW V hV)
  rw [h3] at k
  exact k
 have K4:∀V,SrcAt V R v s3→Chg (·=R) W V→Calls Tryz.prog 60 #[.pointer (some ⟨R,0,none⟩)] V fun x w'=>x=.returned (.int .i64 n4)∧SrcAt w' R v s4∧Chg (·=R) V w':=fun V hs hV=>by
  have k:=srcInt_any R v l s3 V hs (hvW V hV)
  rw [h4] at k
  exact k
 have K5:∀V,SrcAt V R v s4→Chg (·=R) W V→Calls Tryz.prog 61 #[.pointer (some ⟨R,0,none⟩),.func (.func 62) #[] #[]] V (GetE 16 REn.enc enIs REn.er R v (xs5,s5) V):=fun V hs hV=>by
  have k:=getEnt_any R v l (rdEnt l) 62 (entF Tryz.func62) s4 V hs (hvW V hV) hl mon_Ent (fun s U hsU hU=>rdrEnt_any R v l s U hsU (hvW U (hV.trans hU (fun _ _ h=>h))) hl)
  rw [h5] at k
  exact k
 have K6:∀V,SrcAt V R v s5→Chg (·=R) W V→Calls Tryz.prog 63 #[.pointer (some ⟨R,0,none⟩),.func (.func 64) #[] #[]] V (GetE 3 RDl.enc delIs RDl.er R v (xs6,s6) V):=fun V hs hV=>by
  have k:=getDel_any R v l (rdDel l) 64 (entF Tryz.func64) s5 V hs (hvW V hV) hl mon_Del (fun s U hsU hU=>rdrDel_any R v l s U hsU (hvW U (hV.trans hU (fun _ _ h=>h))) hl)
  rw [h6] at k
  exact k
 have K7:∀V,SrcAt V R v s6→Chg (·=R) W V→Calls Tryz.prog 65 #[.pointer (some ⟨R,0,none⟩),.func (.func 66) #[] #[]] V (GetE 6 Hld.enc isT id R v (xs7,s7) V):=fun V hs hV=>by
  have k:=getHld_any R v l (rdHld l) 66 (entF Tryz.func66) s6 V hs (hvW V hV) hl mon_Hld (fun s U hsU hU=>rdrHld_any R v l s U hsU (hvW U (hV.trans hU (fun _ _ h=>h))))
  rw [h7] at k
  exact k
 have K8:∀V,SrcAt V R v s7→Chg (·=R) W V→Calls Tryz.prog 67 #[.pointer (some ⟨R,0,none⟩),.func (.func 68) #[] #[]] V (GetE 1 strE isT id R v (xs8,s8) V):=fun V hs hV=>by
  have k:=getStr_any R v l (rdT l) 68 (entF Tryz.func68) s7 V hs (hvW V hV) hl mon_T (fun s U hsU hU=>rdrNam_any R v l s U hsU (hvW U (hV.trans hU (fun _ _ h=>h))))
  rw [h8] at k
  exact k
 have K9:∀V,SrcAt V R v s8→Chg (·=R) W V→Calls Tryz.prog 69 #[.pointer (some ⟨R,0,none⟩),.func (.func 70) #[] #[]] V (GetE 2 Pol.enc isT id R v (xs9,s9) V):=fun V hs hV=>by
  have k:=getPol_any R v l (rdPol l) 70 (entF Tryz.func70) s8 V hs (hvW V hV) hl mon_Pol (fun s U hsU hU=>rdrPol_any R v l s U hsU (hvW U (hV.trans hU (fun _ _ h=>h))))
  rw [h9] at k
  exact k
 have K10:∀V,SrcAt V R v s9→Chg (·=R) W V→Calls Tryz.prog 71 #[.pointer (some ⟨R,0,none⟩),.func (.func 72) #[] #[]] V (GetE 2 Hor.enc isT id R v (xs10,s10) V):=fun V hs hV=>by
  have k:=getHor_any R v l (rdHor l) 72 (entF Tryz.func72) s9 V hs (hvW V hV) hl mon_Hor (fun s U hsU hU=>rdrHor_any R v l s U hsU (hvW U (hV.trans hU (fun _ _ h=>h))))
  rw [h10] at k
  exact k
 have HQ:=hI0 hQ
 have HbW:=hI0 hbW
 have HD:=hI0 hd
 have HBIG:=hI0 hbig
 have HVW:=hI0 hvW
 have HLE:Hid (∀y∈xs5,y.create.few):=hI0 (fun y hy=>by have:=rdL_all (p:=fun y:REn=>y.create.few) (l:=l) (one:=rdEnt l) (rdEnt_few hl) s4;rw [h5] at this;exact this y hy)
 have HLD:Hid (∀y∈xs6,y.cl.length≤10000000000∧y.ops.length≤10000000000):=hI0 (fun y hy=>by have:=rdL_all (p:=fun y:RDl=>y.cl.length≤10000000000∧y.ops.length≤10000000000) (l:=l) (one:=rdDel l) (rdDel_few hl) s5;rw [h6] at this;exact this y hy)
 clear hv hvW hQ hbW h1 h2 h3 h4 h5 h6 h7 h8 h9 h10 hd hbig
 go_enter Tryz.func17,Tryz.ntmps17
 go_upto_region 4 with (fail)
 rw [←hW,←hRe]
 have hR1:w.heap.size<R:=by omega
 have hR2:R<w.heap.size+2:=by omega
 clear hW hRe
 refine (fun (tl:∀(T:Nat) (V:World),W.heap.size≤T→T<V.heap.size→V.heap[T]? =some (.cells #[.int .i64 0,.int .i64 0,.int .i64 0,.int .i64 0,.slice none 0 0,.slice none 0 0,.slice none 0 0,.slice none 0 0,.slice none 0 0,.slice none 0 0] 29 (0,0))→SrcAt V R v s4→Chg (·=R) W V→(?Rest:Nat→World→Prop) T V)=>?leaves) ?tl9
 case leaves=>
  exact zq26 1
 case tl9=>
  intro T V hTW hTlV hTV hSV hCV
  refine fork1 18 (by kernel_rfl) ?_
  refine skipRunF 18 none (w':=(V.setRow T #[.int .i64 n1,.int .i64 n2,.int .i64 n3,.int .i64 n4,.slice none 0 0,.slice none 0 0,.slice none 0 0,.slice none 0 0,.slice none 0 0,.slice none 0 0])) rfl rfl (by rfl) ?_ ?_
  ·exact exec_storeRow (cur:=#[.int .i64 0,.int .i64 0,.int .i64 0,.int .i64 0,.slice none 0 0,.slice none 0 0,.slice none 0 0,.slice none 0 0,.slice none 0 0,.slice none 0 0]) (vs:=#[.int .i64 n1,.int .i64 n2,.int .i64 n3,.int .i64 n4,.slice none 0 0,.slice none 0 0,.slice none 0 0,.slice none 0 0,.slice none 0 0,.slice none 0 0]) (.tmp 5) (.tmp 32) rfl rfl rfl sz_com rfl rfl hTV
  have hTY:=setRow_heap V T _ #[.int .i64 n1,.int .i64 n2,.int .i64 n3,.int .i64 n4,.slice none 0 0,.slice none 0 0,.slice none 0 0,.slice none 0 0,.slice none 0 0,.slice none 0 0] _ _ hTV
  have hYc:=chg_setRow V T #[.int .i64 n1,.int .i64 n2,.int .i64 n3,.int .i64 n4,.slice none 0 0,.slice none 0 0,.slice none 0 0,.slice none 0 0,.slice none 0 0,.slice none 0 0]
  generalize V.setRow T #[.int .i64 n1,.int .i64 n2,.int .i64 n3,.int .i64 n4,.slice none 0 0,.slice none 0 0,.slice none 0 0,.slice none 0 0,.slice none 0 0,.slice none 0 0]=Y4 at *
  have hC4:Chg (·=R) W Y4:=hCV.trans hYc (fun i hi (h:i=T)=>by omega)
  have hS4:SrcAt Y4 R v s4:=(hYc.block R hSV.lt (by show R≠T;omega)).trans hSV
  have hw4:=hYc.size
  clear hYc hTV hSV hCV
  refine ⟨fun h=>absurd rfl h,?_⟩
  simp only [Act.put]
  refine doneT (by kernel_rfl) ?_ _
  refine NoPanic.normal ?_
  have hr4:RdS R T w.heap.size v s4 #[.int .i64 0,.int .i64 0,.int .i64 0,.int .i64 0,.slice none 0 0,.slice none 0 0,.slice none 0 0,.slice none 0 0,.slice none 0 0,.slice none 0 0] #[.int .i64 n1,.int .i64 n2,.int .i64 n3,.int .i64 n4,.slice none 0 0,.slice none 0 0,.slice none 0 0,.slice none 0 0,.slice none 0 0,.slice none 0 0] 29 Y4:=⟨hS4,hTY,(hC4.block _ (by omega) (by show w.heap.size≠R;omega)).trans HQ.out,by omega,by omega,by omega⟩
  clear hTY hS4 K1 K2 K3 K4 hS0 hC0 hS00
  go_wp2_with fail
  (with_reducible refine (K5 Y4 hr4.src hC4).mono ?_)
  rintro _ v5 ⟨u5,Q5,rfl,hU5,hI5,hE5,hS5,hD5⟩
  obtain ⟨A5,c5,rfl⟩:=rdE_slice hU5
  have HU5:=hI0 hU5
  have HI5:=hI0 hI5
  have HE5:=hI0 hE5
  clear hU5 hI5 hE5
  have hr5':=hr4.call hS5 hD5
  have hC5':Chg (·=R) W v5:=hC4.trans hD5 (fun _ _ h=>h)
  have hz5:=hD5.size
  have HD5:=hI0 hD5
  have p4:v5.cell? ⟨T,4,none⟩=some (.slice none 0 0):=cW0 v5 _ 4 _ _ _ hr5'.box
  have g4:v5.frozen? ⟨T,4,none⟩=false:=fW0 v5 _ 4 _ _ hr5'.box
  go_upto_region 6 with (fail)
  clear p4 g4 hr4 hC4 hS5 hD5 K5
  have hr5:=hr5'.put 4 (.slice A5 Q5.length c5) (cs':=#[.int .i64 n1,.int .i64 n2,.int .i64 n3,.int .i64 n4,.slice A5 Q5.length c5,.slice none 0 0,.slice none 0 0,.slice none 0 0,.slice none 0 0,.slice none 0 0])
  have hy5:=St3.put (R:=R) (T:=T) (H:=w.heap.size) v5 4 (.slice A5 Q5.length c5)
  have hC5:Chg (·=R) W (v5.setCell ⟨T,4,none⟩ (.slice A5 Q5.length c5)):=hC5'.setCell (p:=⟨T,4,none⟩) (.inr hTW) _
  clear hr5' hC5'
  generalize v5.setCell ⟨T,4,none⟩ (.slice A5 Q5.length c5)=Y5 at *
  have hw5:=hy5.size
  have HY5:=hI0 hy5
  clear hy5
  go_wp2_with fail
  (with_reducible refine (K6 Y5 hr5.src hC5).mono ?_)
  rintro _ v6 ⟨u6,Q6,rfl,hU6,hI6,hE6,hS6,hD6⟩
  obtain ⟨A6,c6,rfl⟩:=rdE_slice hU6
  have HU6:=hI0 hU6
  have HI6:=hI0 hI6
  have HE6:=hI0 hE6
  clear hU6 hI6 hE6
  have hr6':=hr5.call hS6 hD6
  have hC6':Chg (·=R) W v6:=hC5.trans hD6 (fun _ _ h=>h)
  have hz6:=hD6.size
  have HD6:=hI0 hD6
  have p5:v6.cell? ⟨T,5,none⟩=some (.slice none 0 0):=cW0 v6 _ 5 _ _ _ hr6'.box
  have g5:v6.frozen? ⟨T,5,none⟩=false:=fW0 v6 _ 5 _ _ hr6'.box
  go_upto_region 7 with (fail)
  clear p5 g5 hr5 hC5 hS6 hD6 K6
  have hr6:=hr6'.put 5 (.slice A6 Q6.length c6) (cs':=#[.int .i64 n1,.int .i64 n2,.int .i64 n3,.int .i64 n4,.slice A5 Q5.length c5,.slice A6 Q6.length c6,.slice none 0 0,.slice none 0 0,.slice none 0 0,.slice none 0 0])
  have hy6:=St3.put (R:=R) (T:=T) (H:=w.heap.size) v6 5 (.slice A6 Q6.length c6)
  have hC6:Chg (·=R) W (v6.setCell ⟨T,5,none⟩ (.slice A6 Q6.length c6)):=hC6'.setCell (p:=⟨T,5,none⟩) (.inr hTW) _
  clear hr6' hC6'
  generalize v6.setCell ⟨T,5,none⟩ (.slice A6 Q6.length c6)=Y6 at *
  have hw6:=hy6.size
  have HY6:=hI0 hy6
  clear hy6
  go_wp2_with fail
  (with_reducible refine (K7 Y6 hr6.src hC6).mono ?_)
  rintro _ v7 ⟨u7,Q7,rfl,hU7,hI7,hE7,hS7,hD7⟩
  rw [List.map_id] at hE7
  obtain ⟨A7,c7,rfl⟩:=rdE_slice hU7
  have HU7:=hI0 hU7
  have HI7:=hI0 hI7
  have HE7:=hI0 hE7
  clear hU7 hI7 hE7
  have hr7':=hr6.call hS7 hD7
  have hC7':Chg (·=R) W v7:=hC6.trans hD7 (fun _ _ h=>h)
  have hz7:=hD7.size
  have HD7:=hI0 hD7
  have p6:v7.cell? ⟨T,6,none⟩=some (.slice none 0 0):=cW0 v7 _ 6 _ _ _ hr7'.box
  have g6:v7.frozen? ⟨T,6,none⟩=false:=fW0 v7 _ 6 _ _ hr7'.box
  go_upto_region 8 with (fail)
  clear p6 g6 hr6 hC6 hS7 hD7 K7
  have hr7:=hr7'.put 6 (.slice A7 Q7.length c7) (cs':=#[.int .i64 n1,.int .i64 n2,.int .i64 n3,.int .i64 n4,.slice A5 Q5.length c5,.slice A6 Q6.length c6,.slice A7 Q7.length c7,.slice none 0 0,.slice none 0 0,.slice none 0 0])
  have hy7:=St3.put (R:=R) (T:=T) (H:=w.heap.size) v7 6 (.slice A7 Q7.length c7)
  have hC7:Chg (·=R) W (v7.setCell ⟨T,6,none⟩ (.slice A7 Q7.length c7)):=hC7'.setCell (p:=⟨T,6,none⟩) (.inr hTW) _
  clear hr7' hC7'
  generalize v7.setCell ⟨T,6,none⟩ (.slice A7 Q7.length c7)=Y7 at *
  have hw7:=hy7.size
  have HY7:=hI0 hy7
  clear hy7
  go_wp2_with fail
  (with_reducible refine (K8 Y7 hr7.src hC7).mono ?_)
  rintro _ v8 ⟨u8,Q8,rfl,hU8,hI8,hE8,hS8,hD8⟩
  rw [List.map_id] at hE8
  obtain ⟨A8,c8,rfl⟩:=rdE_slice hU8
  have HU8:=hI0 hU8
  have HI8:=hI0 hI8
  have HE8:=hI0 hE8
  clear hU8 hI8 hE8
  have hr8':=hr7.call hS8 hD8
  have hC8':Chg (·=R) W v8:=hC7.trans hD8 (fun _ _ h=>h)
  have hz8:=hD8.size
  have HD8:=hI0 hD8
  have p7:v8.cell? ⟨T,7,none⟩=some (.slice none 0 0):=cW0 v8 _ 7 _ _ _ hr8'.box
  have g7:v8.frozen? ⟨T,7,none⟩=false:=fW0 v8 _ 7 _ _ hr8'.box
  go_upto_region 9 with (fail)
  clear p7 g7 hr7 hC7 hS8 hD8 K8
  have hr8:=hr8'.put 7 (.slice A8 Q8.length c8) (cs':=#[.int .i64 n1,.int .i64 n2,.int .i64 n3,.int .i64 n4,.slice A5 Q5.length c5,.slice A6 Q6.length c6,.slice A7 Q7.length c7,.slice A8 Q8.length c8,.slice none 0 0,.slice none 0 0])
  have hy8:=St3.put (R:=R) (T:=T) (H:=w.heap.size) v8 7 (.slice A8 Q8.length c8)
  have hC8:Chg (·=R) W (v8.setCell ⟨T,7,none⟩ (.slice A8 Q8.length c8)):=hC8'.setCell (p:=⟨T,7,none⟩) (.inr hTW) _
  clear hr8' hC8'
  generalize v8.setCell ⟨T,7,none⟩ (.slice A8 Q8.length c8)=Y8 at *
  have hw8:=hy8.size
  have HY8:=hI0 hy8
  clear hy8
  go_wp2_with fail
  (with_reducible refine (K9 Y8 hr8.src hC8).mono ?_)
  rintro _ v9 ⟨u9,Q9,rfl,hU9,hI9,hE9,hS9,hD9⟩
  rw [List.map_id] at hE9
  obtain ⟨A9,c9,rfl⟩:=rdE_slice hU9
  have HU9:=hI0 hU9
  have HI9:=hI0 hI9
  have HE9:=hI0 hE9
  clear hU9 hI9 hE9
  have hr9':=hr8.call hS9 hD9
  have hC9':Chg (·=R) W v9:=hC8.trans hD9 (fun _ _ h=>h)
  have hz9:=hD9.size
  have HD9:=hI0 hD9
  have p8:v9.cell? ⟨T,8,none⟩=some (.slice none 0 0):=cW0 v9 _ 8 _ _ _ hr9'.box
  have g8:v9.frozen? ⟨T,8,none⟩=false:=fW0 v9 _ 8 _ _ hr9'.box
  go_upto_region 10 with (fail)
  clear p8 g8 hr8 hC8 hS9 hD9 K9
  have hr9:=hr9'.put 8 (.slice A9 Q9.length c9) (cs':=#[.int .i64 n1,.int .i64 n2,.int .i64 n3,.int .i64 n4,.slice A5 Q5.length c5,.slice A6 Q6.length c6,.slice A7 Q7.length c7,.slice A8 Q8.length c8,.slice A9 Q9.length c9,.slice none 0 0])
  have hy9:=St3.put (R:=R) (T:=T) (H:=w.heap.size) v9 8 (.slice A9 Q9.length c9)
  have hC9:Chg (·=R) W (v9.setCell ⟨T,8,none⟩ (.slice A9 Q9.length c9)):=hC9'.setCell (p:=⟨T,8,none⟩) (.inr hTW) _
  clear hr9' hC9'
  generalize v9.setCell ⟨T,8,none⟩ (.slice A9 Q9.length c9)=Y9 at *
  have hw9:=hy9.size
  have HY9:=hI0 hy9
  clear hy9
  go_wp2_with fail
  (with_reducible refine (K10 Y9 hr9.src hC9).mono ?_)
  rintro _ v10 ⟨u10,Q10,rfl,hU10,hI10,hE10,hS10,hD10⟩
  rw [List.map_id] at hE10
  obtain ⟨A10,c10,rfl⟩:=rdE_slice hU10
  have HU10:=hI0 hU10
  have HI10:=hI0 hI10
  have HE10:=hI0 hE10
  clear hU10 hI10 hE10
  have hr10':=hr9.call hS10 hD10
  have hC10':Chg (·=R) W v10:=hC9.trans hD10 (fun _ _ h=>h)
  have hz10:=hD10.size
  have HD10:=hI0 hD10
  have p9:v10.cell? ⟨T,9,none⟩=some (.slice none 0 0):=cW0 v10 _ 9 _ _ _ hr10'.box
  have g9:v10.frozen? ⟨T,9,none⟩=false:=fW0 v10 _ 9 _ _ hr10'.box
  go_upto_region 11 with (fail)
  clear p9 g9 hr9 hC9 hS10 hD10 K10
  have hr10:=hr10'.put 9 (.slice A10 Q10.length c10) (cs':=#[.int .i64 n1,.int .i64 n2,.int .i64 n3,.int .i64 n4,.slice A5 Q5.length c5,.slice A6 Q6.length c6,.slice A7 Q7.length c7,.slice A8 Q8.length c8,.slice A9 Q9.length c9,.slice A10 Q10.length c10])
  have hy10:=St3.put (R:=R) (T:=T) (H:=w.heap.size) v10 9 (.slice A10 Q10.length c10)
  have hC10:Chg (·=R) W (v10.setCell ⟨T,9,none⟩ (.slice A10 Q10.length c10)):=hC10'.setCell (p:=⟨T,9,none⟩) (.inr hTW) _
  clear hr10' hC10'
  generalize v10.setCell ⟨T,9,none⟩ (.slice A10 Q10.length c10)=Y10 at *
  have hw10:=hy10.size
  have HY10:=hI0 hy10
  clear hy10
  have KE:=srcEnd_any R v l s10 Y10 hr10.src (HVW.out Y10 hC10)
  obtain ⟨ed,hed⟩:∃ed,ed=endE s10 l.length:=⟨_,rfl⟩
  rw [←hed] at KE
  have HED:=hI0 hed
  clear hed
  go_wp2_with fail
  (with_reducible refine KE.mono ?_)
  rintro _ F ⟨rfl,hbF⟩
  have hzF:=hbF.size
  have hrF:RdS R T w.heap.size v s10 #[.int .i64 0,.int .i64 0,.int .i64 0,.int .i64 0,.slice none 0 0,.slice none 0 0,.slice none 0 0,.slice none 0 0,.slice none 0 0,.slice none 0 0] #[.int .i64 n1,.int .i64 n2,.int .i64 n3,.int .i64 n4,.slice A5 Q5.length c5,.slice A6 Q6.length c6,.slice A7 Q7.length c7,.slice A8 Q8.length c8,.slice A9 Q9.length c9,.slice A10 Q10.length c10] 29 F:=⟨hr10.src.below hbF,(hbF.block T hr10.lt.1).trans hr10.box,(hbF.block _ hr10.lt.2).trans hr10.res,hr10.ne⟩
  have hTl:=hr10.lt.1
  have hCF:Below w.heap.size w F:=(HbW.out.trans (hC10.below (B:=w.heap.size) (by omega) (fun i hi=>by omega))).trans (hbF.mono (by have:=hC10.size;omega))
  have HR:=hI0 hrF
  have HCF:=hI0 hCF
  have HBF:=hI0 hbF
  clear hr10 hC10 KE hrF hCF hbF
  have q10:=(HY10.out).trans (St3.of (R:=R) (T:=T) (H:=w.heap.size) (Chg.of_below (S:=(·=R)) HBF.out))
  have q9:=HY9.out.trans ((St3.of HD10.out).trans q10)
  have q8:=HY8.out.trans ((St3.of HD9.out).trans q9)
  have q7:=HY7.out.trans ((St3.of HD8.out).trans q8)
  have q6:=HY6.out.trans ((St3.of HD7.out).trans q7)
  have q5:=HY5.out.trans ((St3.of HD6.out).trans q6)
  have Hq5:=hI0 (keep3 (V:=Y4) (w':=W) q5 (by omega) (by omega) (by omega) (by omega))
  have Hq6:=hI0 (keep3 (V:=Y5) (w':=W) q6 (by omega) (by omega) (by omega) (by omega))
  have Hq7:=hI0 (keep3 (V:=Y6) (w':=W) q7 (by omega) (by omega) (by omega) (by omega))
  have Hq8:=hI0 (keep3 (V:=Y7) (w':=W) q8 (by omega) (by omega) (by omega) (by omega))
  have Hq9:=hI0 (keep3 (V:=Y8) (w':=W) q9 (by omega) (by omega) (by omega) (by omega))
  have Hq10:=hI0 (keep3 (V:=Y9) (w':=W) q10 (by omega) (by omega) (by omega) (by omega))
  clear q5 q6 q7 q8 q9 q10
  obtain ⟨C,hCe⟩:∃C:RCm,C=⟨n1,n2,n3,n4,A5,c5,Q5,A6,c6,Q6,A7,c7,Q7,A8,c8,Q8,A9,c9,Q9,A10,c10,Q10⟩:=⟨_,rfl⟩
  have hCer:C.er=⟨n1,n2,n3,n4,none,0,xs5,none,0,xs6,none,0,xs7,none,0,xs8,none,0,xs9,none,0,xs10⟩:=by
   rw [hCe]
   simp only [RCm.er,HE5.out,HE6.out,HE7.out,HE8.out,HE9.out,HE10.out]
  have HCER:=hI0 hCer
  clear hCer
  by_cases he:ed=0
  case neg=>
   exact zq31 2
  case pos=>
  subst he
  have hcis:C.is F (fun b=>W.heap.size≤b∧b<F.heap.size):=by
   have e5:=HE5.out
   have e6:=HE6.out
   rw [hCe]
   refine ⟨Rd.wide (Rd.keep HU5.out Hq5.out.1) Hq5.out.2,fun x hx=>?_,Rd.wide (Rd.keep HU6.out Hq6.out.1) Hq6.out.2,fun x hx=>?_,Rd.wide (Rd.keep HU7.out Hq7.out.1) Hq7.out.2,Rd.wide (Rd.keep HU8.out Hq8.out.1) Hq8.out.2,Rd.wide (Rd.keep HU9.out Hq9.out.1) Hq9.out.2,Rd.wide (Rd.keep HU10.out Hq10.out.1) Hq10.out.2⟩
   ·have h:=isK_En.wide (isK_En.keep (HI5.out x hx) Hq5.out.1) Hq5.out.2
    exact en_is h (HLE.out x.er (by rw [←e5];exact List.mem_map_of_mem hx))
   ·have h:=isK_D.wide (isK_D.keep (HI6.out x hx) Hq6.out.1) Hq6.out.2
    exact del_is h (HLD.out x.er (by rw [←e6];exact List.mem_map_of_mem hx))
  have HCIS:=hI0 hcis
  have hcx:∀x∈C.ents,∀e∈x.create.chks,exAll F (fun b=>W.heap.size≤b∧b<F.heap.size) e:=by
   rw [hCe]
   exact fun x hx e he=>(isK_En.wide (isK_En.keep (HI5.out x hx) Hq5.out.1) Hq5.out.2).1.2.2.2.2.2 e he
  have HCX:=hI0 hcx
  have KC:=check_any C F (RCm.is_kw hcis (fun _ _=>rfl) (fun b hb=>hb.2))
  obtain ⟨kk,hkk⟩:∃kk,kk=checkF C:=⟨_,rfl⟩
  rw [←hkk] at KC
  have hk2:kk=checkF ⟨n1,n2,n3,n4,none,0,xs5,none,0,xs6,none,0,xs7,none,0,xs8,none,0,xs9,none,0,xs10⟩:=by rw [hkk,←checkF_er C,HCER.out]
  have HKK:=hI0 hk2
  have HCE:=hI0 hCe
  rw [hCe] at KC
  change Calls Tryz.prog 11 #[.agg #[.int .i64 n1,.int .i64 n2,.int .i64 n3,.int .i64 n4,.slice A5 Q5.length c5,.slice A6 Q6.length c6,.slice A7 Q7.length c7,.slice A8 Q8.length c8,.slice A9 Q9.length c9,.slice A10 Q10.length c10]] F (fun e w'=>e=.returned (.int .i64 kk)∧Below F.heap.size F w') at KC
  clear hkk hk2 hCe hcis hcx
  go_wp2_with (refine wpList_loadRow (cs:=#[.int .i64 n1,.int .i64 n2,.int .i64 n3,.int .i64 n4,.slice A5 Q5.length c5,.slice A6 Q6.length c6,.slice A7 Q7.length c7,.slice A8 Q8.length c8,.slice A9 Q9.length c9,.slice A10 Q10.length c10]) (T:=T) (.tmp 5) rfl rfl rfl sz_com ag_com HR.out.box ?_)
  (with_reducible refine KC.mono ?_)
  rintro _ G ⟨rfl,hbG⟩
  have hzG:=hbG.size
  have hrG:RdS R T w.heap.size v s10 #[.int .i64 0,.int .i64 0,.int .i64 0,.int .i64 0,.slice none 0 0,.slice none 0 0,.slice none 0 0,.slice none 0 0,.slice none 0 0,.slice none 0 0] #[.int .i64 n1,.int .i64 n2,.int .i64 n3,.int .i64 n4,.slice A5 Q5.length c5,.slice A6 Q6.length c6,.slice A7 Q7.length c7,.slice A8 Q8.length c8,.slice A9 Q9.length c9,.slice A10 Q10.length c10] 29 G:=⟨HR.out.src.below hbG,(hbG.block T HR.out.lt.1).trans HR.out.box,(hbG.block _ HR.out.lt.2).trans HR.out.res,HR.out.ne⟩
  have hCG:Below w.heap.size w G:=HCF.out.trans (hbG.mono HCF.out.size)
  have HR2:=hI0 hrG
  have HCG:=hI0 hCG
  have HBG:=hI0 hbG
  clear hrG hCG hbG KC
  by_cases hk:kk=0
  case neg=>
   exact zq31 1
  case pos=>
  subst hk
  have HX:=hI0 (decCm_ok HBIG.out HD.out HED.out.symm HKK.out.symm)
  go_wp2_with (first|(refine wpList_loadRow (cs:=#[.int .i64 n1,.int .i64 n2,.int .i64 n3,.int .i64 n4,.slice A5 Q5.length c5,.slice A6 Q6.length c6,.slice A7 Q7.length c7,.slice A8 Q8.length c8,.slice A9 Q9.length c9,.slice A10 Q10.length c10]) (T:=T) (.tmp 5) rfl rfl rfl sz_com ag_com HR2.out.box ?_)|(refine wpList_storeRow (cur:=#[.int .i64 0,.int .i64 0,.int .i64 0,.int .i64 0,.slice none 0 0,.slice none 0 0,.slice none 0 0,.slice none 0 0,.slice none 0 0,.slice none 0 0]) (vs:=#[.int .i64 n1,.int .i64 n2,.int .i64 n3,.int .i64 n4,.slice A5 Q5.length c5,.slice A6 Q6.length c6,.slice A7 Q7.length c7,.slice A8 Q8.length c8,.slice A9 Q9.length c9,.slice A10 Q10.length c10]) (.tmp 2) (.tmp 65) rfl rfl rfl rfl sz_com rfl rfl HR2.out.res ?_;intro E hE hEc))
  have hbE:Below w.heap.size w E:=HCG.out.trans (hEc.below (by have:=HCG.out.size;omega) (fun i hi=>by omega))
  have hzE:=hEc.size
  have hisE:C.is E (fun b=>w.heap.size≤b∧b<E.heap.size):=RCm.is_kw HCIS.out (fun b hb=>(hEc.block b (by omega) (by show b≠w.heap.size;have:=hb.1;omega)).trans (HBG.out.block b hb.2)) (fun b hb=>⟨by have:=hb.1;omega,by have:=hb.2;omega⟩)
  have hxE:∀x∈C.ents,∀e∈x.create.chks,exAll E (fun b=>w.heap.size≤b∧b<E.heap.size) e:=fun x hx e he=>isK_X.wide (isK_X.keep (HCX.out x hx e he) (fun b hb=>(hEc.block b (by omega) (by show b≠w.heap.size;have:=hb.1;omega)).trans (HBG.out.block b hb.2))) (fun b hb=>⟨by have:=hb.1;omega,by have:=hb.2;omega⟩)
  rw [HCE.out] at hisE hxE
  have HE:=hI0 hE
  have HEc:=hI0 hEc
  clear hE hEc
  have p0:E.cell? ⟨w.heap.size,0,none⟩=some (.int .i64 n1):=cW0 E _ 0 _ _ _ HE.out
  have p1:E.cell? ⟨w.heap.size,1,none⟩=some (.int .i64 n2):=cW0 E _ 1 _ _ _ HE.out
  have p2:E.cell? ⟨w.heap.size,2,none⟩=some (.int .i64 n3):=cW0 E _ 2 _ _ _ HE.out
  have p3:E.cell? ⟨w.heap.size,3,none⟩=some (.int .i64 n4):=cW0 E _ 3 _ _ _ HE.out
  have p4:E.cell? ⟨w.heap.size,4,none⟩=some (.slice A5 Q5.length c5):=cW0 E _ 4 _ _ _ HE.out
  have p5:E.cell? ⟨w.heap.size,5,none⟩=some (.slice A6 Q6.length c6):=cW0 E _ 5 _ _ _ HE.out
  have p6:E.cell? ⟨w.heap.size,6,none⟩=some (.slice A7 Q7.length c7):=cW0 E _ 6 _ _ _ HE.out
  have p7:E.cell? ⟨w.heap.size,7,none⟩=some (.slice A8 Q8.length c8):=cW0 E _ 7 _ _ _ HE.out
  have p8:E.cell? ⟨w.heap.size,8,none⟩=some (.slice A9 Q9.length c9):=cW0 E _ 8 _ _ _ HE.out
  have p9:E.cell? ⟨w.heap.size,9,none⟩=some (.slice A10 Q10.length c10):=cW0 E _ 9 _ _ _ HE.out
  exact bodyPost_ret (v:=.tuple #[.agg #[.int .i64 n1,.int .i64 n2,.int .i64 n3,.int .i64 n4,.slice A5 Q5.length c5,.slice A6 Q6.length c6,.slice A7 Q7.length c7,.slice A8 Q8.length c8,.slice A9 Q9.length c9,.slice A10 Q10.length c10],.int .i64 (0)]) (by simp [results,Tryz.results17,go_sem,p0,p1,p2,p3,p4,p5,p6,p7,p8,p9]) rfl ⟨⟨n1,n2,n3,n4,A5,c5,Q5,A6,c6,Q6,A7,c7,Q7,A8,c8,Q8,A9,c9,Q9,A10,c10,Q10⟩,by rw [HX.out];rfl,by rw [HX.out,←HCER.out,HCE.out],hisE,hxE,hbE⟩
end Go.Proofs.YtbfdegkickjbpaaGreat
