/-
 Dc5
-/
import Derived.Test.YtbfdegkickjbpaaGreatVDc1
import Derived.Test.YtbfdegkickjbpaaGreatVRc3
import Derived.Test.YtbfdegkickjbpaaGreatVDc4
namespace Go.Proofs.YtbfdegkickjbpaaGreat
open Go.Proofs.Tryz
set_option maxRecDepth 99999
set_option maxHeartbeats 0
open Go.RowKit Go.Lib Go.IntWalk Go.Sort Go.Shelf
theorem zq0 {P:Prop} (i:Nat) (h:Tg i→P:=by
 intro zT0
 obtain ⟨Av,cv,rfl,v1,v2,v3⟩:=hv.open_
 have HV3:=hI0 v3
 first
  |done
  |guard_hyp zT0:Tg 1
  |have hln:l.length≤maxLen:=hv.nonneg
   unfold maxLen at v2 hln
 clear v3
 first
  |done
  |guard_hyp zT0:Tg 1
  |by_cases hbig:1048576<l.length
   case pos=>
    have hi:(1048576:Int)<(l.length:Int):=by omega
    have hH:(w.alloc (.cells cZ0 29)).heap[w.heap.size]? =some (.cells cZ0 29 (0,0)):=heap_alloc_new _ _
    have HD:=hI0 (decCm_big hbig)
    clear hv hbig
    go_in
    go_wp2_with (refine wpList_storeRow (cur:=cZ0) (vs:=cZ0) (.tmp 2) (.tmp 11) rfl rfl rfl rfl sz_com rfl rfl hH ?_;intro E hE hEc)
    have hbE:Bl w E:=(Below.of_alloc _).trans (hEc.below (by simp) (fun i hi=>by omega))
    have HE:=hI0 hE
    have HEc:=hI0 hEc
    clear hE hEc
    obtain ⟨p0,p1,p2,p3,p4,p5,p6,p7,p8,p9⟩:=cX10 HE.out
    exact bodyPost_ret (v:=.tuple #[.agg cZ0,.int .i64 (5)]) zi16 rfl ⟨RCm.none_,by rw [HD.out];rfl,by rw [HD.out];rfl,none_is _ _,(fun x hx=>by cases hx),hbE⟩
   have hl:l.length≤10000000000:=by omega
   have hi:¬(1048576:Int)<(l.length:Int):=by omega
 obtain ⟨R,hRe⟩:=eN0 (w.heap.size+1)
 first
  |guard_hyp zT0:Tg 1;obtain ⟨W,hW⟩:=eN0 ((w.alloc (.cells cZ0 47)).alloc (.cells #[.slice Av l.length cv,.int .i64 0,.int .i64 0] 130))
  |obtain ⟨W,hW⟩:=eN0 ((w.alloc (.cells cZ0 29)).alloc (.cells #[.slice Av l.length cv,.int .i64 0,.int .i64 0] 130))
 have hbW:Bl w W:=by rw [hW];exact (Below.of_alloc _).alloc (by simp) _
 have hWs:W.heap.size=w.heap.size+2:=by rw [hW];simp
 first
  |guard_hyp zT0:Tg 1;have hQ:W.heap[w.heap.size]? =some (.cells cZ0 47 (0,0)):=by rw [hW];exact (Below.heap_alloc _ _ _ (by simp)).trans (heap_alloc_new _ _)
  |have hQ:W.heap[w.heap.size]? =some (.cells cZ0 29 (0,0)):=by rw [hW];exact (Below.heap_alloc _ _ _ (by simp)).trans (heap_alloc_new _ _)
 have hS00:SrcAt W R (.slice Av l.length cv) (0,0):=by
  first
   |guard_hyp zT0:Tg 1;have h:=heap_alloc_new (w.alloc (.cells cZ0 47)) (.cells #[.slice Av l.length cv,.int .i64 0,.int .i64 0] 130)
   |have h:=heap_alloc_new (w.alloc (.cells cZ0 29)) (.cells #[.slice Av l.length cv,.int .i64 0,.int .i64 0] 130)
  unfold SrcAt
  rw [hW,hRe]
  simpa using h
 obtain ⟨v,hve⟩:=eN0 (Value.slice Av l.length cv)
 rw [←hve] at hS00 hv
 have hS0:SrcAt W.drew R v (0,0):=hS00
 have hC0:Chg (·=R) W W.drew:=(Chg.refl _ _).drew
 have hvW:∀V,Chg (·=R) W V→RdB V (·<R) v l:=fun V hV=>Rd.wide (Rd.keep hv (fun b (hb:b<w.heap.size)=>(hV.block b (by omega) (by omega)).trans (hbW.block b hb))) (fun b (hb:b<w.heap.size)=>by show b<R;omega)
 rcases h1:rdI l (0,0) with ⟨n1,s1⟩
 rcases h2:rdI l s1 with ⟨n2,s2⟩
 rcases h3:rdI l s2 with ⟨n3,s3⟩
 rcases h4:rdI l s3 with ⟨n4,s4⟩
 rcases h5:rdL l (rdEnt l) s4 with ⟨xs5,s5⟩
 first
  |guard_hyp zT0:Tg 1;rcases h6:rdL l (rdStm l) s5 with ⟨xs6,s6⟩
   rcases h7:rdL l (rdTv l) s6 with ⟨xs7,s7⟩
   rcases h8:rdL l (rdHld l) s7 with ⟨xs8,s8⟩
   skip
  |rcases h6:rdL l (rdDel l) s5 with ⟨xs6,s6⟩
   rcases h7:rdL l (rdHld l) s6 with ⟨xs7,s7⟩
   rcases h8:rdL l (rdT l) s7 with ⟨xs8,s8⟩
 rcases h9:rdL l (rdPol l) s8 with ⟨xs9,s9⟩
 rcases h10:rdL l (rdHor l) s9 with ⟨xs10,s10⟩
 first
  |guard_hyp zT0:Tg 1;have hd:rdSt l (0,0)=(⟨n1,n2,n3,n4,none,0,xs5,none,0,xs6,none,0,xs7,none,0,xs8,none,0,xs9,none,0,xs10⟩,s10):=by unfold rdSt;simp only [h1,h2,h3,h4,h5,h6,h7,h8,h9,h10]
  |have hd:rdCm l (0,0)=(⟨n1,n2,n3,n4,none,0,xs5,none,0,xs6,none,0,xs7,none,0,xs8,none,0,xs9,none,0,xs10⟩,s10):=by unfold rdCm;simp only [h1,h2,h3,h4,h5,h6,h7,h8,h9,h10]
 have K1:∀V,SrcAt V R v (0,0)→Chg (·=R) W V→Calls prog 60 #[.pointer (some ⟨R,0,none⟩)] V fun x w'=>x=.returned (.int .i64 n1)∧SrcAt w' R v s1∧Chg (·=R) V w':=fun V hs hV=>by
  have k:=srcInt_any R v l (0,0) V hs (hvW V hV)
  rw [h1] at k
  exact k
 have K2:∀V,SrcAt V R v s1→Chg (·=R) W V→Calls prog 60 #[.pointer (some ⟨R,0,none⟩)] V fun x w'=>x=.returned (.int .i64 n2)∧SrcAt w' R v s2∧Chg (·=R) V w':=fun V hs hV=>by
  exact zq115
 have K3:∀V,SrcAt V R v s2→Chg (·=R) W V→Calls prog 60 #[.pointer (some ⟨R,0,none⟩)] V fun x w'=>x=.returned (.int .i64 n3)∧SrcAt w' R v s3∧Chg (·=R) V w':=fun V hs hV=>by
  have k:=srcInt_any R v l s2 V hs (hvW V hV)
  rw [h3] at k
  exact k
 have K4:∀V,SrcAt V R v s3→Chg (·=R) W V→Calls prog 60 #[.pointer (some ⟨R,0,none⟩)] V fun x w'=>x=.returned (.int .i64 n4)∧SrcAt w' R v s4∧Chg (·=R) V w':=fun V hs hV=>by
  have k:=srcInt_any R v l s3 V hs (hvW V hV)
  rw [h4] at k
  exact k
 have K5:∀V,SrcAt V R v s4→Chg (·=R) W V→Calls prog 61 #[.pointer (some ⟨R,0,none⟩),.func (.func 62) #[] #[]] V (GetE 16 REn.enc enIs REn.er R v (xs5,s5) V):=fun V hs hV=>by
  have k:=getEnt_any R v l (rdEnt l) 62 (entF func62) s4 V hs (hvW V hV) hl mon_Ent (fun s U hsU hU=>rdrEnt_any R v l s U hsU (hvW U (hV.trans hU (fun _ _ h=>h))) hl)
  rw [h5] at k
  exact k
 first
  |guard_hyp zT0:Tg 1;have K6:∀V,SrcAt V R v s5→Chg (·=R) W V→Calls prog 118 #[.pointer (some ⟨R,0,none⟩),.func (.func 119) #[] #[]] V (GetE 2 Stm.enc isT id R v (xs6,s6) V):=fun V hs hV=>by
    have k:=getStm_any R v l (rdStm l) 119 (entF func119) s5 V hs (hvW V hV) hl mon_Stm (fun s U hsU hU=>rdrStm_any R v l s U hsU (hvW U (hV.trans hU (fun _ _ h=>h))))
    rw [h6] at k
    exact k
   have K7:∀V,SrcAt V R v s6→Chg (·=R) W V→Calls prog 120 #[.pointer (some ⟨R,0,none⟩),.func (.func 121) #[] #[]] V (GetE 2 RTv.enc tvIs RTv.er R v (xs7,s7) V):=fun V hs hV=>by
    have k:=getTv_any R v l (rdTv l) 121 (entF func121) s6 V hs (hvW V hV) hl mon_Tv (fun s U hsU hU=>rdrTv_any R v l s U hsU (hvW U (hV.trans hU (fun _ _ h=>h))) hl)
    rw [h7] at k
    exact k
   have K8:∀V,SrcAt V R v s7→Chg (·=R) W V→Calls prog 65 #[.pointer (some ⟨R,0,none⟩),.func (.func 66) #[] #[]] V (GetE 6 Hld.enc isT id R v (xs8,s8) V):=fun V hs hV=>by
    have k:=getHld_any R v l (rdHld l) 66 (entF func66) s7 V hs (hvW V hV) hl mon_Hld (fun s U hsU hU=>rdrHld_any R v l s U hsU (hvW U (hV.trans hU (fun _ _ h=>h))))
    rw [h8] at k
    exact k
  |have K6:∀V,SrcAt V R v s5→Chg (·=R) W V→Calls prog 63 #[.pointer (some ⟨R,0,none⟩),.func (.func 64) #[] #[]] V (GetE 3 RDl.enc delIs RDl.er R v (xs6,s6) V):=fun V hs hV=>by
    have k:=getDel_any R v l (rdDel l) 64 (entF func64) s5 V hs (hvW V hV) hl mon_Del (fun s U hsU hU=>rdrDel_any R v l s U hsU (hvW U (hV.trans hU (fun _ _ h=>h))) hl)
    rw [h6] at k
    exact k
   have K7:∀V,SrcAt V R v s6→Chg (·=R) W V→Calls prog 65 #[.pointer (some ⟨R,0,none⟩),.func (.func 66) #[] #[]] V (GetE 6 Hld.enc isT id R v (xs7,s7) V):=fun V hs hV=>by
    have k:=getHld_any R v l (rdHld l) 66 (entF func66) s6 V hs (hvW V hV) hl mon_Hld (fun s U hsU hU=>rdrHld_any R v l s U hsU (hvW U (hV.trans hU (fun _ _ h=>h))))
    rw [h7] at k
    exact k
   have K8:∀V,SrcAt V R v s7→Chg (·=R) W V→Calls prog 67 #[.pointer (some ⟨R,0,none⟩),.func (.func 68) #[] #[]] V (GetE 1 strE isT id R v (xs8,s8) V):=fun V hs hV=>by
    have k:=getStr_any R v l (rdT l) 68 (entF func68) s7 V hs (hvW V hV) hl mon_T (fun s U hsU hU=>rdrNam_any R v l s U hsU (hvW U (hV.trans hU (fun _ _ h=>h))))
    rw [h8] at k
    exact k
 have K9:∀V,SrcAt V R v s8→Chg (·=R) W V→Calls prog 69 #[.pointer (some ⟨R,0,none⟩),.func (.func 70) #[] #[]] V (GetE 2 Pol.enc isT id R v (xs9,s9) V):=fun V hs hV=>by
  have k:=getPol_any R v l (rdPol l) 70 (entF func70) s8 V hs (hvW V hV) hl mon_Pol (fun s U hsU hU=>rdrPol_any R v l s U hsU (hvW U (hV.trans hU (fun _ _ h=>h))))
  rw [h9] at k
  exact k
 have K10:∀V,SrcAt V R v s9→Chg (·=R) W V→Calls prog 71 #[.pointer (some ⟨R,0,none⟩),.func (.func 72) #[] #[]] V (GetE 2 Hor.enc isT id R v (xs10,s10) V):=fun V hs hV=>by
  have k:=getHor_any R v l (rdHor l) 72 (entF func72) s9 V hs (hvW V hV) hl mon_Hor (fun s U hsU hU=>rdrHor_any R v l s U hsU (hvW U (hV.trans hU (fun _ _ h=>h))))
  rw [h10] at k
  exact k
 have HQ:=hI0 hQ
 have HbW:=hI0 hbW
 have HD:=hI0 hd
 first
  |done
  |guard_hyp zT0:Tg 1
  |have HBIG:=hI0 hbig
 have HVW:=hI0 hvW
 have HLE:Hid (∀y∈xs5,y.create.few):=hI0 (fun y hy=>by have:=rdL_all (p:=fun y:REn=>y.create.few) (l:=l) (one:=rdEnt l) (rdEnt_few hl) s4;rw [h5] at this;exact this y hy)
 first
  |guard_hyp zT0:Tg 1;clear hv hvW hQ hbW h1 h2 h3 h4 h5 h6 h7 h8 h9 h10 hd
  |have HLD:Hid (∀y∈xs6,y.cl.length≤10000000000∧y.ops.length≤10000000000):=hI0 (fun y hy=>by have:=rdL_all (p:=fun y:RDl=>y.cl.length≤10000000000∧y.ops.length≤10000000000) (l:=l) (one:=rdDel l) (rdDel_few hl) s5;rw [h6] at this;exact this y hy)
   clear hv hvW hQ hbW h1 h2 h3 h4 h5 h6 h7 h8 h9 h10 hd hbig
 go_in
 first
  |guard_hyp zT0:Tg 1;go_upto_region 2 with (fail)
  |go_upto_region 4 with (fail)
 rw [←hW,←hRe]
 have hR1:w.heap.size<R:=by omega
 have hR2:R<w.heap.size+2:=by omega
 clear hW hRe
 first
  |guard_hyp zT0:Tg 1;refine (fun (tl:∀(T:Nat) (V:World),W.heap.size≤T→T<V.heap.size→V.heap[T]? =some (.cells cZ0 47 (0,0))→SrcAt V R v s4→Chg (·=R) W V→(?Rest:Nat→World→Prop) T V)=>?leaves) ?tl9
  |refine (fun (tl:∀(T:Nat) (V:World),W.heap.size≤T→T<V.heap.size→V.heap[T]? =some (.cells cZ0 29 (0,0))→SrcAt V R v s4→Chg (·=R) W V→(?Rest:Nat→World→Prop) T V)=>?leaves) ?tl9
 case leaves=>
  refine wp_region_noPanic ?_
  refine beginT (S:=(fun _:World=>True)) 18 (by kernel_rfl) ?_ (fun zh=>?_)
  ·trivial
  first
   |guard_hyp zT0:Tg 1;refine tT 0 12 ?_
    refine tT 1 13 ?_
    refine tT 2 14 ?_
    refine tT 4 16 ?_
    refine tT 5 17 ?_
    refine tT 6 18 ?_
    refine tT 8 20 ?_
    refine tT 9 21 ?_
    refine tT 10 22 ?_
    refine tT 12 24 ?_
    refine tT 13 25 ?_
    refine tT 14 26 ?_
   |refine tT 0 16 ?_
    refine tT 1 17 ?_
    refine tT 2 18 ?_
    refine tT 4 20 ?_
    refine tT 5 21 ?_
    refine tT 6 22 ?_
    refine tT 8 24 ?_
    refine tT 9 25 ?_
    refine tT 10 26 ?_
    refine tT 12 28 ?_
    refine tT 13 29 ?_
    refine tT 14 30 ?_
  refine fork2 3 17 (by kernel_rfl) ?_ ?_
  ·first
    |guard_hyp zT0:Tg 1;refine fC 3 15 ?_
    |refine fC 3 19 ?_
   (with_reducible refine (K1 _ hS0 hC0).mono ?_)
   rintro _ v1_ ⟨rfl,hS1,hD1⟩
   have hC1:Chg (·=R) W v1_:=hC0.trans hD1 (fun _ _ h=>h)
   refine ⟨_,rfl,rA0 trivial ?_⟩
   clear zh
   intro zh
   simp only [aP]
   refine fork2 7 17 (by kernel_rfl) ?_ ?_
   ·first
     |guard_hyp zT0:Tg 1;refine fC 7 19 ?_
     |refine fC 7 23 ?_
    (with_reducible refine (K2 _ hS1 hC1).mono ?_)
    rintro _ v2_ ⟨rfl,hS2,hD2⟩
    have hC2:Chg (·=R) W v2_:=hC1.trans hD2 (fun _ _ h=>h)
    refine ⟨_,rfl,rA0 trivial ?_⟩
    clear zh
    intro zh
    simp only [aP]
    refine fork2 11 17 (by kernel_rfl) ?_ ?_
    ·first
      |guard_hyp zT0:Tg 1;refine fC 11 23 ?_
      |refine fC 11 27 ?_
     (with_reducible refine (K3 _ hS2 hC2).mono ?_)
     rintro _ v3_ ⟨rfl,hS3,hD3⟩
     have hC3:Chg (·=R) W v3_:=hC2.trans hD3 (fun _ _ h=>h)
     refine ⟨_,rfl,rA0 trivial ?_⟩
     clear zh
     intro zh
     simp only [aP]
     refine fork2 15 17 (by kernel_rfl) ?_ ?_
     ·first
       |guard_hyp zT0:Tg 1;refine fC 15 27 ?_
       |refine fC 15 31 ?_
      (with_reducible refine (K4 _ hS3 hC3).mono ?_)
      rintro _ v4_ ⟨rfl,hS4,hD4⟩
      have hC4:Chg (·=R) W v4_:=hC3.trans hD4 (fun _ _ h=>h)
      refine ⟨_,rfl,rA0 trivial ?_⟩
      clear zh
      intro zh
      simp only [aP]
      first
       |guard_hyp zT0:Tg 1;refine tT 16 28 ?_
       |refine tT 16 32 ?_
      refine fork1 17 (by kernel_rfl) ?_
      first
       |guard_hyp zT0:Tg 1;refine runF 17 (some 5) (v:=.pointer (some ⟨v4_.heap.size,0,none⟩)) (w':=v4_.alloc (.cells cZ0 47)) rfl rfl (by rfl) ?_ ?_
       |refine runF 17 (some 5) (v:=.pointer (some ⟨v4_.heap.size,0,none⟩)) (w':=v4_.alloc (.cells cZ0 29)) rfl rfl (by rfl) ?_ ?_
      ·go_simp<;>with_reducible rfl
      obtain ⟨T,hTe⟩:=eN0 v4_.heap.size
      rw [←hTe]
      first
       |guard_hyp zT0:Tg 1;obtain ⟨X,hX⟩:=eN0 (v4_.alloc (.cells cZ0 47))
       |obtain ⟨X,hX⟩:=eN0 (v4_.alloc (.cells cZ0 29))
      rw [←hX]
      have hbX:=bN0 hX
      have hSX:SrcAt X R v s4:=hS4.below hbX
      have hCX:Chg (·=R) W X:=hC4.trans (Chg.of_below hbX _) (fun _ _ h=>h)
      first
       |guard_hyp zT0:Tg 1;have hTX:X.heap[T]? =some (.cells cZ0 47 (0,0)):=by rw [hX,hTe];exact heap_alloc_new _ _
       |have hTX:X.heap[T]? =some (.cells cZ0 29 (0,0)):=by rw [hX,hTe];exact heap_alloc_new _ _
      have hTlX:T<X.heap.size:=by rw [hX,hTe];simp
      have hTW:W.heap.size≤T:=by rw [hTe];exact hC4.size
      clear hX hTe hbX
      refine rA0 trivial ?_
      clear zh
      intro zh
      simp only [aP]
      exact tl T X hTW hTlX hTX hSX hCX
     ·first
       |guard_hyp zT0:Tg 1;refine runF 17 (some 5) (v:=.pointer (some ⟨v3_.heap.size,0,none⟩)) (w':=v3_.alloc (.cells cZ0 47)) rfl rfl (by rfl) ?_ ?_
       |refine runF 17 (some 5) (v:=.pointer (some ⟨v3_.heap.size,0,none⟩)) (w':=v3_.alloc (.cells cZ0 29)) rfl rfl (by rfl) ?_ ?_
      ·go_simp<;>with_reducible rfl
      obtain ⟨T,hTe⟩:=eN0 v3_.heap.size
      rw [←hTe]
      first
       |guard_hyp zT0:Tg 1;obtain ⟨X,hX⟩:=eN0 (v3_.alloc (.cells cZ0 47))
       |obtain ⟨X,hX⟩:=eN0 (v3_.alloc (.cells cZ0 29))
      rw [←hX]
      have hbX:=bN0 hX
      have hSX:SrcAt X R v s3:=hS3.below hbX
      have hCX:Chg (·=R) W X:=hC3.trans (Chg.of_below hbX _) (fun _ _ h=>h)
      first
       |guard_hyp zT0:Tg 1;have hTX:X.heap[T]? =some (.cells cZ0 47 (0,0)):=by rw [hX,hTe];exact heap_alloc_new _ _
       |have hTX:X.heap[T]? =some (.cells cZ0 29 (0,0)):=by rw [hX,hTe];exact heap_alloc_new _ _
      have hTlX:T<X.heap.size:=by rw [hX,hTe];simp
      have hTW:W.heap.size≤T:=by rw [hTe];exact hC3.size
      clear hX hTe hbX
      refine rA0 trivial ?_
      clear zh
      intro zh
      simp only [aP]
      refine fork1 15 (by kernel_rfl) ?_
      first
       |guard_hyp zT0:Tg 1;refine fC 15 27 ?_
       |refine fC 15 31 ?_
      (with_reducible refine (K4 _ hSX hCX).mono ?_)
      rintro _ v4_ ⟨rfl,hS4,hD4⟩
      have hC4:Chg (·=R) W v4_:=hCX.trans hD4 (fun _ _ h=>h)
      have hT4:=(hD4.block T hTlX (by show T≠R;omega)).trans hTX
      have hTl4:T<v4_.heap.size:=by have:=hD4.size;omega
      refine ⟨_,rfl,rA0 trivial ?_⟩
      clear zh
      intro zh
      simp only [aP]
      first
       |guard_hyp zT0:Tg 1;refine tT 16 28 ?_
       |refine tT 16 32 ?_
      exact tl T v4_ hTW hTl4 hT4 hS4 hC4
    ·first
      |guard_hyp zT0:Tg 1;refine runF 17 (some 5) (v:=.pointer (some ⟨v2_.heap.size,0,none⟩)) (w':=v2_.alloc (.cells cZ0 47)) rfl rfl (by rfl) ?_ ?_
      |refine runF 17 (some 5) (v:=.pointer (some ⟨v2_.heap.size,0,none⟩)) (w':=v2_.alloc (.cells cZ0 29)) rfl rfl (by rfl) ?_ ?_
     ·go_simp<;>with_reducible rfl
     obtain ⟨T,hTe⟩:=eN0 v2_.heap.size
     rw [←hTe]
     first
      |guard_hyp zT0:Tg 1;obtain ⟨X,hX⟩:=eN0 (v2_.alloc (.cells cZ0 47))
      |obtain ⟨X,hX⟩:=eN0 (v2_.alloc (.cells cZ0 29))
     rw [←hX]
     have hbX:=bN0 hX
     have hSX:SrcAt X R v s2:=hS2.below hbX
     have hCX:Chg (·=R) W X:=hC2.trans (Chg.of_below hbX _) (fun _ _ h=>h)
     first
      |guard_hyp zT0:Tg 1;have hTX:X.heap[T]? =some (.cells cZ0 47 (0,0)):=by rw [hX,hTe];exact heap_alloc_new _ _
      |have hTX:X.heap[T]? =some (.cells cZ0 29 (0,0)):=by rw [hX,hTe];exact heap_alloc_new _ _
     have hTlX:T<X.heap.size:=by rw [hX,hTe];simp
     have hTW:W.heap.size≤T:=by rw [hTe];exact hC2.size
     clear hX hTe hbX
     refine rA0 trivial ?_
     clear zh
     intro zh
     simp only [aP]
     refine fork1 11 (by kernel_rfl) ?_
     first
      |guard_hyp zT0:Tg 1;refine fC 11 23 ?_
      |refine fC 11 27 ?_
     (with_reducible refine (K3 _ hSX hCX).mono ?_)
     rintro _ v3_ ⟨rfl,hS3,hD3⟩
     have hC3:Chg (·=R) W v3_:=hCX.trans hD3 (fun _ _ h=>h)
     have hT3:=(hD3.block T hTlX (by show T≠R;omega)).trans hTX
     have hTl3:T<v3_.heap.size:=by have:=hD3.size;omega
     refine ⟨_,rfl,rA0 trivial ?_⟩
     clear zh
     intro zh
     simp only [aP]
     refine fork1 15 (by kernel_rfl) ?_
     first
      |guard_hyp zT0:Tg 1;refine fC 15 27 ?_
      |refine fC 15 31 ?_
     (with_reducible refine (K4 _ hS3 hC3).mono ?_)
     rintro _ v4_ ⟨rfl,hS4,hD4⟩
     have hC4:Chg (·=R) W v4_:=hC3.trans hD4 (fun _ _ h=>h)
     have hT4:=(hD4.block T hTl3 (by show T≠R;omega)).trans hT3
     have hTl4:T<v4_.heap.size:=by have:=hD4.size;omega
     refine ⟨_,rfl,rA0 trivial ?_⟩
     clear zh
     intro zh
     simp only [aP]
     first
      |guard_hyp zT0:Tg 1;refine tT 16 28 ?_
      |refine tT 16 32 ?_
     exact tl T v4_ hTW hTl4 hT4 hS4 hC4
   ·exact zq52 1
  ·exact zq52 0
 case tl9=>
  intro T V hTW hTlV hTV hSV hCV
  refine fork1 18 (by kernel_rfl) ?_
  refine skipRunF 18 none (w':=(V.setRow T #[.int .i64 n1,.int .i64 n2,.int .i64 n3,.int .i64 n4,.slice none 0 0,.slice none 0 0,.slice none 0 0,.slice none 0 0,.slice none 0 0,.slice none 0 0])) rfl rfl (by rfl) ?_ ?_
  ·first
    |guard_hyp zT0:Tg 1;exact exec_storeRow (cur:=cZ0) (vs:=#[.int .i64 n1,.int .i64 n2,.int .i64 n3,.int .i64 n4,.slice none 0 0,.slice none 0 0,.slice none 0 0,.slice none 0 0,.slice none 0 0,.slice none 0 0]) (.tmp 5) (.tmp 28) rfl rfl rfl sz_sta rfl rfl hTV
    |exact exec_storeRow (cur:=cZ0) (vs:=#[.int .i64 n1,.int .i64 n2,.int .i64 n3,.int .i64 n4,.slice none 0 0,.slice none 0 0,.slice none 0 0,.slice none 0 0,.slice none 0 0,.slice none 0 0]) (.tmp 5) (.tmp 32) rfl rfl rfl sz_com rfl rfl hTV
  have hTY:=setRow_heap V T _ #[.int .i64 n1,.int .i64 n2,.int .i64 n3,.int .i64 n4,.slice none 0 0,.slice none 0 0,.slice none 0 0,.slice none 0 0,.slice none 0 0,.slice none 0 0] _ _ hTV
  have hYc:=chg_setRow V T #[.int .i64 n1,.int .i64 n2,.int .i64 n3,.int .i64 n4,.slice none 0 0,.slice none 0 0,.slice none 0 0,.slice none 0 0,.slice none 0 0,.slice none 0 0]
  generalize V.setRow T #[.int .i64 n1,.int .i64 n2,.int .i64 n3,.int .i64 n4,.slice none 0 0,.slice none 0 0,.slice none 0 0,.slice none 0 0,.slice none 0 0,.slice none 0 0]=Y4 at *
  have hC4:Chg (·=R) W Y4:=hCV.trans hYc (fun i hi (h:i=T)=>by omega)
  have hS4:SrcAt Y4 R v s4:=(hYc.block R hSV.lt (by show R≠T;omega)).trans hSV
  have hw4:=hYc.size
  clear hYc hTV hSV hCV
  refine ⟨fun h=>absurd rfl h,?_⟩
  simp only [Act.put]
  refine doneT (by kernel_rfl) ?_ _
  refine NoPanic.normal ?_
  first
   |guard_hyp zT0:Tg 1;have hr4:RdS R T w.heap.size v s4 cZ0 #[.int .i64 n1,.int .i64 n2,.int .i64 n3,.int .i64 n4,.slice none 0 0,.slice none 0 0,.slice none 0 0,.slice none 0 0,.slice none 0 0,.slice none 0 0] 47 Y4:=⟨hS4,hTY,(hC4.block _ (by omega) zi11).trans HQ.out,by omega,by omega,by omega⟩
   |have hr4:RdS R T w.heap.size v s4 cZ0 #[.int .i64 n1,.int .i64 n2,.int .i64 n3,.int .i64 n4,.slice none 0 0,.slice none 0 0,.slice none 0 0,.slice none 0 0,.slice none 0 0,.slice none 0 0] 29 Y4:=⟨hS4,hTY,(hC4.block _ (by omega) zi11).trans HQ.out,by omega,by omega,by omega⟩
  clear hTY hS4 K1 K2 K3 K4 hS0 hC0 hS00
  go_wp2_with fail
  (with_reducible refine (K5 Y4 hr4.src hC4).mono ?_)
  rintro _ v5 ⟨u5,Q5,rfl,hU5,hI5,hE5,hS5,hD5⟩
  obtain ⟨A5,c5,rfl⟩:=rdE_slice hU5
  have HU5:=hI0 hU5
  have HI5:=hI0 hI5
  have HE5:=hI0 hE5
  clear hU5 hI5 hE5
  have hr5':=hr4.call hS5 hD5
  have hC5':Chg (·=R) W v5:=hC4.trans hD5 (fun _ _ h=>h)
  have hz5:=hD5.size
  have HD5:=hI0 hD5
  have p4:v5.cell? ⟨T,4,none⟩=some (.slice none 0 0):=cW0 v5 _ 4 _ _ _ hr5'.box
  have g4:v5.frozen? ⟨T,4,none⟩=false:=fW0 v5 _ 4 _ _ hr5'.box
  first
   |guard_hyp zT0:Tg 1;go_upto_region 4 with (fail)
   |go_upto_region 6 with (fail)
  clear p4 g4 hr4 hC4 hS5 hD5 K5
  have hr5:=hr5'.put 4 (.slice A5 Q5.length c5) (cs':=#[.int .i64 n1,.int .i64 n2,.int .i64 n3,.int .i64 n4,.slice A5 Q5.length c5,.slice none 0 0,.slice none 0 0,.slice none 0 0,.slice none 0 0,.slice none 0 0])
  have hy5:=St3.put (R:=R) (T:=T) (H:=w.heap.size) v5 4 (.slice A5 Q5.length c5)
  have hC5:Chg (·=R) W (v5.setCell ⟨T,4,none⟩ (.slice A5 Q5.length c5)):=hC5'.setCell (p:=⟨T,4,none⟩) (.inr hTW) _
  clear hr5' hC5'
  generalize v5.setCell ⟨T,4,none⟩ (.slice A5 Q5.length c5)=Y5 at *
  have hw5:=hy5.size
  have HY5:=hI0 hy5
  clear hy5
  go_wp2_with fail
  (with_reducible refine (K6 Y5 hr5.src hC5).mono ?_)
  rintro _ v6 ⟨u6,Q6,rfl,hU6,hI6,hE6,hS6,hD6⟩
  first
   |done
   |guard_hyp zT0:Tg 1;rw [List.map_id] at hE6
   |skip
  obtain ⟨A6,c6,rfl⟩:=rdE_slice hU6
  have HU6:=hI0 hU6
  have HI6:=hI0 hI6
  have HE6:=hI0 hE6
  clear hU6 hI6 hE6
  have hr6':=hr5.call hS6 hD6
  have hC6':Chg (·=R) W v6:=hC5.trans hD6 (fun _ _ h=>h)
  have hz6:=hD6.size
  have HD6:=hI0 hD6
  have p5:v6.cell? ⟨T,5,none⟩=some (.slice none 0 0):=cW0 v6 _ 5 _ _ _ hr6'.box
  have g5:v6.frozen? ⟨T,5,none⟩=false:=fW0 v6 _ 5 _ _ hr6'.box
  first
   |guard_hyp zT0:Tg 1;go_upto_region 5 with (fail)
   |go_upto_region 7 with (fail)
  clear p5 g5 hr5 hC5 hS6 hD6 K6
  have hr6:=hr6'.put 5 (.slice A6 Q6.length c6) (cs':=#[.int .i64 n1,.int .i64 n2,.int .i64 n3,.int .i64 n4,.slice A5 Q5.length c5,.slice A6 Q6.length c6,.slice none 0 0,.slice none 0 0,.slice none 0 0,.slice none 0 0])
  have hy6:=St3.put (R:=R) (T:=T) (H:=w.heap.size) v6 5 (.slice A6 Q6.length c6)
  have hC6:Chg (·=R) W (v6.setCell ⟨T,5,none⟩ (.slice A6 Q6.length c6)):=hC6'.setCell (p:=⟨T,5,none⟩) (.inr hTW) _
  clear hr6' hC6'
  generalize v6.setCell ⟨T,5,none⟩ (.slice A6 Q6.length c6)=Y6 at *
  have hw6:=hy6.size
  have HY6:=hI0 hy6
  clear hy6
  go_wp2_with fail
  (with_reducible refine (K7 Y6 hr6.src hC6).mono ?_)
  rintro _ v7 ⟨u7,Q7,rfl,hU7,hI7,hE7,hS7,hD7⟩
  first
   |done
   |guard_hyp zT0:Tg 1
   |rw [List.map_id] at hE7
  obtain ⟨A7,c7,rfl⟩:=rdE_slice hU7
  have HU7:=hI0 hU7
  have HI7:=hI0 hI7
  have HE7:=hI0 hE7
  clear hU7 hI7 hE7
  have hr7':=hr6.call hS7 hD7
  have hC7':Chg (·=R) W v7:=hC6.trans hD7 (fun _ _ h=>h)
  have hz7:=hD7.size
  have HD7:=hI0 hD7
  have p6:v7.cell? ⟨T,6,none⟩=some (.slice none 0 0):=cW0 v7 _ 6 _ _ _ hr7'.box
  have g6:v7.frozen? ⟨T,6,none⟩=false:=fW0 v7 _ 6 _ _ hr7'.box
  first
   |guard_hyp zT0:Tg 1;go_upto_region 6 with (fail)
   |go_upto_region 8 with (fail)
  clear p6 g6 hr6 hC6 hS7 hD7 K7
  have hr7:=hr7'.put 6 (.slice A7 Q7.length c7) (cs':=#[.int .i64 n1,.int .i64 n2,.int .i64 n3,.int .i64 n4,.slice A5 Q5.length c5,.slice A6 Q6.length c6,.slice A7 Q7.length c7,.slice none 0 0,.slice none 0 0,.slice none 0 0])
  have hy7:=St3.put (R:=R) (T:=T) (H:=w.heap.size) v7 6 (.slice A7 Q7.length c7)
  have hC7:Chg (·=R) W (v7.setCell ⟨T,6,none⟩ (.slice A7 Q7.length c7)):=hC7'.setCell (p:=⟨T,6,none⟩) (.inr hTW) _
  clear hr7' hC7'
  generalize v7.setCell ⟨T,6,none⟩ (.slice A7 Q7.length c7)=Y7 at *
  have hw7:=hy7.size
  have HY7:=hI0 hy7
  clear hy7
  go_wp2_with fail
  (with_reducible refine (K8 Y7 hr7.src hC7).mono ?_)
  rintro _ v8 ⟨u8,Q8,rfl,hU8,hI8,hE8,hS8,hD8⟩
  rw [List.map_id] at hE8
  obtain ⟨A8,c8,rfl⟩:=rdE_slice hU8
  have HU8:=hI0 hU8
  have HI8:=hI0 hI8
  have HE8:=hI0 hE8
  clear hU8 hI8 hE8
  have hr8':=hr7.call hS8 hD8
  have hC8':Chg (·=R) W v8:=hC7.trans hD8 (fun _ _ h=>h)
  have hz8:=hD8.size
  have HD8:=hI0 hD8
  have p7:v8.cell? ⟨T,7,none⟩=some (.slice none 0 0):=cW0 v8 _ 7 _ _ _ hr8'.box
  have g7:v8.frozen? ⟨T,7,none⟩=false:=fW0 v8 _ 7 _ _ hr8'.box
  first
   |guard_hyp zT0:Tg 1;go_upto_region 7 with (fail)
   |go_upto_region 9 with (fail)
  clear p7 g7 hr7 hC7 hS8 hD8 K8
  have hr8:=hr8'.put 7 (.slice A8 Q8.length c8) (cs':=#[.int .i64 n1,.int .i64 n2,.int .i64 n3,.int .i64 n4,.slice A5 Q5.length c5,.slice A6 Q6.length c6,.slice A7 Q7.length c7,.slice A8 Q8.length c8,.slice none 0 0,.slice none 0 0])
  have hy8:=St3.put (R:=R) (T:=T) (H:=w.heap.size) v8 7 (.slice A8 Q8.length c8)
  have hC8:Chg (·=R) W (v8.setCell ⟨T,7,none⟩ (.slice A8 Q8.length c8)):=hC8'.setCell (p:=⟨T,7,none⟩) (.inr hTW) _
  clear hr8' hC8'
  generalize v8.setCell ⟨T,7,none⟩ (.slice A8 Q8.length c8)=Y8 at *
  have hw8:=hy8.size
  have HY8:=hI0 hy8
  clear hy8
  go_wp2_with fail
  (with_reducible refine (K9 Y8 hr8.src hC8).mono ?_)
  rintro _ v9 ⟨u9,Q9,rfl,hU9,hI9,hE9,hS9,hD9⟩
  rw [List.map_id] at hE9
  obtain ⟨A9,c9,rfl⟩:=rdE_slice hU9
  have HU9:=hI0 hU9
  have HI9:=hI0 hI9
  have HE9:=hI0 hE9
  clear hU9 hI9 hE9
  have hr9':=hr8.call hS9 hD9
  have hC9':Chg (·=R) W v9:=hC8.trans hD9 (fun _ _ h=>h)
  have hz9:=hD9.size
  have HD9:=hI0 hD9
  have p8:v9.cell? ⟨T,8,none⟩=some (.slice none 0 0):=cW0 v9 _ 8 _ _ _ hr9'.box
  have g8:v9.frozen? ⟨T,8,none⟩=false:=fW0 v9 _ 8 _ _ hr9'.box
  first
   |guard_hyp zT0:Tg 1;go_upto_region 8 with (fail)
   |go_upto_region 10 with (fail)
  clear p8 g8 hr8 hC8 hS9 hD9 K9
  have hr9:=hr9'.put 8 (.slice A9 Q9.length c9) (cs':=#[.int .i64 n1,.int .i64 n2,.int .i64 n3,.int .i64 n4,.slice A5 Q5.length c5,.slice A6 Q6.length c6,.slice A7 Q7.length c7,.slice A8 Q8.length c8,.slice A9 Q9.length c9,.slice none 0 0])
  have hy9:=St3.put (R:=R) (T:=T) (H:=w.heap.size) v9 8 (.slice A9 Q9.length c9)
  have hC9:Chg (·=R) W (v9.setCell ⟨T,8,none⟩ (.slice A9 Q9.length c9)):=hC9'.setCell (p:=⟨T,8,none⟩) (.inr hTW) _
  clear hr9' hC9'
  generalize v9.setCell ⟨T,8,none⟩ (.slice A9 Q9.length c9)=Y9 at *
  have hw9:=hy9.size
  have HY9:=hI0 hy9
  clear hy9
  go_wp2_with fail
  (with_reducible refine (K10 Y9 hr9.src hC9).mono ?_)
  rintro _ v10 ⟨u10,Q10,rfl,hU10,hI10,hE10,hS10,hD10⟩
  rw [List.map_id] at hE10
  obtain ⟨A10,c10,rfl⟩:=rdE_slice hU10
  have HU10:=hI0 hU10
  have HI10:=hI0 hI10
  have HE10:=hI0 hE10
  clear hU10 hI10 hE10
  have hr10':=hr9.call hS10 hD10
  have hC10':Chg (·=R) W v10:=hC9.trans hD10 (fun _ _ h=>h)
  have hz10:=hD10.size
  have HD10:=hI0 hD10
  have p9:v10.cell? ⟨T,9,none⟩=some (.slice none 0 0):=cW0 v10 _ 9 _ _ _ hr10'.box
  have g9:v10.frozen? ⟨T,9,none⟩=false:=fW0 v10 _ 9 _ _ hr10'.box
  first
   |guard_hyp zT0:Tg 1;go_upto_region 9 with (fail)
   |go_upto_region 11 with (fail)
  clear p9 g9 hr9 hC9 hS10 hD10 K10
  have hr10:=hr10'.put 9 (.slice A10 Q10.length c10) (cs':=#[.int .i64 n1,.int .i64 n2,.int .i64 n3,.int .i64 n4,.slice A5 Q5.length c5,.slice A6 Q6.length c6,.slice A7 Q7.length c7,.slice A8 Q8.length c8,.slice A9 Q9.length c9,.slice A10 Q10.length c10])
  have hy10:=St3.put (R:=R) (T:=T) (H:=w.heap.size) v10 9 (.slice A10 Q10.length c10)
  have hC10:Chg (·=R) W (v10.setCell ⟨T,9,none⟩ (.slice A10 Q10.length c10)):=hC10'.setCell (p:=⟨T,9,none⟩) (.inr hTW) _
  clear hr10' hC10'
  generalize v10.setCell ⟨T,9,none⟩ (.slice A10 Q10.length c10)=Y10 at *
  have hw10:=hy10.size
  have HY10:=hI0 hy10
  clear hy10
  have KE:=srcEnd_any R v l s10 Y10 hr10.src (HVW.out Y10 hC10)
  obtain ⟨ed,hed⟩:=eN0 (endE s10 l.length)
  rw [←hed] at KE
  have HED:=hI0 hed
  clear hed
  go_wp2_with fail
  (with_reducible refine KE.mono ?_)
  rintro _ F ⟨rfl,hbF⟩
  have hzF:=hbF.size
  first
   |guard_hyp zT0:Tg 1;have hrF:RdS R T w.heap.size v s10 cZ0 #[.int .i64 n1,.int .i64 n2,.int .i64 n3,.int .i64 n4,.slice A5 Q5.length c5,.slice A6 Q6.length c6,.slice A7 Q7.length c7,.slice A8 Q8.length c8,.slice A9 Q9.length c9,.slice A10 Q10.length c10] 47 F:=⟨hr10.src.below hbF,(hbF.block T hr10.lt.1).trans hr10.box,(hbF.block _ hr10.lt.2).trans hr10.res,hr10.ne⟩
   |have hrF:RdS R T w.heap.size v s10 cZ0 #[.int .i64 n1,.int .i64 n2,.int .i64 n3,.int .i64 n4,.slice A5 Q5.length c5,.slice A6 Q6.length c6,.slice A7 Q7.length c7,.slice A8 Q8.length c8,.slice A9 Q9.length c9,.slice A10 Q10.length c10] 29 F:=⟨hr10.src.below hbF,(hbF.block T hr10.lt.1).trans hr10.box,(hbF.block _ hr10.lt.2).trans hr10.res,hr10.ne⟩
  have hTl:=hr10.lt.1
  have hCF:Bl w F:=(HbW.out.trans (hC10.below (B:=w.heap.size) (by omega) (fun i hi=>by omega))).trans (hbF.mono (by have:=hC10.size;omega))
  have HR:=hI0 hrF
  have HCF:=hI0 hCF
  have HBF:=hI0 hbF
  clear hr10 hC10 KE hrF hCF hbF
  have q10:=(HY10.out).trans (St3.of (R:=R) (T:=T) (H:=w.heap.size) (Chg.of_below (S:=(·=R)) HBF.out))
  have q9:=HY9.out.trans ((St3.of HD10.out).trans q10)
  have q8:=HY8.out.trans ((St3.of HD9.out).trans q9)
  have q7:=HY7.out.trans ((St3.of HD8.out).trans q8)
  have q6:=HY6.out.trans ((St3.of HD7.out).trans q7)
  have q5:=HY5.out.trans ((St3.of HD6.out).trans q6)
  have Hq5:=hI0 (keep3 (V:=Y4) (w':=W) q5 (by omega) (by omega) (by omega) (by omega))
  have Hq6:=hI0 (keep3 (V:=Y5) (w':=W) q6 (by omega) (by omega) (by omega) (by omega))
  have Hq7:=hI0 (keep3 (V:=Y6) (w':=W) q7 (by omega) (by omega) (by omega) (by omega))
  have Hq8:=hI0 (keep3 (V:=Y7) (w':=W) q8 (by omega) (by omega) (by omega) (by omega))
  have Hq9:=hI0 (keep3 (V:=Y8) (w':=W) q9 (by omega) (by omega) (by omega) (by omega))
  have Hq10:=hI0 (keep3 (V:=Y9) (w':=W) q10 (by omega) (by omega) (by omega) (by omega))
  clear q5 q6 q7 q8 q9 q10
  first
   |guard_hyp zT0:Tg 1;obtain ⟨C,hCe⟩:=eN0 (⟨n1,n2,n3,n4,A5,c5,Q5,A6,c6,Q6,A7,c7,Q7,A8,c8,Q8,A9,c9,Q9,A10,c10,Q10⟩:RSt)
   |obtain ⟨C,hCe⟩:=eN0 (⟨n1,n2,n3,n4,A5,c5,Q5,A6,c6,Q6,A7,c7,Q7,A8,c8,Q8,A9,c9,Q9,A10,c10,Q10⟩:RCm)
  have hCer:C.er=⟨n1,n2,n3,n4,none,0,xs5,none,0,xs6,none,0,xs7,none,0,xs8,none,0,xs9,none,0,xs10⟩:=by
   rw [hCe]
   first
    |guard_hyp zT0:Tg 1;simp only [RSt.er,HE5.out,HE6.out,HE7.out,HE8.out,HE9.out,HE10.out]
    |simp only [RCm.er,HE5.out,HE6.out,HE7.out,HE8.out,HE9.out,HE10.out]
  have HCER:=hI0 hCer
  clear hCer
  by_cases he:ed=0
  case neg=>
   have he2:(ed != 0)=true:=by simpa using he
   first
    |guard_hyp zT0:Tg 1;have HX:=hI0 (decSt_end HD.out (by rw [←HED.out];exact he))
     go_wp2_with (refine wpList_storeRow (cur:=cZ0) (vs:=cZ0) (.tmp 2) (.tmp 53) rfl rfl rfl rfl sz_sta rfl rfl HR.out.res ?_;intro E hE hEc)
    |have HX:=hI0 (decCm_end HBIG.out HD.out (by rw [←HED.out];exact he))
     go_wp2_with (refine wpList_storeRow (cur:=cZ0) (vs:=cZ0) (.tmp 2) (.tmp 57) rfl rfl rfl rfl sz_com rfl rfl HR.out.res ?_;intro E hE hEc)
   have hbE:Bl w E:=HCF.out.trans (hEc.below (by have:=HCF.out.size;omega) (fun i hi=>by omega))
   have HE:=hI0 hE
   have HEc:=hI0 hEc
   clear hE hEc
   obtain ⟨p0,p1,p2,p3,p4,p5,p6,p7,p8,p9⟩:=cX10 HE.out
   first
    |guard_hyp zT0:Tg 1;exact bodyPost_ret (v:=.tuple #[.agg cZ0,.int .i64 (ed)]) zi21 rfl ⟨RSt.none_,by rw [HX.out,←HED.out];rfl,by rw [HX.out];rfl,noneS_is _ _,(fun x hx=>nomatch hx),hbE⟩
    |exact bodyPost_ret (v:=.tuple #[.agg cZ0,.int .i64 (ed)]) zi16 rfl ⟨RCm.none_,by rw [HX.out,←HED.out];rfl,by rw [HX.out];rfl,none_is _ _,(fun x hx=>by cases hx),hbE⟩
  case pos=>
  subst he
  have hcis:C.is F (fun b=>W.heap.size≤b∧b<F.heap.size):=by
   have e5:=HE5.out
   first
    |done
    |guard_hyp zT0:Tg 1
    |have e6:=HE6.out
   rw [hCe]
   first
    |guard_hyp zT0:Tg 1;refine ⟨Rd.wide (Rd.keep HU5.out Hq5.out.1) Hq5.out.2,fun x hx=>?_,Rd.wide (Rd.keep HU6.out Hq6.out.1) Hq6.out.2,Rd.wide (Rd.keep HU7.out Hq7.out.1) Hq7.out.2,fun x hx=>?_,Rd.wide (Rd.keep HU8.out Hq8.out.1) Hq8.out.2,Rd.wide (Rd.keep HU9.out Hq9.out.1) Hq9.out.2,Rd.wide (Rd.keep HU10.out Hq10.out.1) Hq10.out.2⟩
    |refine ⟨Rd.wide (Rd.keep HU5.out Hq5.out.1) Hq5.out.2,fun x hx=>?_,Rd.wide (Rd.keep HU6.out Hq6.out.1) Hq6.out.2,fun x hx=>?_,Rd.wide (Rd.keep HU7.out Hq7.out.1) Hq7.out.2,Rd.wide (Rd.keep HU8.out Hq8.out.1) Hq8.out.2,Rd.wide (Rd.keep HU9.out Hq9.out.1) Hq9.out.2,Rd.wide (Rd.keep HU10.out Hq10.out.1) Hq10.out.2⟩
   ·have h:=isK_En.wide (isK_En.keep (HI5.out x hx) Hq5.out.1) Hq5.out.2
    exact en_is h (HLE.out x.er (by rw [←e5];exact List.mem_map_of_mem hx))
   ·first
     |guard_hyp zT0:Tg 1;have h:=isK_Tv.wide (isK_Tv.keep (HI7.out x hx) Hq7.out.1) Hq7.out.2
      exact ⟨h.1,h.2⟩
     |have h:=isK_D.wide (isK_D.keep (HI6.out x hx) Hq6.out.1) Hq6.out.2
      exact del_is h (HLD.out x.er (by rw [←e6];exact List.mem_map_of_mem hx))
  have HCIS:=hI0 hcis
  have hcx:∀x∈C.ents,∀e∈x.create.chks,exAll F (fun b=>W.heap.size≤b∧b<F.heap.size) e:=by
   rw [hCe]
   exact fun x hx e he=>(isK_En.wide (isK_En.keep (HI5.out x hx) Hq5.out.1) Hq5.out.2).1.2.2.2.2.2 e he
  have HCX:=hI0 hcx
  first
   |guard_hyp zT0:Tg 1;have KC:=checkState_any C F (RSt.is_kw hcis (fun _ _=>rfl) (fun b hb=>hb.2))
    obtain ⟨kk,hkk⟩:=eN0 (stateF C)
   |have KC:=check_any C F (RCm.is_kw hcis (fun _ _=>rfl) (fun b hb=>hb.2))
    obtain ⟨kk,hkk⟩:=eN0 (checkF C)
  rw [←hkk] at KC
  first
   |guard_hyp zT0:Tg 1;have hk2:kk=stateF ⟨n1,n2,n3,n4,none,0,xs5,none,0,xs6,none,0,xs7,none,0,xs8,none,0,xs9,none,0,xs10⟩:=by rw [hkk,←stateF_er C,HCER.out]
   |have hk2:kk=checkF ⟨n1,n2,n3,n4,none,0,xs5,none,0,xs6,none,0,xs7,none,0,xs8,none,0,xs9,none,0,xs10⟩:=by rw [hkk,←checkF_er C,HCER.out]
  have HKK:=hI0 hk2
  have HCE:=hI0 hCe
  rw [hCe] at KC
  first
   |guard_hyp zT0:Tg 1;change Calls prog 104 #[.agg #[.int .i64 n1,.int .i64 n2,.int .i64 n3,.int .i64 n4,.slice A5 Q5.length c5,.slice A6 Q6.length c6,.slice A7 Q7.length c7,.slice A8 Q8.length c8,.slice A9 Q9.length c9,.slice A10 Q10.length c10]] F (fun e w'=>e=.returned (.int .i64 kk)∧Bl F w') at KC
   |change Calls prog 11 #[.agg #[.int .i64 n1,.int .i64 n2,.int .i64 n3,.int .i64 n4,.slice A5 Q5.length c5,.slice A6 Q6.length c6,.slice A7 Q7.length c7,.slice A8 Q8.length c8,.slice A9 Q9.length c9,.slice A10 Q10.length c10]] F (fun e w'=>e=.returned (.int .i64 kk)∧Bl F w') at KC
  clear hkk hk2 hCe hcis hcx
  first
   |guard_hyp zT0:Tg 1;go_wp2_with (refine wpList_loadRow (cs:=#[.int .i64 n1,.int .i64 n2,.int .i64 n3,.int .i64 n4,.slice A5 Q5.length c5,.slice A6 Q6.length c6,.slice A7 Q7.length c7,.slice A8 Q8.length c8,.slice A9 Q9.length c9,.slice A10 Q10.length c10]) (T:=T) (.tmp 5) rfl rfl rfl sz_sta ag_sta HR.out.box ?_)
   |go_wp2_with (refine wpList_loadRow (cs:=#[.int .i64 n1,.int .i64 n2,.int .i64 n3,.int .i64 n4,.slice A5 Q5.length c5,.slice A6 Q6.length c6,.slice A7 Q7.length c7,.slice A8 Q8.length c8,.slice A9 Q9.length c9,.slice A10 Q10.length c10]) (T:=T) (.tmp 5) rfl rfl rfl sz_com ag_com HR.out.box ?_)
  (with_reducible refine KC.mono ?_)
  rintro _ G ⟨rfl,hbG⟩
  have hzG:=hbG.size
  first
   |guard_hyp zT0:Tg 1;have hrG:RdS R T w.heap.size v s10 cZ0 #[.int .i64 n1,.int .i64 n2,.int .i64 n3,.int .i64 n4,.slice A5 Q5.length c5,.slice A6 Q6.length c6,.slice A7 Q7.length c7,.slice A8 Q8.length c8,.slice A9 Q9.length c9,.slice A10 Q10.length c10] 47 G:=⟨HR.out.src.below hbG,(hbG.block T HR.out.lt.1).trans HR.out.box,(hbG.block _ HR.out.lt.2).trans HR.out.res,HR.out.ne⟩
   |have hrG:RdS R T w.heap.size v s10 cZ0 #[.int .i64 n1,.int .i64 n2,.int .i64 n3,.int .i64 n4,.slice A5 Q5.length c5,.slice A6 Q6.length c6,.slice A7 Q7.length c7,.slice A8 Q8.length c8,.slice A9 Q9.length c9,.slice A10 Q10.length c10] 29 G:=⟨HR.out.src.below hbG,(hbG.block T HR.out.lt.1).trans HR.out.box,(hbG.block _ HR.out.lt.2).trans HR.out.res,HR.out.ne⟩
  have hCG:Bl w G:=bU0 HCF hbG
  have HR2:=hI0 hrG
  have HCG:=hI0 hCG
  have HBG:=hI0 hbG
  clear hrG hCG hbG KC
  by_cases hk:kk=0
  case neg=>
   have hk3:(kk != 0)=true:=by simpa using hk
   first
    |guard_hyp zT0:Tg 1;have HX:=hI0 (decSt_chk HD.out HED.out.symm (by rw [←HKK.out];exact hk))
     go_wp2_with (refine wpList_storeRow (cur:=cZ0) (vs:=cZ0) (.tmp 2) (.tmp 59) rfl rfl rfl rfl sz_sta rfl rfl HR2.out.res ?_;intro E hE hEc)
    |have HX:=hI0 (decCm_chk HBIG.out HD.out HED.out.symm (by rw [←HKK.out];exact hk))
     go_wp2_with (refine wpList_storeRow (cur:=cZ0) (vs:=cZ0) (.tmp 2) (.tmp 63) rfl rfl rfl rfl sz_com rfl rfl HR2.out.res ?_;intro E hE hEc)
   have hbE:Bl w E:=HCG.out.trans (hEc.below zi49 (fun i hi=>by omega))
   have HE:=hI0 hE
   have HEc:=hI0 hEc
   clear hE hEc
   obtain ⟨p0,p1,p2,p3,p4,p5,p6,p7,p8,p9⟩:=cX10 HE.out
   first
    |guard_hyp zT0:Tg 1;exact bodyPost_ret (v:=.tuple #[.agg cZ0,.int .i64 (kk)]) zi21 rfl ⟨RSt.none_,by rw [HX.out,←HKK.out];rfl,by rw [HX.out];rfl,noneS_is _ _,(fun x hx=>nomatch hx),hbE⟩
    |exact bodyPost_ret (v:=.tuple #[.agg cZ0,.int .i64 (kk)]) zi16 rfl ⟨RCm.none_,by rw [HX.out,←HKK.out];rfl,by rw [HX.out];rfl,none_is _ _,(fun x hx=>by cases hx),hbE⟩
  case pos=>
  subst hk
  first
   |guard_hyp zT0:Tg 1;have HX:=hI0 (decSt_ok HD.out HED.out.symm HKK.out.symm)
    go_wp2_with (first|(refine wpList_loadRow (cs:=#[.int .i64 n1,.int .i64 n2,.int .i64 n3,.int .i64 n4,.slice A5 Q5.length c5,.slice A6 Q6.length c6,.slice A7 Q7.length c7,.slice A8 Q8.length c8,.slice A9 Q9.length c9,.slice A10 Q10.length c10]) (T:=T) (.tmp 5) rfl rfl rfl sz_sta ag_sta HR2.out.box ?_)|(refine wpList_storeRow (cur:=cZ0) (vs:=#[.int .i64 n1,.int .i64 n2,.int .i64 n3,.int .i64 n4,.slice A5 Q5.length c5,.slice A6 Q6.length c6,.slice A7 Q7.length c7,.slice A8 Q8.length c8,.slice A9 Q9.length c9,.slice A10 Q10.length c10]) (.tmp 2) (.tmp 61) rfl rfl rfl rfl sz_sta rfl rfl HR2.out.res ?_;intro E hE hEc))
   |have HX:=hI0 (decCm_ok HBIG.out HD.out HED.out.symm HKK.out.symm)
    go_wp2_with (first|(refine wpList_loadRow (cs:=#[.int .i64 n1,.int .i64 n2,.int .i64 n3,.int .i64 n4,.slice A5 Q5.length c5,.slice A6 Q6.length c6,.slice A7 Q7.length c7,.slice A8 Q8.length c8,.slice A9 Q9.length c9,.slice A10 Q10.length c10]) (T:=T) (.tmp 5) rfl rfl rfl sz_com ag_com HR2.out.box ?_)|(refine wpList_storeRow (cur:=cZ0) (vs:=#[.int .i64 n1,.int .i64 n2,.int .i64 n3,.int .i64 n4,.slice A5 Q5.length c5,.slice A6 Q6.length c6,.slice A7 Q7.length c7,.slice A8 Q8.length c8,.slice A9 Q9.length c9,.slice A10 Q10.length c10]) (.tmp 2) (.tmp 65) rfl rfl rfl rfl sz_com rfl rfl HR2.out.res ?_;intro E hE hEc))
  have hbE:Bl w E:=HCG.out.trans (hEc.below zi49 (fun i hi=>by omega))
  have hzE:=hEc.size
  first
   |guard_hyp zT0:Tg 1;have hisE:C.is E (fun b=>w.heap.size≤b∧b<E.heap.size):=RSt.is_kw HCIS.out (fun b hb=>(hEc.block b (by omega) zi39).trans (HBG.out.block b hb.2)) (fun b hb=>⟨by have:=hb.1;omega,by have:=hb.2;omega⟩)
   |have hisE:C.is E (fun b=>w.heap.size≤b∧b<E.heap.size):=RCm.is_kw HCIS.out (fun b hb=>(hEc.block b (by omega) zi39).trans (HBG.out.block b hb.2)) (fun b hb=>⟨by have:=hb.1;omega,by have:=hb.2;omega⟩)
  have hxE:∀x∈C.ents,∀e∈x.create.chks,exAll E (fun b=>w.heap.size≤b∧b<E.heap.size) e:=fun x hx e he=>isK_X.wide (isK_X.keep (HCX.out x hx e he) (fun b hb=>(hEc.block b (by omega) zi39).trans (HBG.out.block b hb.2))) (fun b hb=>⟨by have:=hb.1;omega,by have:=hb.2;omega⟩)
  rw [HCE.out] at hisE hxE
  have HE:=hI0 hE
  have HEc:=hI0 hEc
  clear hE hEc
  obtain ⟨p0,p1,p2,p3,p4,p5,p6,p7,p8,p9⟩:=cX10 HE.out
  first
   |guard_hyp zT0:Tg 1;exact bodyPost_ret (v:=.tuple #[.agg #[.int .i64 n1,.int .i64 n2,.int .i64 n3,.int .i64 n4,.slice A5 Q5.length c5,.slice A6 Q6.length c6,.slice A7 Q7.length c7,.slice A8 Q8.length c8,.slice A9 Q9.length c9,.slice A10 Q10.length c10],.int .i64 (0)]) zi21 rfl ⟨⟨n1,n2,n3,n4,A5,c5,Q5,A6,c6,Q6,A7,c7,Q7,A8,c8,Q8,A9,c9,Q9,A10,c10,Q10⟩,by rw [HX.out];rfl,by rw [HX.out,←HCER.out,HCE.out],hisE,hxE,hbE⟩
   |exact bodyPost_ret (v:=.tuple #[.agg #[.int .i64 n1,.int .i64 n2,.int .i64 n3,.int .i64 n4,.slice A5 Q5.length c5,.slice A6 Q6.length c6,.slice A7 Q7.length c7,.slice A8 Q8.length c8,.slice A9 Q9.length c9,.slice A10 Q10.length c10],.int .i64 (0)]) zi16 rfl ⟨⟨n1,n2,n3,n4,A5,c5,Q5,A6,c6,Q6,A7,c7,Q7,A8,c8,Q8,A9,c9,Q9,A10,c10,Q10⟩,by rw [HX.out];rfl,by rw [HX.out,←HCER.out,HCE.out],hisE,hxE,hbE⟩) : P := h ⟨⟩
theorem zq45 {P:Prop} (h:P:=by
 unfold rdL
 split
 ·simp
 ·have h:=getS_lenM hm (rdI l s).1.toNat (rdI l s).2
  by_cases he:(rdI l s).2.2=0
  ·have h1:=(mon_I s he).2
   have h2:=rdI_pos he
   omega
  ·rw [getS_stop (.inr he)]
   simp) : P := h
theorem zq52 {P:Prop} (i:Nat) (h:Tg i→P:=by
 intro zT52
 first
  |guard_hyp zT52:Tg 1
   first
    |guard_hyp zT0:Tg 1;refine runF 17 (some 5) (v:=.pointer (some ⟨v1_.heap.size,0,none⟩)) (w':=v1_.alloc (.cells cZ0 47)) rfl rfl (by rfl) ?_ ?_
    |refine runF 17 (some 5) (v:=.pointer (some ⟨v1_.heap.size,0,none⟩)) (w':=v1_.alloc (.cells cZ0 29)) rfl rfl (by rfl) ?_ ?_
  |guard_hyp zT0:Tg 1;refine runF 17 (some 5) (v:=.pointer (some ⟨W.drew.heap.size,0,none⟩)) (w':=W.drew.alloc (.cells cZ0 47)) rfl rfl (by rfl) ?_ ?_
  |refine runF 17 (some 5) (v:=.pointer (some ⟨W.drew.heap.size,0,none⟩)) (w':=W.drew.alloc (.cells cZ0 29)) rfl rfl (by rfl) ?_ ?_
 ·go_simp<;>with_reducible rfl
 first
  |guard_hyp zT52:Tg 1;obtain ⟨T,hTe⟩:=eN0 v1_.heap.size
  |obtain ⟨T,hTe⟩:=eN0 W.drew.heap.size
 rw [←hTe]
 first
  |guard_hyp zT52:Tg 1
   first
    |guard_hyp zT0:Tg 1;obtain ⟨X,hX⟩:=eN0 (v1_.alloc (.cells cZ0 47))
    |obtain ⟨X,hX⟩:=eN0 (v1_.alloc (.cells cZ0 29))
  |guard_hyp zT0:Tg 1;obtain ⟨X,hX⟩:=eN0 (W.drew.alloc (.cells cZ0 47))
  |obtain ⟨X,hX⟩:=eN0 (W.drew.alloc (.cells cZ0 29))
 rw [←hX]
 have hbX:=bN0 hX
 first
  |guard_hyp zT52:Tg 1;have hSX:SrcAt X R v s1:=hS1.below hbX
   have hCX:Chg (·=R) W X:=hC1.trans (Chg.of_below hbX _) (fun _ _ h=>h)
   first
    |guard_hyp zT0:Tg 1;have hTX:X.heap[T]? =some (.cells cZ0 47 (0,0)):=by rw [hX,hTe];exact heap_alloc_new _ _
    |have hTX:X.heap[T]? =some (.cells cZ0 29 (0,0)):=by rw [hX,hTe];exact heap_alloc_new _ _
  |have hSX:SrcAt X R v (0,0):=hS0.below hbX
   have hCX:Chg (·=R) W X:=hC0.trans (Chg.of_below hbX _) (fun _ _ h=>h)
   first
    |guard_hyp zT0:Tg 1;have hTX:X.heap[T]? =some (.cells cZ0 47 (0,0)):=by rw [hX,hTe];exact heap_alloc_new _ _
    |have hTX:X.heap[T]? =some (.cells cZ0 29 (0,0)):=by rw [hX,hTe];exact heap_alloc_new _ _
 have hTlX:T<X.heap.size:=by rw [hX,hTe];simp
 first
  |guard_hyp zT52:Tg 1;have hTW:W.heap.size≤T:=by rw [hTe];exact hC1.size
  |have hTW:W.heap.size≤T:=by rw [hTe];exact hC0.size
 clear hX hTe hbX
 refine rA0 trivial ?_
 clear zh
 intro zh
 simp only [aP]
 first
  |done
  |guard_hyp zT52:Tg 1
  |refine fork1 3 (by kernel_rfl) ?_
   first
    |guard_hyp zT0:Tg 1;refine fC 3 15 ?_
    |refine fC 3 19 ?_
   (with_reducible refine (K1 _ hSX hCX).mono ?_)
   rintro _ v1_ ⟨rfl,hS1,hD1⟩
   have hC1:Chg (·=R) W v1_:=hCX.trans hD1 (fun _ _ h=>h)
   have hT1:=(hD1.block T hTlX (by show T≠R;omega)).trans hTX
   have hTl1:T<v1_.heap.size:=by have:=hD1.size;omega
   refine ⟨_,rfl,rA0 trivial ?_⟩
   clear zh
   intro zh
   simp only [aP]
 refine fork1 7 (by kernel_rfl) ?_
 first
  |guard_hyp zT52:Tg 1
   first
    |guard_hyp zT0:Tg 1;refine fC 7 19 ?_
    |refine fC 7 23 ?_
   (with_reducible refine (K2 _ hSX hCX).mono ?_)
  |first
    |guard_hyp zT0:Tg 1;refine fC 7 19 ?_
    |refine fC 7 23 ?_
   (with_reducible refine (K2 _ hS1 hC1).mono ?_)
 rintro _ v2_ ⟨rfl,hS2,hD2⟩
 first
  |guard_hyp zT52:Tg 1;have hC2:Chg (·=R) W v2_:=hCX.trans hD2 (fun _ _ h=>h)
   have hT2:=(hD2.block T hTlX (by show T≠R;omega)).trans hTX
  |have hC2:Chg (·=R) W v2_:=hC1.trans hD2 (fun _ _ h=>h)
   have hT2:=(hD2.block T hTl1 (by show T≠R;omega)).trans hT1
 have hTl2:T<v2_.heap.size:=by have:=hD2.size;omega
 refine ⟨_,rfl,rA0 trivial ?_⟩
 clear zh
 intro zh
 simp only [aP]
 refine fork1 11 (by kernel_rfl) ?_
 first
  |guard_hyp zT52:Tg 1
   first
    |guard_hyp zT0:Tg 1;refine fC 11 23 ?_
    |refine fC 11 27 ?_
  |guard_hyp zT0:Tg 1;refine fC 11 23 ?_
  |refine fC 11 27 ?_
 (with_reducible refine (K3 _ hS2 hC2).mono ?_)
 rintro _ v3_ ⟨rfl,hS3,hD3⟩
 have hC3:Chg (·=R) W v3_:=hC2.trans hD3 (fun _ _ h=>h)
 have hT3:=(hD3.block T hTl2 (by show T≠R;omega)).trans hT2
 have hTl3:T<v3_.heap.size:=by have:=hD3.size;omega
 refine ⟨_,rfl,rA0 trivial ?_⟩
 clear zh
 intro zh
 simp only [aP]
 refine fork1 15 (by kernel_rfl) ?_
 first
  |guard_hyp zT52:Tg 1
   first
    |guard_hyp zT0:Tg 1;refine fC 15 27 ?_
    |refine fC 15 31 ?_
  |guard_hyp zT0:Tg 1;refine fC 15 27 ?_
  |refine fC 15 31 ?_
 (with_reducible refine (K4 _ hS3 hC3).mono ?_)
 rintro _ v4_ ⟨rfl,hS4,hD4⟩
 have hC4:Chg (·=R) W v4_:=hC3.trans hD4 (fun _ _ h=>h)
 have hT4:=(hD4.block T hTl3 (by show T≠R;omega)).trans hT3
 have hTl4:T<v4_.heap.size:=by have:=hD4.size;omega
 refine ⟨_,rfl,rA0 trivial ?_⟩
 clear zh
 intro zh
 simp only [aP]
 first
  |guard_hyp zT52:Tg 1
   first
    |guard_hyp zT0:Tg 1;refine tT 16 28 ?_
    |refine tT 16 32 ?_
  |guard_hyp zT0:Tg 1;refine tT 16 28 ?_
  |refine tT 16 32 ?_
 exact tl T v4_ hTW hTl4 hT4 hS4 hC4) : P := h ⟨⟩
theorem zi16 {P:Prop} (h:P:=by simp [results,results17,go_sem,p0,p1,p2,p3,p4,p5,p6,p7,p8,p9]):P:=h
theorem zi39 {P:Prop} (h:P:=by show b≠w.heap.size;have:=hb.1;omega):P:=h
theorem zi49 {P:Prop} (h:P:=by have:=HCG.out.size;omega):P:=h
theorem okX_er:∀(d:Nat) (e:RE),okX d e.er=okX d e
 |0,_=>rfl
 |d+1,.mk op it v nm A c args=>by
  rw [RE.er_mk]
  simp only [okX,List.all_map,Function.comp_def,okX_er d]
theorem RTab.er_ok (t:RTab):t.er.ok=t.ok:=by
 simp only [RTab.ok,RTab.er,List.length_map,List.all_map,Function.comp_def,RFor.ok,RFor.er,okX_er]
 rfl
theorem RTab.er_blank (t:RTab):t.er.blank=t.blank:=by
 simp only [RTab.blank,RTab.er,List.length_map]
theorem REn.er_ok (x:REn):x.er.ok=x.ok:=by
 simp only [REn.ok,REn.er,RTab.er_ok,RTab.er_blank]
 rfl
theorem deltasF_er (first:Int):∀(l:List RDl) (p:Option ByteArray),deltasF first p (l.map RDl.er)=deltasF first p l
 |[],p=>by cases p<;>rfl
 |d::r,p=>by
  rw [List.map_cons,deltasF_cons,deltasF_cons,deltasF_er first r]
  simp only [RDl.er,List.length_map,List.map_map,Function.comp_def]
  rfl
theorem checkF_er (c:RCm):checkF c.er=checkF c:=by
 simp only [checkF,restC,RCm.er,deltasF_er,List.all_map,Function.comp_def,enOk,REn.er_ok]
 rfl
theorem getS_lenM {α:Type} {l:List UInt8} {one:Int×Int→α×Int×Int} (hm:Mon l one):∀(n:Nat) (s:Int×Int),((getS one n s).1.length:Int)≤((l.length-s.1).toNat:Int)+1:=by
 intro n
 induction n with
 |zero=>intro s;simp [getS];omega
 |succ n ih=>
  intro s
  by_cases hs:s.2=0
  ·rcases e:one s with ⟨x,s'⟩
   rw [getS_step hs e]
   simp only [List.length_cons]
   have h1:=ih s'
   by_cases he:s'.2=0
   ·have h2:=hm s (by rw [e];exact he)
    rw [e] at h2
    simp only at h2
    omega
   ·have h3:(getS one n s').1=[]:=by rw [getS_stop (.inr he)]
    rw [h3]
    simp;omega
  ·rw [getS_stop (.inr hs)]
   simp;omega
theorem rdI_pos {l:List UInt8} {s:Int×Int} (h:(rdI l s).2.2=0):0≤s.1:=by
 rcases e:rdI l s with ⟨a,m,c⟩
 rw [e] at h
 simp only at h
 subst h
 obtain ⟨x,r,hl,hk,hm⟩:=decI_got (rdI_mono e).2.2
 omega
theorem rdL_len {α:Type} {l:List UInt8} {one:Int×Int→α×Int×Int} (hm:Mon l one) (hl:l.length≤10000000000) (s:Int×Int):(rdL l one s).1.length≤10000000000:=by
 exact zq45
theorem rdTab_few {l:List UInt8} (hl:l.length≤10000000000) (s:Int×Int):(rdTab l s).1.few:=
 ⟨rdL_len mon_Col hl _,rdL_len mon_I hl _,rdL_len mon_For hl _,rdL_len (mon_X 24) hl _⟩
theorem rdEnt_few {l:List UInt8} (hl:l.length≤10000000000) (s:Int×Int):(rdEnt l s).1.create.few:=by
 unfold rdEnt
 simp only
 split
 ·exact rdTab_few hl _
 ·exact ⟨Nat.zero_le _,Nat.zero_le _,Nat.zero_le _,Nat.zero_le _⟩
theorem rdDel_few {l:List UInt8} (hl:l.length≤10000000000) (s:Int×Int):(rdDel l s).1.cl.length≤10000000000∧(rdDel l s).1.ops.length≤10000000000:=
 ⟨rdL_len mon_I hl _,rdL_len mon_Fct hl _⟩
theorem getS_all {α:Type} {p:α→Prop} {one:Int×Int→α×Int×Int} (h:∀s,p (one s).1):∀(n:Nat) (s:Int×Int),∀y∈(getS one n s).1,p y:=by
 intro n
 induction n with
 |zero=>intro s y hy;simp [getS] at hy
 |succ n ih=>
  intro s y hy
  by_cases hs:s.2=0
  ·rw [getS_step hs (show one s=((one s).1,(one s).2) from rfl)] at hy
   rcases List.mem_cons.1 hy with rfl|hy
   ·exact h s
   ·exact ih _ y hy
  ·rw [getS_stop (.inr hs)] at hy;cases hy
theorem rdL_all {α:Type} {p:α→Prop} {l:List UInt8} {one:Int×Int→α×Int×Int} (h:∀s,p (one s).1) (s:Int×Int):∀y∈(rdL l one s).1,p y:=by
 unfold rdL
 split
 ·intro y hy;cases hy
 ·exact getS_all h _ _
def DecOut (l:List UInt8) (w0:World) (e:Ending) (w:World):Prop:=
 ∃c:RCm,e=.returned (.tuple #[.agg c.enc.toArray,.int .i64 (decCm l).2])∧c.er=(decCm l).1∧c.is w (fun b=>w0.heap.size≤b∧b<w.heap.size)∧(∀x∈c.ents,∀e∈x.create.chks,exAll w (fun b=>w0.heap.size≤b∧b<w.heap.size) e)∧Bl w0 w
theorem none_is (w:World) (F:Nat→Prop):RCm.none_.is w F:=⟨Rd.nil _ _ _,(fun x hx=>by cases hx),Rd.nil _ _ _,(fun x hx=>by cases hx),Rd.nil _ _ _,Rd.nil _ _ _,Rd.nil _ _ _,Rd.nil _ _ _⟩
theorem decCm_big {l:List UInt8} (h:1048576<l.length):decCm l=(RCm.none_,5):=by unfold decCm;rw [if_pos h]
theorem decCm_end {l:List UInt8} {c:RCm} {s:Int×Int} (h:¬ 1048576<l.length) (hc:rdCm l (0,0)=(c,s)) (he:endE s l.length≠0):decCm l=(RCm.none_,endE s l.length):=by unfold decCm;rw [if_neg h,hc,if_pos he]
theorem decCm_chk {l:List UInt8} {c:RCm} {s:Int×Int} (h:¬ 1048576<l.length) (hc:rdCm l (0,0)=(c,s)) (he:endE s l.length=0) (hk:checkF c≠0):decCm l=(RCm.none_,checkF c):=by unfold decCm;rw [if_neg h,hc,if_neg (by simpa using he),if_pos hk]
theorem decCm_ok {l:List UInt8} {c:RCm} {s:Int×Int} (h:¬ 1048576<l.length) (hc:rdCm l (0,0)=(c,s)) (he:endE s l.length=0) (hk:checkF c=0):decCm l=(c,0):=by unfold decCm;rw [if_neg h,hc,if_neg (by simpa using he),if_neg (by simpa using hk)]
theorem RTab.is_kw {w w':World} {F G:Nat→Prop} {t:RTab} (h:t.is w F) (hk:Keeps F w w') (hw:∀b,F b→G b):t.is w' G:=
 ⟨Rd.wide (Rd.keep h.cols hk) hw,Rd.wide (Rd.keep h.key hk) hw,Rd.wide (Rd.keep h.fors hk) hw,fun x hx=>Rd.wide (Rd.keep (h.forI x hx) hk) hw,Rd.wide (Rd.keep h.chks hk) hw,fun x hx=>exIs_wide hw 24 x (exIs_keep hk 24 x (h.chkI x hx))⟩
theorem RCm.is_kw {w w':World} {F G:Nat→Prop} {c:RCm} (h:c.is w F) (hk:Keeps F w w') (hw:∀b,F b→G b):c.is w' G:=
 ⟨Rd.wide (Rd.keep h.ents hk) hw,fun x hx=>⟨RTab.is_kw (h.entI x hx).create hk hw,(h.entI x hx).few,(h.entI x hx).text⟩,Rd.wide (Rd.keep h.dels hk) hw,fun x hx=>⟨Rd.wide (Rd.keep (h.delI x hx).close hk) hw,⟨Rd.wide (Rd.keep (h.delI x hx).opens.1 hk) hw,fun p hp=>isK_F.wide (isK_F.keep ((h.delI x hx).opens.2 p hp) hk) hw⟩,(h.delI x hx).few⟩,
  Rd.wide (Rd.keep h.pla hk) hw,Rd.wide (Rd.keep h.rel hk) hw,Rd.wide (Rd.keep h.pol hk) hw,Rd.wide (Rd.keep h.hor hk) hw⟩
theorem en_is {w:World} {F:Nat→Prop} {x:REn} (h:enIs w F x) (hf:x.er.create.few):x.is w F:=
 ⟨⟨h.1.1,h.1.2.1,h.1.2.2.1,h.1.2.2.2.1,h.1.2.2.2.2.1,fun e he=>h.1.2.2.2.2.2 e he 24⟩,by simpa [RTab.few,REn.er,RTab.er] using hf,h.2.2.2⟩
theorem del_is {w:World} {F:Nat→Prop} {d:RDl} (h:delIs w F d) (hf:d.er.cl.length≤10000000000∧d.er.ops.length≤10000000000):d.is w F:=
 ⟨h.1,⟨h.2.1,h.2.2⟩,by simpa [RDl.er] using hf⟩
theorem sz_com (w:World):(Go.sizeOf 29).run prog w=.ok 10 w:=by simp [go_sem]
theorem ag_com (w:World):(isAgg 29).run prog w=.ok true w:=by simp [isAgg,go_sem]
theorem decode_any (v:Value) (l:List UInt8) (w:World) (hv:RdB w (ltw w) v l):
  Calls prog 17 #[v] w (DecOut l w):=by
 exact zq0 0
end Go.Proofs.YtbfdegkickjbpaaGreat
