/-
 DcH
-/
import Derived.Test.YtbfdegkickjbpaaGreatHDcG
namespace Go.Proofs.YtbfdegkickjbpaaGreat
set_option maxRecDepth 1000000
set_option maxHeartbeats 32000000
open Go.RowKit Go.Lib Go.IntWalk Go.Sort Go.Shelf
structure RdS (R T H:Nat) (v:Value) (s:Int×Int) (zs cs:Array Value) (t:TypeId) (V:World):Prop where
 src:SrcAt V R v s
 box:V.heap[T]? =some (.cells cs t (0,0))
 res:V.heap[H]? =some (.cells zs t (0,0))
 ne:T≠H∧T≠R∧H≠R
def St3 (R T H:Nat) (a b:World):Prop:=Chg (fun i=>i=R∨i=T∨i=H) a b
section
variable {R T H:Nat} {v:Value} {s s':Int×Int} {zs cs:Array Value} {t:TypeId} {V V' E:World}
theorem St3.trans {a b c:World} (h:St3 R T H a b) (k:St3 R T H b c):St3 R T H a c:=Chg.trans h k (fun _ _ h=>h)
theorem St3.of {a b:World} (h:Chg (·=R) a b):St3 R T H a b:=h.mono (fun _ h=>.inl h)
theorem St3.res {a b:World} (h:Chg (·=H) a b):St3 R T H a b:=h.mono (fun _ h=>.inr (.inr h))
theorem St3.put (V:World) (j:Nat) (u:Value):St3 R T H V (V.setCell ⟨T,j,none⟩ u):=(Chg.refl _ V).setCell (p:=⟨T,j,none⟩) (.inl (.inr (.inl rfl))) u
theorem RdS.lt (h:RdS R T H v s zs cs t V):T<V.heap.size∧H<V.heap.size:=⟨(Array.getElem?_eq_some_iff.1 h.box).1,(Array.getElem?_eq_some_iff.1 h.res).1⟩
theorem RdS.call (h:RdS R T H v s zs cs t V) (hs:SrcAt V' R v s') (hc:Chg (·=R) V V'):RdS R T H v s' zs cs t V':=
 ⟨hs,(hc.block T h.lt.1 h.ne.2.1).trans h.box,(hc.block H h.lt.2 h.ne.2.2).trans h.res,h.ne⟩
theorem RdS.put (h:RdS R T H v s zs cs t V) (j:Nat) (u:Value) {cs':Array Value} (hc:cs.setIfInBounds j u=cs':=by rfl):RdS R T H v s zs cs' t (V.setCell ⟨T,j,none⟩ u):=by
 subst hc
 exact ⟨(heap_setCell_other V ⟨T,j,none⟩ R u (fun e=>h.ne.2.1 e.symm)).trans h.src,heap_setCell_same V T j cs t u h.box,(heap_setCell_other V ⟨T,j,none⟩ H u (fun e=>h.ne.1 e.symm)).trans h.res,h.ne⟩
theorem keep3 {w':World} (hc:St3 R T H V' E) (h1:R<V.heap.size) (h2:H<V.heap.size) (h3:T<V.heap.size∨V'.heap.size≤T) (hw:w'.heap.size≤V.heap.size):
  (∀b,V.heap.size≤b∧b<V'.heap.size→E.heap[b]? =V'.heap[b]?)∧∀b,V.heap.size≤b∧b<V'.heap.size→w'.heap.size≤b∧b<E.heap.size:=
 ⟨fun b hb=>hc.block b hb.2 (by rintro (e|e|e)<;>omega),fun b hb=>⟨by omega,by have:=hc.size;omega⟩⟩
end
def tabIs (w:World) (F:Nat→Prop) (t:RTab):Prop:=RdE 3 RCol.enc w F (.slice t.colA t.cols.length t.colC) t.cols∧RdE 1 intE w F (.slice t.keyA t.key.length t.keyC) t.key∧RdE 2 RFor.enc w F (.slice t.forA t.fors.length t.forC) t.fors∧(∀x∈t.fors,x.is w F)∧RdE 7 RE.enc w F (.slice t.chkA t.chks.length t.chkC) t.chks∧∀x∈t.chks,exAll w F x
theorem isK_Tab:IsK tabIs:=
 ⟨fun h hk=>⟨Rd.keep h.1 hk,Rd.keep h.2.1 hk,Rd.keep h.2.2.1 hk,fun x hx=>isK_For.keep (h.2.2.2.1 x hx) hk,Rd.keep h.2.2.2.2.1 hk,fun x hx=>isK_X.keep (h.2.2.2.2.2 x hx) hk⟩,
  fun h hw=>⟨Rd.wide h.1 hw,Rd.wide h.2.1 hw,Rd.wide h.2.2.1 hw,fun x hx=>isK_For.wide (h.2.2.2.1 x hx) hw,Rd.wide h.2.2.2.2.1 hw,fun x hx=>isK_X.wide (h.2.2.2.2.2 x hx) hw⟩⟩
theorem rdrTab_any (R:Nat) (v:Value) (l:List UInt8) (s:Int×Int) (w:World) (h:SrcAt w R v s) (hv:RdB w (·<R) v l) (hl:l.length≤10000000000):
  Calls Tryz.prog 162 #[.pointer (some ⟨R,0,none⟩)] w (OneE (fun t:RTab=>.agg t.enc.toArray) tabIs RTab.er R v (rdTab l s) w):=by
 rcases h1:rdT l s with ⟨n1,s1⟩
 rcases h2:rdL l (rdCol l) s1 with ⟨xs2,s2⟩
 rcases h3:rdL l (rdI l) s2 with ⟨xs3,s3⟩
 rcases h4:rdL l (rdFor l) s3 with ⟨xs4,s4⟩
 rcases h5:rdL l (rdX l 24) s4 with ⟨xs5,s5⟩
 have hd:rdTab l s=((⟨n1,none,0,xs2,none,0,xs3,none,0,xs4,none,0,xs5⟩:RTab),s5):=by unfold rdTab;simp only [h1,h2,h3,h4,h5]
 rw [hd]
 obtain ⟨W,hW⟩:∃W,W=w.alloc (.cells #[.string ⟨#[]⟩,.slice none 0 0,.slice none 0 0,.slice none 0 0,.slice none 0 0] 75):=⟨_,rfl⟩
 have hR:=h.lt
 have hbW:Below w.heap.size w W:=by rw [hW];exact Below.of_alloc _
 have hWs:W.heap.size=w.heap.size+1:=by rw [hW];simp
 have hQ:W.heap[w.heap.size]? =some (.cells #[.string ⟨#[]⟩,.slice none 0 0,.slice none 0 0,.slice none 0 0,.slice none 0 0] 75 (0,0)):=by rw [hW];exact heap_alloc_new _ _
 have hS0:SrcAt W R v s:=h.below hbW
 have hC0:Chg (·=R) W W:=Chg.refl _ _
 have hvW:∀V,Chg (·=R) W V→RdB V (·<R) v l:=fun V hV=>Rd.keep hv (fun b (hb:b<R)=>(hV.block b (by omega) (by omega)).trans (hbW.block b (by omega)))
 have K1:∀V,SrcAt V R v s→Chg (·=R) W V→Calls Tryz.prog 122 #[.pointer (some ⟨R,0,none⟩)] V fun x w'=>x=.returned (.string n1)∧SrcAt w' R v s1∧Chg (·=R) V w':=fun V hs hV=>by
  have k:=srcText_any R v l s V hs (hvW V hV)
  rw [h1] at k
  exact k
 have K2:∀V,SrcAt V R v s1→Chg (·=R) W V→Calls Tryz.prog 214 #[.pointer (some ⟨R,0,none⟩),.func (.func 163) #[] #[]] V (GetE 3 RCol.enc isT id R v (xs2,s2) V):=fun V hs hV=>by
  have k:=getCol_any R v l (rdCol l) 163 (entF Tryz.func163) s1 V hs (hvW V hV) hl mon_Col (fun s U hsU hU=>rdrCol_any R v l s U hsU (hvW U (hV.trans hU (fun _ _ h=>h))))
  rw [h2] at k
  exact k
 have K3:∀V,SrcAt V R v s2→Chg (·=R) W V→Calls Tryz.prog 165 #[.pointer (some ⟨R,0,none⟩),.func (.func 166) #[] #[]] V (GetE 1 intE isT id R v (xs3,s3) V):=fun V hs hV=>by
  have k:=getInt_any R v l (rdI l) 166 (entF Tryz.func166) s2 V hs (hvW V hV) hl mon_I (fun s U hsU hU=>rdrNum_any R v l s U hsU (hvW U (hV.trans hU (fun _ _ h=>h))))
  rw [h3] at k
  exact k
 have K4:∀V,SrcAt V R v s3→Chg (·=R) W V→Calls Tryz.prog 215 #[.pointer (some ⟨R,0,none⟩),.func (.func 216) #[] #[]] V (GetE 2 RFor.enc RFor.is RFor.er R v (xs4,s4) V):=fun V hs hV=>by
  have k:=getFor_any R v l (rdFor l) 216 (entF Tryz.func216) s3 V hs (hvW V hV) hl mon_For (fun s U hsU hU=>rdrFor_any R v l s U hsU (hvW U (hV.trans hU (fun _ _ h=>h))) hl)
  rw [h4] at k
  exact k
 have K5:∀V,SrcAt V R v s4→Chg (·=R) W V→Calls Tryz.prog 217 #[.pointer (some ⟨R,0,none⟩),.func (.func 218) #[] #[]] V (GetE 7 RE.enc exAll RE.er R v (xs5,s5) V):=fun V hs hV=>by
  have k:=getExp_any R v l (rdX l 24) 218 (entF Tryz.func218) s4 V hs (hvW V hV) hl (mon_X 24) (fun s U hsU hU=>rdrTop_any R v l s U hsU (hvW U (hV.trans hU (fun _ _ h=>h))) hl)
  rw [h5] at k
  exact k
 have HQ:=hI0 hQ
 have HbW:=hI0 hbW
 clear h hv hd hvW hQ hbW h1 h2 h3 h4 h5
 go_enter Tryz.func162,Tryz.ntmps162
 go_wp2_with fail
 try rw [←hW]
 clear hW
 (with_reducible refine (K1 _ hS0 hC0).mono ?_)
 rintro _ v1 ⟨rfl,hS1,hD1⟩
 have hC1:Chg (·=R) W v1:=hC0.trans hD1 (fun _ _ h=>h)
 go_wp2_with fail
 (with_reducible refine (K2 _ hS1 hC1).mono ?_)
 rintro _ v2 ⟨u2,Q2,rfl,hU2,hI2,hE2,hS2,hD2⟩
 rw [List.map_id] at hE2
 obtain ⟨A2,c2,rfl⟩:=rdE_slice hU2
 have HU2:=hI0 hU2
 have HI2:=hI0 hI2
 have HE2:=hI0 hE2
 clear hU2 hI2 hE2
 have hC2:Chg (·=R) W v2:=hC1.trans hD2 (fun _ _ h=>h)
 go_wp2_with fail
 (with_reducible refine (K3 _ hS2 hC2).mono ?_)
 rintro _ v3 ⟨u3,Q3,rfl,hU3,hI3,hE3,hS3,hD3⟩
 rw [List.map_id] at hE3
 obtain ⟨A3,c3,rfl⟩:=rdE_slice hU3
 have HU3:=hI0 hU3
 have HI3:=hI0 hI3
 have HE3:=hI0 hE3
 clear hU3 hI3 hE3
 have hC3:Chg (·=R) W v3:=hC2.trans hD3 (fun _ _ h=>h)
 have hz1:=hC1.size
 have hz2:=hD2.size
 have hz3:=hD3.size
 obtain ⟨T,hTe⟩:∃T,T=v3.heap.size:=⟨_,rfl⟩
 obtain ⟨X,hX⟩:∃X,X=v3.alloc (.cells #[.string n1,.slice A2 Q2.length c2,.slice A3 Q3.length c3,.slice none 0 0,.slice none 0 0] 75):=⟨_,rfl⟩
 have hbX:Below v3.heap.size v3 X:=by rw [hX];exact Below.of_alloc _
 have hXs:X.heap.size=T+1:=by rw [hX,hTe];simp
 have hTX:X.heap[T]? =some (.cells #[.string n1,.slice A2 Q2.length c2,.slice A3 Q3.length c3,.slice none 0 0,.slice none 0 0] 75 (0,0)):=by rw [hX,hTe];exact heap_alloc_new _ _
 have hCX:Chg (·=R) W X:=hC3.trans (Chg.of_below hbX _) (fun _ _ h=>h)
 have hr3:RdS R T w.heap.size v s3 #[.string ⟨#[]⟩,.slice none 0 0,.slice none 0 0,.slice none 0 0,.slice none 0 0] #[.string n1,.slice A2 Q2.length c2,.slice A3 Q3.length c3,.slice none 0 0,.slice none 0 0] 75 X:=⟨hS3.below hbX,hTX,(hCX.block _ (by omega) (by show w.heap.size≠R;omega)).trans HQ.out,by omega,by omega,by omega⟩
 have HX:=hI0 hX
 have HTE:=hI0 hTe
 clear hX hTe hTX
 go_wp2_with fail
 rw [←HX.out,←HTE.out]
 (with_reducible refine (K4 X hr3.src hCX).mono ?_)
 rintro _ v4 ⟨u4,Q4,rfl,hU4,hI4,hE4,hS4,hD4⟩
 obtain ⟨A4,c4,rfl⟩:=rdE_slice hU4
 have HU4:=hI0 hU4
 have HI4:=hI0 hI4
 have HE4:=hI0 hE4
 clear hU4 hI4 hE4
 have hr4:=hr3.call hS4 hD4
 have hC4:Chg (·=R) W v4:=hCX.trans hD4 (fun _ _ h=>h)
 have hz4:=hD4.size
 have p3:v4.cell? ⟨T,3,none⟩=some (.slice none 0 0):=cW0 v4 _ 3 _ _ _ hr4.box
 have g3:v4.frozen? ⟨T,3,none⟩=false:=fW0 v4 _ 3 _ _ hr4.box
 go_upto_region 3 with (fail)
 clear p3 g3
 have hr5:=hr4.put 3 (.slice A4 Q4.length c4) (cs':=#[.string n1,.slice A2 Q2.length c2,.slice A3 Q3.length c3,.slice A4 Q4.length c4,.slice none 0 0])
 have hy4:=St3.put (R:=R) (T:=T) (H:=w.heap.size) v4 3 (.slice A4 Q4.length c4)
 have hC5:Chg (·=R) W (v4.setCell ⟨T,3,none⟩ (.slice A4 Q4.length c4)):=hC4.setCell (p:=⟨T,3,none⟩) (.inr (by show W.heap.size≤T;have:=HTE.out;omega)) _
 generalize v4.setCell ⟨T,3,none⟩ (.slice A4 Q4.length c4)=Y4 at *
 have hw4:=hy4.size
 go_wp2_with fail
 (with_reducible refine (K5 Y4 hr5.src hC5).mono ?_)
 rintro _ v5 ⟨u5,Q5,rfl,hU5,hI5,hE5,hS5,hD5⟩
 obtain ⟨A5,c5,rfl⟩:=rdE_slice hU5
 have HU5:=hI0 hU5
 have HI5:=hI0 hI5
 have HE5:=hI0 hE5
 clear hU5 hI5 hE5
 have hr6:=hr5.call hS5 hD5
 have hz5:=hD5.size
 have p4:v5.cell? ⟨T,4,none⟩=some (.slice none 0 0):=cW0 v5 _ 4 _ _ _ hr6.box
 have g4:v5.frozen? ⟨T,4,none⟩=false:=fW0 v5 _ 4 _ _ hr6.box
 go_upto_region 4 with (fail)
 clear p4 g4
 have hr7:=hr6.put 4 (.slice A5 Q5.length c5) (cs':=#[.string n1,.slice A2 Q2.length c2,.slice A3 Q3.length c3,.slice A4 Q4.length c4,.slice A5 Q5.length c5])
 have hy5:=St3.put (R:=R) (T:=T) (H:=w.heap.size) v5 4 (.slice A5 Q5.length c5)
 have hC7:Chg (·=R) W (v5.setCell ⟨T,4,none⟩ (.slice A5 Q5.length c5)):=(hC5.trans hD5 (fun _ _ h=>h)).setCell (p:=⟨T,4,none⟩) (.inr (by show W.heap.size≤T;have:=HTE.out;omega)) _
 generalize v5.setCell ⟨T,4,none⟩ (.slice A5 Q5.length c5)=Y5 at *
 have hw5:=hy5.size
 have p0:Y5.cell? ⟨T,0,none⟩=some (.string n1):=cW0 Y5 _ 0 _ _ _ hr7.box
 have p1:Y5.cell? ⟨T,1,none⟩=some (.slice A2 Q2.length c2):=cW0 Y5 _ 1 _ _ _ hr7.box
 have p2:Y5.cell? ⟨T,2,none⟩=some (.slice A3 Q3.length c3):=cW0 Y5 _ 2 _ _ _ hr7.box
 have p3:Y5.cell? ⟨T,3,none⟩=some (.slice A4 Q4.length c4):=cW0 Y5 _ 3 _ _ _ hr7.box
 have p4:Y5.cell? ⟨T,4,none⟩=some (.slice A5 Q5.length c5):=cW0 Y5 _ 4 _ _ _ hr7.box
 have q0:Y5.cell? ⟨w.heap.size,0,none⟩=some (.string ⟨#[]⟩):=cW0 Y5 _ 0 _ _ _ hr7.res
 have q1:Y5.cell? ⟨w.heap.size,1,none⟩=some (.slice none 0 0):=cW0 Y5 _ 1 _ _ _ hr7.res
 have q2:Y5.cell? ⟨w.heap.size,2,none⟩=some (.slice none 0 0):=cW0 Y5 _ 2 _ _ _ hr7.res
 have q3:Y5.cell? ⟨w.heap.size,3,none⟩=some (.slice none 0 0):=cW0 Y5 _ 3 _ _ _ hr7.res
 have q4:Y5.cell? ⟨w.heap.size,4,none⟩=some (.slice none 0 0):=cW0 Y5 _ 4 _ _ _ hr7.res
 have z0:Y5.frozen? ⟨w.heap.size,0,none⟩=false:=fW0 Y5 _ 0 _ _ hr7.res
 have z1:Y5.frozen? ⟨w.heap.size,1,none⟩=false:=fW0 Y5 _ 1 _ _ hr7.res
 have z2:Y5.frozen? ⟨w.heap.size,2,none⟩=false:=fW0 Y5 _ 2 _ _ hr7.res
 have z3:Y5.frozen? ⟨w.heap.size,3,none⟩=false:=fW0 Y5 _ 3 _ _ hr7.res
 have z4:Y5.frozen? ⟨w.heap.size,4,none⟩=false:=fW0 Y5 _ 4 _ _ hr7.res
 have hE:=set5_at hr7.res (.string n1) (.slice A2 Q2.length c2) (.slice A3 Q3.length c3) (.slice A4 Q4.length c4) (.slice A5 Q5.length c5)
 have hEc:=set5_chg Y5 w.heap.size (.string n1) (.slice A2 Q2.length c2) (.slice A3 Q3.length c3) (.slice A4 Q4.length c4) (.slice A5 Q5.length c5)
 have HE:=hI0 hE
 have HEc:=hI0 hEc
 have c5:=(St3.res (R:=R) (T:=T) hEc)
 have c4:=hy4.trans ((St3.of hD5).trans (hy5.trans c5))
 have cX:=(St3.of (T:=T) (H:=w.heap.size) (Chg.of_below (S:=(·=R)) hbX)).trans ((St3.of hD4).trans c4)
 have c2:=(St3.of hD3).trans cX
 have HC2:=hI0 c2
 have HC3:=hI0 cX
 have HC4:=hI0 c4
 have HC5:=hI0 (hy5.trans c5)
 have HC7:=hI0 hC7
 have HR7:=hI0 hr7
 clear hE hEc c5 c4 cX c2 hr3 hr4 hr5 hr6 hr7 hC0 hC1 hC2 hC3 hC4 hC5 hC7 hCX hS0 hS1 hS2 hS3 hS4 hS5 hD1 hD2 hD3 hD4 hD5 hy4 hy5 hbX K1 K2 K3 K4 K5
 go_wp2_with fail
 clear p0 q0 z0 p1 q1 z1 p2 q2 z2 p3 q3 z3 p4 q4 z4
 generalize (((((Y5.setCell ⟨w.heap.size,0,none⟩ (.string n1)).setCell ⟨w.heap.size,1,none⟩ (.slice A2 Q2.length c2)).setCell ⟨w.heap.size,2,none⟩ (.slice A3 Q3.length c3)).setCell ⟨w.heap.size,3,none⟩ (.slice A4 Q4.length c4)).setCell ⟨w.heap.size,4,none⟩ (.slice A5 Q5.length c5))=E at *
 have p0:E.cell? ⟨w.heap.size,0,none⟩=some (.string n1):=cW0 E _ 0 _ _ _ HE.out
 have p1:E.cell? ⟨w.heap.size,1,none⟩=some (.slice A2 Q2.length c2):=cW0 E _ 1 _ _ _ HE.out
 have p2:E.cell? ⟨w.heap.size,2,none⟩=some (.slice A3 Q3.length c3):=cW0 E _ 2 _ _ _ HE.out
 have p3:E.cell? ⟨w.heap.size,3,none⟩=some (.slice A4 Q4.length c4):=cW0 E _ 3 _ _ _ HE.out
 have p4:E.cell? ⟨w.heap.size,4,none⟩=some (.slice A5 Q5.length c5):=cW0 E _ 4 _ _ _ HE.out
 have hT:=HTE.out
 obtain ⟨k2,m2⟩:=keep3 (V:=v1) (w':=w) HC2.out (by omega) (by omega) (by omega) (by omega)
 obtain ⟨k3,m3⟩:=keep3 (V:=v2) (w':=w) HC3.out (by omega) (by omega) (by omega) (by omega)
 obtain ⟨k4,m4⟩:=keep3 (V:=X) (w':=w) HC4.out (by omega) (by omega) (by omega) (by omega)
 obtain ⟨k5,m5⟩:=keep3 (V:=Y4) (w':=w) HC5.out (by omega) (by omega) (by omega) (by omega)
 have hSE:SrcAt E R v s5:=(HEc.out.block R HR7.out.src.lt (by show R≠w.heap.size;omega)).trans HR7.out.src
 have hCE:Chg (·=R) w E:=((Chg.of_below HbW.out _).trans HC7.out (fun _ _ h=>h)).trans HEc.out (fun i hi (h:i=w.heap.size)=>by omega)
 exact bodyPost_ret (v:=.agg #[.string n1,.slice A2 Q2.length c2,.slice A3 Q3.length c3,.slice A4 Q4.length c4,.slice A5 Q5.length c5]) (by simp [results,Tryz.results162,go_sem,p0,p1,p2,p3,p4]) rfl ⟨⟨n1,A2,c2,Q2,A3,c3,Q3,A4,c4,Q4,A5,c5,Q5⟩,rfl,⟨Rd.wide (Rd.keep HU2.out k2) m2,Rd.wide (Rd.keep HU3.out k3) m3,Rd.wide (Rd.keep HU4.out k4) m4,fun x hx=>isK_For.wide (isK_For.keep (HI4.out x hx) k4) m4,Rd.wide (Rd.keep HU5.out k5) m5,fun x hx=>isK_X.wide (isK_X.keep (HI5.out x hx) k5) m5⟩,by simp [RTab.er,HE2.out,HE3.out,HE4.out,HE5.out],hSE,hCE⟩
end Go.Proofs.YtbfdegkickjbpaaGreat
