/-
 PbB
-/
import Derived.Test.YtgfhknnklapldaaGreatDoorBPbA
namespace Go.Proofs.YtgfhknnklapldaaGreatDoor
open Go.Proofs.Tryz
set_option maxRecDepth 99999
set_option maxHeartbeats 0
open Go.RowKit Go.Lib Go.IntWalk Go.Sort Go.Shelf
theorem yq12 {P:Prop} (i:Nat) (h:Th i→P:=by
 intro yT12
 first
  |guard_hyp yT12:Th 2;have HR:Hid (res=(⟨3,1,⟨#[]⟩⟩,i2,d2)):=hI0 (by rw [HR0.out,if_neg hA,if_pos hB])
   have e2:(s.toList==[84,82,85,69])=true:=by rw [HST.out,hB];rfl
   clear hA hB HST
  |guard_hyp yT12:Th 1;have HR:Hid (res=(⟨3,0,⟨#[]⟩⟩,i2,d2)):=hI0 (by rw [HR0.out,if_neg hA,if_neg hB,if_pos hD])
   have e3:(s.toList==[70,65,76,83,69])=true:=by rw [HST.out,hD];rfl
   clear hA hB hD HST
  |have HR:Hid (res=(zeroV,i2,d2)):=hI0 (by rw [HR0.out,if_pos hA])
   have e1:s.toList=[78,85,76,76]:=by rw [HST.out,hA];rfl
   have e2:(s.toList==[78,85,76,76])=true:=by rw [e1];rfl
   clear hA HST e1
 have hC:Chg (·=b) w w2:=HCv.out.trans hc2 (fun _ _ h=>h)
 have hQ:w2.heap[w.heap.size]? =some (.cells #[.int .i64 0,.int .i64 0,.string ⟨#[]⟩] 51 (0,0)):=(hc2.block w.heap.size (gL0 HQv.out) (by have:=HBW.out;omega)).trans HQv.out
 have p0:=cW1 0 hQ rfl
 have g0:w2.frozen? ⟨w.heap.size,0,none⟩=false:=fW0 _ _ _ _ _ hQ
 have p1:=cW1 1 hQ rfl
 have g1:w2.frozen? ⟨w.heap.size,1,none⟩=false:=fW0 _ _ _ _ _ hQ
 have p2:=cW1 2 hQ rfl
 have g2:w2.frozen? ⟨w.heap.size,2,none⟩=false:=fW0 _ _ _ _ _ hQ
 first
  |guard_hyp yT12:Th 2;have hV:=vset HBW.out (Nat.le_refl _) hC hx2 hQ (.int .i64 3) (.int .i64 1) (.string ⟨#[]⟩)
  |guard_hyp yT12:Th 1;have hV:=vset HBW.out (Nat.le_refl _) hC hx2 hQ (.int .i64 3) (.int .i64 0) (.string ⟨#[]⟩)
  |have hV:=vset HBW.out (Nat.le_refl _) hC hx2 hQ (.int .i64 0) (.int .i64 0) (.string ⟨#[]⟩)
 have HV:=hI0 hV
 clear hV hC hQ hx2 hc2
 go_wp2_with fail
 clear p0 p1 p2 g0 g1 g2
 first
  |guard_hyp yT12:Th 2;generalize (((w2.setCell ⟨w.heap.size,0,none⟩ (.int .i64 3)).setCell ⟨w.heap.size,1,none⟩ (.int .i64 1)).setCell ⟨w.heap.size,2,none⟩ (.string ⟨#[]⟩))=Y at *
   have p0:Y.cell? ⟨w.heap.size,0,none⟩=some (.int .i64 3):=cW0 Y _ 0 _ _ _ HV.out.1
   have p1:Y.cell? ⟨w.heap.size,1,none⟩=some (.int .i64 1):=cW0 Y _ 1 _ _ _ HV.out.1
  |first
    |guard_hyp yT12:Th 1;generalize (((w2.setCell ⟨w.heap.size,0,none⟩ (.int .i64 3)).setCell ⟨w.heap.size,1,none⟩ (.int .i64 0)).setCell ⟨w.heap.size,2,none⟩ (.string ⟨#[]⟩))=Y at *
     have p0:Y.cell? ⟨w.heap.size,0,none⟩=some (.int .i64 3):=cW0 Y _ 0 _ _ _ HV.out.1
    |generalize (((w2.setCell ⟨w.heap.size,0,none⟩ (.int .i64 0)).setCell ⟨w.heap.size,1,none⟩ (.int .i64 0)).setCell ⟨w.heap.size,2,none⟩ (.string ⟨#[]⟩))=Y at *
     have p0:Y.cell? ⟨w.heap.size,0,none⟩=some (.int .i64 0):=cW0 Y _ 0 _ _ _ HV.out.1
   have p1:Y.cell? ⟨w.heap.size,1,none⟩=some (.int .i64 0):=cW0 Y _ 1 _ _ _ HV.out.1
 have p2:Y.cell? ⟨w.heap.size,2,none⟩=some (.string ⟨#[]⟩):=cW0 Y _ 2 _ _ _ HV.out.1
 rw [HR.out]
 first
  |guard_hyp yT12:Th 2;exact bodyPost_ret (v:=.agg #[.int .i64 3,.int .i64 1,.string ⟨#[]⟩]) yi6 rfl ⟨rfl,HV.out.2.1,HV.out.2.2⟩
  |guard_hyp yT12:Th 1;exact bodyPost_ret (v:=.agg #[.int .i64 3,.int .i64 0,.string ⟨#[]⟩]) yi6 rfl ⟨rfl,HV.out.2.1,HV.out.2.2⟩
  |exact bodyPost_ret (v:=.agg #[.int .i64 0,.int .i64 0,.string ⟨#[]⟩]) yi6 rfl ⟨rfl,HV.out.2.1,HV.out.2.2⟩) : P := h ⟨⟩
theorem yi6 {P:Prop} (h:P:=by simp [results,results146,go_sem,p0,p1,p2]):P:=h
theorem pflag_any (b:Nat) (l:List UInt8) (i:Nat) (d:Bool) (r:List Value) (w:World) (h:CurAt w b (strB l) i d r) (hi:i≤l.length) (hl:l.length≤4294967281):
  Calls prog 202 #[.pointer (some ⟨b,0,none⟩)] w fun e w'=>e=.returned (.bool (pFlag l (i,d)).1)∧CurTo b (strB l) (pFlag l (i,d)).2 r w w':=by
 have KT:=hI0 (token_any b l i d r w h hi hl)
 have HT:Hid (pFlag l (i,d)=(decide ((tokI l (i,d)).1=[49]),(tokI l (i,d)).2.1,(tokI l (i,d)).2.2|| !(decide ((tokI l (i,d)).1=[48])||decide ((tokI l (i,d)).1=[49])))):=hI0 rfl
 obtain ⟨res,hres⟩:=eN0 (pFlag l (i,d))
 rw [←hres] at HT ⊢
 unfold CurTo at KT
 obtain ⟨p1,hp1⟩:=eN0 (tokI l (i,d))
 rw [←hp1] at HT KT
 clear hp1 hres
 obtain ⟨t,i1,d1⟩:=p1
 dsimp only at HT KT
 obtain ⟨S,hS⟩:=eN0 (strB l)
 rw [←hS] at KT ⊢
 clear h hS
 have hst:(strB t).toList=t:=by rw [ByteArray.toList_eq,bas_s]
 have HST:=hI0 hst
 generalize strB t=s at *
 clear hst
 go_in
 go_wp2_with fail
 (with_reducible refine KT.out.mono ?_)
 rintro _ w1 ⟨rfl,hx1,hc1⟩
 have HX1:Hid (CurAt w1 b S i1 d1 r):=hI0 hx1
 have HC1:=hI0 hc1
 have c2:=cW1 2 hx1 rfl
 have f2:w1.frozen? ⟨b,2,none⟩=false:=fW0 _ _ _ _ _ hx1
 clear hx1 hc1 KT
 by_cases h1:t=[49]
 case pos=>
  have HR:Hid (res=(true,i1,d1)):=hI0 (by rw [HT.out,h1];simp)
  have e1:s.toList=[49]:=by rw [HST.out,h1]
  have e0:¬s.toList=[48]:=by rw [HST.out,h1];decide
  clear h1 HST
  go_wp2_with fail
  go_ret
  rw [HR.out]
  exact ⟨rfl,HX1.out,HC1.out⟩
 have e1:¬s.toList=[49]:=by rw [HST.out];exact h1
 by_cases h0:t=[48]
 case pos=>
  have HR:Hid (res=(false,i1,d1)):=hI0 (by rw [HT.out,h0];simp)
  have e0:s.toList=[48]:=by rw [HST.out,h0]
  clear h1 h0 HST
  go_wp2_with fail
  go_ret
  rw [HR.out]
  exact ⟨rfl,HX1.out,HC1.out⟩
 have HR:Hid (res=(false,i1,true)):=hI0 (by rw [HT.out];simp [h0,h1])
 have e0:(s.toList==[48])=false:=by rw [HST.out];simpa using h0
 have e1':(s.toList==[49])=false:=by rw [HST.out];simpa using h1
 clear h1 h0 HST
 go_wp2_with fail
 go_ret
 rw [HR.out]
 exact ⟨by simp,CurAt.bad HX1.out,HC1.out.trans (chg_set w1 b 2 _) (fun _ _ h=>h)⟩
theorem hp_iff (l:List UInt8) (i:Nat):Lib.hasPrefix (l.drop i) [32,39]=decide (l[i]? =some 32∧l[i+1]? =some 39):=by
 unfold Lib.hasPrefix
 by_cases h:i<l.length
 ·rw [List.drop_eq_getElem_cons h,List.getElem?_eq_getElem h]
  by_cases h2:i+1<l.length
  ·rw [List.drop_eq_getElem_cons h2,List.getElem?_eq_getElem h2]
   simp [List.isPrefixOf,Bool.decide_and,eq_comm]
   rfl
  ·rw [List.drop_of_length_le (by omega),List.getElem?_eq_none (by omega)]
   simp [List.isPrefixOf]
 ·rw [List.drop_of_length_le (by omega),List.getElem?_eq_none (by omega)]
  simp [List.isPrefixOf]
theorem CurAt.reset {w:World} {b:Nat} {S:ByteArray} {i:Nat} {d:Bool} {r:List Value} (h:CurAt w b S i d r) (j:Nat) (q:Bool):CurAt (((w.setCell ⟨b,0,none⟩ (.string S)).setCell ⟨b,1,none⟩ (.int .i64 (j:Int))).setCell ⟨b,2,none⟩ (.bool q)) b S j q r:=by
 have h0:=heap_setCell_same w b 0 _ _ (.string S) h
 have h1:=heap_setCell_same _ b 1 _ _ (.int .i64 (j:Int)) h0
 have h2:=heap_setCell_same _ b 2 _ _ (.bool q) h1
 unfold CurAt
 simpa using h2
theorem vset {w0 W:World} {b T:Nat} {a0 a1 a2:Value} {e:TypeId} {S:ByteArray} {k:Nat} {d:Bool} {r:List Value} (hb:b<w0.heap.size) (hT:w0.heap.size≤T) (hc:Chg (·=b) w0 W) (hx:CurAt W b S k d r) (h:W.heap[T]? =some (.cells #[a0,a1,a2] e (0,0))) (c0 c1 c2:Value):
  (((W.setCell ⟨T,0,none⟩ c0).setCell ⟨T,1,none⟩ c1).setCell ⟨T,2,none⟩ c2).heap[T]? =some (.cells #[c0,c1,c2] e (0,0))∧CurAt (((W.setCell ⟨T,0,none⟩ c0).setCell ⟨T,1,none⟩ c1).setCell ⟨T,2,none⟩ c2) b S k d r∧Chg (·=b) w0 (((W.setCell ⟨T,0,none⟩ c0).setCell ⟨T,1,none⟩ c1).setCell ⟨T,2,none⟩ c2):=by
 have h0:=heap_setCell_same W T 0 _ _ c0 h
 have h1:=heap_setCell_same _ T 1 _ _ c1 h0
 have h2:=heap_setCell_same _ T 2 _ _ c2 h1
 have hch:Chg (·=T) W (((W.setCell ⟨T,0,none⟩ c0).setCell ⟨T,1,none⟩ c1).setCell ⟨T,2,none⟩ c2):=(((Chg.refl (·=T) W).setCell (p:=⟨T,0,none⟩) (.inl rfl) c0).setCell (p:=⟨T,1,none⟩) (.inl rfl) c1).setCell (p:=⟨T,2,none⟩) (.inl rfl) c2
 refine ⟨by simpa using h2,(hch.block b hx.lt (fun e=>by omega)).trans hx,hc.trans hch (fun g hg e=>by omega)⟩
theorem pvalue_any (b:Nat) (l:List UInt8) (i:Nat) (d:Bool) (r:List Value) (w:World) (he:EnvP b w) (h:CurAt w b (strB l) i d r) (hi:i≤l.length) (hl:l.length≤4294967281):
  Calls prog 146 #[.pointer (some ⟨b,0,none⟩)] w fun e w'=>e=.returned (.agg (pVal l (i,d)).1.cells.toArray)∧CurTo b (strB l) (pVal l (i,d)).2 r w w':=by
 have hbw:=h.lt
 have HBW:=hI0 hbw
 obtain ⟨res,hres⟩:=eN0 (pVal l (i,d))
 have HR:Hid (res=pVal l (i,d)):=hI0 hres
 rw [←hres]
 clear hres
 have KT:Hid (∀W,CurAt W b (strB l) i d r→Calls prog 96 #[.pointer (some ⟨b,0,none⟩)] W fun e w'=>e=.returned (.string (pText l (i,d)).1)∧CurTo b (strB l) (pText l (i,d)).2 r W w'):=hI0 fun W hW=>text_any b l i d r W hW hi hl
 have KK:Hid (∀W,CurAt W b (strB l) i d r→Calls prog 92 #[.pointer (some ⟨b,0,none⟩)] W fun e w'=>e=.returned (.string (strB (tokI l (i,d)).1))∧CurTo b (strB l) (tokI l (i,d)).2 r W w'):=hI0 fun W hW=>token_any b l i d r W hW hi hl
 have KN:Hid (∀W,EnvP b W→CurAt W b (strB l) i d r→Calls prog 93 #[.pointer (some ⟨b,0,none⟩)] W fun e w'=>e=.returned (.int .i64 (cnumI l (i,d)).1)∧CurTo b (strB l) (cnumI l (i,d)).2 r W w'):=hI0 fun W hE hW=>cnum_any b l i d r W hE hW hi hl
 have KP:Hid (∀W,Calls prog 204 #[.string ((strB l).extract i l.length),.string ⟨#[32,39]⟩] W fun e w'=>e=.returned (.bool (decide (l[i]? =some 32∧l[i+1]? =some 39)))∧w'=W):=hI0 fun W=>by
  have k:=strings_HasPrefix ((strB l).extract i l.length) ⟨#[32,39]⟩ W
  rw [strB_ext,bas_s,show (⟨#[32,39]⟩:ByteArray).data.toList=[32,39] from rfl,List.take_of_length_le (by rw [List.length_drop];omega),hp_iff] at k
  rw [strB_ext,List.take_of_length_le (by rw [List.length_drop];omega)]
  exact k
 have hsz:=strB_size l
 have HT0:Hid (l[i]? =some 32∧l[i+1]? =some 39→res=(⟨2,0,(pText l (i,d)).1⟩,(pText l (i,d)).2)):=hI0 fun hq=>by rw [HR.out];unfold pVal;rw [if_pos hq]
 have HT1:Hid (¬(l[i]? =some 32∧l[i+1]? =some 39)→res=if (tokI l (i,d)).1=wNull then (zeroV,(tokI l (i,d)).2) else if (tokI l (i,d)).1=wTrue then (⟨3,1,⟨#[]⟩⟩,(tokI l (i,d)).2) else if (tokI l (i,d)).1=wFalse then (⟨3,0,⟨#[]⟩⟩,(tokI l (i,d)).2) else (⟨1,(cnumI l (i,d)).1,⟨#[]⟩⟩,(cnumI l (i,d)).2)):=hI0 fun hq=>by rw [HR.out];unfold pVal;rw [if_neg hq]
 clear HR
 obtain ⟨S,hS⟩:=eN0 (strB l)
 rw [←hS] at h KT KK KN KP hsz ⊢
 clear hS
 obtain ⟨W,hW⟩:=eN0 (w.alloc (.cells #[.int .i64 0,.int .i64 0,.string ⟨#[]⟩] 51))
 have hbW:=bN0 hW
 have hnW:=hN0 hW
 have eW:w.alloc (.cells #[.int .i64 0,.int .i64 0,.string ⟨#[]⟩] 51)=W:=by rw [hW]
 clear hW
 have HX:Hid (CurAt W b S i d r):=hI0 (h.below hbW)
 have HXr:Hid (W.heap[b]? =some (.cells (.string S::.int .i64 (i:Int)::.bool d::r).toArray 104 (0,0))):=hI0 (h.below hbW)
 have HC:Hid (Chg (·=b) w W):=hI0 (Chg.of_below hbW _)
 have HQ:=hI0 hnW
 have HE:=hI0 he
 have hlen:(S.size:Int)=l.length:=by omega
 clear h hbW hnW he
 go_in
 go_wp2_with fail
 refine wp_region_noPanic ?_
 refine wp_region_held_drew (S:=(fun Y=>Y=W.drew)) (by kernel_rfl) ?_ (fun zh=>?_)
 ·rfl
 refine hT 0 4 ?_
 refine hT 1 5 ?_
 refine hT 2 6 ?_
 refine hU 3 7 (v:=?_) zh ?_ ?_
 rotate_left
 ·intro w' hSw;(try dsimp only at hSw);rw [hSw];have c0:W.drew.cell? ⟨b,0,none⟩=some (.string S):=cW0 _ _ 0 _ _ _ HXr.out;go_simp<;>with_reducible rfl
 refine hT 4 8 ?_
 refine hT 5 9 ?_
 refine hT 6 10 ?_
 refine hU 7 11 (v:=?_) zh ?_ ?_
 rotate_left
 ·intro w' hSw;(try dsimp only at hSw);rw [hSw];have c1:W.drew.cell? ⟨b,1,none⟩=some (.int .i64 (i:Int)):=cW0 _ _ 1 _ _ _ HXr.out;go_simp<;>with_reducible rfl
 refine hT 8 12 ?_
 refine hC 9 13 ?_
 (with_reducible refine (KP.out _).mono ?_)
 rintro _ _ ⟨rfl,rfl⟩
 refine ⟨_,rfl,keepAnd zh ?_⟩
 clear zh
 intro zh
 simp only [aP]
 refine rD0 ?_
 have HXd:Hid (CurAt W.drew b S i d r):=hI0 HXr.out
 have HCd:Hid (Chg (·=b) w W.drew):=hI0 HC.out.drew
 have HQd:Hid (W.drew.heap[w.heap.size]? =some (.cells #[.int .i64 0,.int .i64 0,.string ⟨#[]⟩] 51 (0,0))):=hI0 HQ.out
 have hEP:EnvP b W.drew:=HE.out.keep ((HC.out.drew.below (Nat.le_of_lt HBW.out) (fun _ e=>by omega)))
 have HEP:=hI0 hEP
 clear zh eW hEP hbw
 by_cases hq:l[i]? =some 32∧l[i+1]? =some 39
 case pos=>
  have HR:=hI0 (HT0.out hq)
  rw [decide_eq_true hq]
  clear hq
  go_wp2_with fail
  (with_reducible refine (KT.out _ HXd.out).mono ?_)
  rintro _ w2 ⟨rfl,hx2,hc2⟩
  generalize pText l (i,d)=p at *
  obtain ⟨ps,i2,d2⟩:=p
  dsimp only at HR hx2 hc2 ⊢
  have hC:Chg (·=b) w w2:=HCd.out.trans hc2 (fun _ _ h=>h)
  have hQ:w2.heap[w.heap.size]? =some (.cells #[.int .i64 0,.int .i64 0,.string ⟨#[]⟩] 51 (0,0)):=(hc2.block w.heap.size (gL0 HQd.out) (by have:=HBW.out;omega)).trans HQd.out
  have p0:=cW1 0 hQ rfl
  have g0:w2.frozen? ⟨w.heap.size,0,none⟩=false:=fW0 _ _ _ _ _ hQ
  have p1:=cW1 1 hQ rfl
  have g1:w2.frozen? ⟨w.heap.size,1,none⟩=false:=fW0 _ _ _ _ _ hQ
  have p2:=cW1 2 hQ rfl
  have g2:w2.frozen? ⟨w.heap.size,2,none⟩=false:=fW0 _ _ _ _ _ hQ
  have hV:=vset HBW.out (Nat.le_refl _) hC hx2 hQ (.int .i64 2) (.int .i64 0) (.string ps)
  have HV:=hI0 hV
  clear hV hC hQ hx2 hc2
  go_wp2_with fail
  clear p0 p1 p2 g0 g1 g2
  generalize (((w2.setCell ⟨w.heap.size,0,none⟩ (.int .i64 2)).setCell ⟨w.heap.size,1,none⟩ (.int .i64 0)).setCell ⟨w.heap.size,2,none⟩ (.string ps))=Y at *
  have p0:Y.cell? ⟨w.heap.size,0,none⟩=some (.int .i64 2):=cW0 Y _ 0 _ _ _ HV.out.1
  have p1:Y.cell? ⟨w.heap.size,1,none⟩=some (.int .i64 0):=cW0 Y _ 1 _ _ _ HV.out.1
  have p2:Y.cell? ⟨w.heap.size,2,none⟩=some (.string ps):=cW0 Y _ 2 _ _ _ HV.out.1
  rw [HR.out]
  exact bodyPost_ret (v:=.agg #[.int .i64 2,.int .i64 0,.string ps]) yi6 rfl ⟨rfl,HV.out.2.1,HV.out.2.2⟩
 have HR0:=hI0 (HT1.out hq)
 rw [decide_eq_false hq]
 clear hq HT0 HT1
 have c1:=cW1 1 HXr.out rfl
 have c0:=cW1 0 HXr.out rfl
 have c2:=cW1 2 HXr.out rfl
 obtain ⟨V,hV⟩:=eN0 (W.alloc (.cells #[.string S,.int .i64 (i:Int),.bool d] 102))
 have hbV:=bN0 hV
 have hnV:=hN0 hV
 have eV:W.alloc (.cells #[.string S,.int .i64 (i:Int),.bool d] 102)=V:=by rw [hV]
 clear hV
 have HXv:Hid (CurAt V.drew b S i d r):=hI0 (HX.out.below hbV.drew)
 have HCv:Hid (Chg (·=b) w V.drew):=hI0 (HC.out.then_below hbV).drew
 have HQv:Hid (V.drew.heap[w.heap.size]? =some (.cells #[.int .i64 0,.int .i64 0,.string ⟨#[]⟩] 51 (0,0))):=hI0 (keepRow hbV.drew HQ.out)
 have HVv:Hid (V.drew.heap[W.heap.size]? =some (.cells #[.string S,.int .i64 (i:Int),.bool d] 102 (0,0))):=hI0 hnV
 have HVH:Hid (W.heap.size≠b):=hI0 (by have:=HX.out.lt;omega)
 have HVG:Hid (w.heap.size≤W.heap.size):=hI0 HC.out.size
 have HEv:Hid (EnvP b V.drew):=hI0 (HE.out.keep (HCv.out.below (Nat.le_of_lt HBW.out) (fun _ e=>by omega)))
 clear hbV hnV
 go_wp2_with fail
 clear eV c0 c1 c2
 (with_reducible refine (KK.out _ HXv.out).mono ?_)
 rintro _ w2 ⟨rfl,hx2,hc2⟩
 have HP:Hid (tokI l (i,d)=tokI l (i,d)):=hI0 rfl
 generalize tokI l (i,d)=p at *
 obtain ⟨t,i2,d2⟩:=p
 dsimp only at HR0 hx2 hc2 ⊢
 have hst:(strB t).toList=t:=by rw [ByteArray.toList_eq,bas_s]
 have HST:=hI0 hst
 generalize strB t=s at *
 clear hst
 have HX2:=hI0 hx2
 have HC2:=hI0 hc2
 by_cases hA:t=wNull
 case pos=>
  exact yq12 0
 have e1:(s.toList==[78,85,76,76])=false:=by rw [HST.out];simpa [wNull] using hA
 by_cases hB:t=wTrue
 case pos=>
  exact yq12 2
 have e2:(s.toList==[84,82,85,69])=false:=by rw [HST.out];simpa [wTrue] using hB
 by_cases hD:t=wFalse
 case pos=>
  exact yq12 1
 have HR1:Hid (res=(⟨1,(cnumI l (i,d)).1,⟨#[]⟩⟩,(cnumI l (i,d)).2)):=hI0 (by rw [HR0.out,if_neg hA,if_neg hB,if_neg hD])
 have e3:(s.toList==[70,65,76,83,69])=false:=by rw [HST.out];simpa [wFalse] using hD
 clear hA hB hD HST
 have HBX:Hid (w2.heap[W.heap.size]? =some (.cells #[.string S,.int .i64 (i:Int),.bool d] 102 (0,0))):=hI0 ((HC2.out.block W.heap.size (gL0 HVv.out) (by have:=HVH.out;simpa using this)).trans HVv.out)
 have v1:=cW1 1 HBX.out rfl
 have v0:=cW1 0 HBX.out rfl
 have v2:=cW1 2 HBX.out rfl
 have k1:=cW1 1 HX2.out rfl
 have k0:=cW1 0 HX2.out rfl
 have k2:=cW1 2 HX2.out rfl
 have f1:w2.frozen? ⟨b,1,none⟩=false:=fW0 _ _ _ _ _ HX2.out
 have f0:w2.frozen? ⟨b,0,none⟩=false:=fW0 _ _ _ _ _ HX2.out
 have f2:w2.frozen? ⟨b,2,none⟩=false:=fW0 _ _ _ _ _ HX2.out
 obtain ⟨V2,hV2⟩:=eN0 ((((w2.setCell ⟨b,0,none⟩ (.string S)).setCell ⟨b,1,none⟩ (.int .i64 (i:Int))).setCell ⟨b,2,none⟩ (.bool d)))
 have hx3:CurAt V2 b S i d r:=by rw [hV2];exact CurAt.reset HX2.out i d
 have hc3:Chg (·=b) w2 V2:=by rw [hV2];exact chg_line w2 b _ _ _
 have HXY:=hI0 hx3
 have HCY:Hid (Chg (·=b) w V2):=hI0 ((HCv.out.trans HC2.out (fun _ _ h=>h)).trans hc3 (fun _ _ h=>h))
 have HQY:Hid (V2.heap[w.heap.size]? =some (.cells #[.int .i64 0,.int .i64 0,.string ⟨#[]⟩] 51 (0,0))):=hI0 ((hc3.block w.heap.size (by have:=(gL0 HQv.out);have:=HC2.out.size;omega) (by have:=HBW.out;omega)).trans ((HC2.out.block w.heap.size (gL0 HQv.out) (by have:=HBW.out;omega)).trans HQv.out))
 have HEY:Hid (EnvP b V2):=hI0 (HEv.out.keep ((HC2.out.trans hc3 (fun _ _ h=>h)).below (by have:=HXv.out.lt;omega) (fun _ e=>by omega)))
 have eV2:(((w2.setCell ⟨b,0,none⟩ (.string S)).setCell ⟨b,1,none⟩ (.int .i64 (i:Int))).setCell ⟨b,2,none⟩ (.bool d))=V2:=hV2.symm
 clear hV2 hx3 hc3 hx2 hc2 HX2 HC2 HBX
 go_wp2_with fail
 clear eV2 v0 v1 v2 k0 k1 k2 f0 f1 f2
 (with_reducible refine (KN.out V2 HEY.out HXY.out).mono ?_)
 rintro _ w4 ⟨rfl,hx4,hc4⟩
 have HR:=HR1
 clear HR1
 generalize cnumI l (i,d)=p at *
 obtain ⟨n,i3,d3⟩:=p
 dsimp only at HR hx4 hc4 ⊢
 have hC:Chg (·=b) w w4:=HCY.out.trans hc4 (fun _ _ h=>h)
 have hQ:w4.heap[w.heap.size]? =some (.cells #[.int .i64 0,.int .i64 0,.string ⟨#[]⟩] 51 (0,0)):=(hc4.block w.heap.size (gL0 HQY.out) (by have:=HBW.out;omega)).trans HQY.out
 have p0:=cW1 0 hQ rfl
 have g0:w4.frozen? ⟨w.heap.size,0,none⟩=false:=fW0 _ _ _ _ _ hQ
 have p1:=cW1 1 hQ rfl
 have g1:w4.frozen? ⟨w.heap.size,1,none⟩=false:=fW0 _ _ _ _ _ hQ
 have p2:=cW1 2 hQ rfl
 have g2:w4.frozen? ⟨w.heap.size,2,none⟩=false:=fW0 _ _ _ _ _ hQ
 have hV:=vset HBW.out (Nat.le_refl _) hC hx4 hQ (.int .i64 1) (.int .i64 n) (.string ⟨#[]⟩)
 have HV:=hI0 hV
 clear hV hC hQ hx4 hc4
 go_wp2_with fail
 clear p0 p1 p2 g0 g1 g2
 generalize (((w4.setCell ⟨w.heap.size,0,none⟩ (.int .i64 1)).setCell ⟨w.heap.size,1,none⟩ (.int .i64 n)).setCell ⟨w.heap.size,2,none⟩ (.string ⟨#[]⟩))=Y at *
 have p0:Y.cell? ⟨w.heap.size,0,none⟩=some (.int .i64 1):=cW0 Y _ 0 _ _ _ HV.out.1
 have p1:Y.cell? ⟨w.heap.size,1,none⟩=some (.int .i64 n):=cW0 Y _ 1 _ _ _ HV.out.1
 have p2:Y.cell? ⟨w.heap.size,2,none⟩=some (.string ⟨#[]⟩):=cW0 Y _ 2 _ _ _ HV.out.1
 rw [HR.out]
 exact bodyPost_ret (v:=.agg #[.int .i64 1,.int .i64 n,.string ⟨#[]⟩]) yi6 rfl ⟨rfl,HV.out.2.1,HV.out.2.2⟩
end Go.Proofs.YtgfhknnklapldaaGreatDoor
