/-
 RrF
-/
import Derived.Test.YtbfdegkickjbpaaGreatGRr1
import Derived.Test.YtbfdegkickjbpaaGreatGDcI
namespace Go.Proofs.YtbfdegkickjbpaaGreat
set_option maxRecDepth 1000000
set_option maxHeartbeats 32000000
open Go.RowKit Go.Lib Go.IntWalk Go.Sort Go.Shelf
theorem sz_rcol (w:World):(Go.sizeOf 77).run Tryz.prog w=.ok 3 w:=by simp [go_sem]
theorem ag_rcol (w:World):(isAgg 77).run Tryz.prog w=.ok true w:=by simp [isAgg,go_sem]
theorem colC (b:Value) (s:Int×Int) (n:Int) (g:InR) (l:List UInt8) (w:World) (hv:RdB w (·<w.heap.size) b l):Calls Tryz.prog 173 #[.agg (inC b s n g)] w (RIx b (fun x:RCol=>.agg x.enc.toArray) isT id (rdCol l s) w):=by
 obtain ⟨bA,bc,rfl,y1,y2,y3⟩:=Rd.open_ hv
 obtain ⟨W,hW⟩:∃W,W=(((w.alloc (.cells (inC (.slice bA l.length bc) s n g) 152)).alloc (.cells #[.slice none 0 0,.int .i64 0,.int .i64 0,.int .i64 0,.string ⟨#[]⟩,.int .i64 0,.int .i64 0,.string ⟨#[]⟩,.slice none 0 0,.int .i64 0,.int .i64 0,.slice none 0 0] 152)).alloc (.cells #[.string ⟨#[]⟩,.int .i64 0,.bool false] 77)).alloc (.cells #[.string ⟨#[]⟩,.int .i64 0,.bool false] 77):=⟨_,rfl⟩
 have hi:=FR.init w (inC (.slice bA l.length bc) s n g) inZ 152
 have hj:=(hi.1.init_more (by simp) #[.string ⟨#[]⟩,.int .i64 0,.bool false] 77).init_more (by simp) #[.string ⟨#[]⟩,.int .i64 0,.bool false] 77
 have h:FR w.heap.size (Sv w.heap.size 4) W [(w.heap.size,(inC (.slice bA l.length bc) s n g),152),(w.heap.size+1,inZ,152),(w.heap.size+2,#[.string ⟨#[]⟩,.int .i64 0,.bool false],77),(w.heap.size+3,#[.string ⟨#[]⟩,.int .i64 0,.bool false],77)] W:=by rw [hW];exact hj
 have hbW:Below w.heap.size w W:=by rw [hW];exact (hi.2.alloc (by simp;omega) _).alloc (by simp;omega) _
 clear hi hj
 have KV:∀V,Below w.heap.size w V→RdB V (·<V.heap.size) (.slice bA l.length bc) l:=fun V hb=>hv.below hb
 have HB:=hI0 hbW
 clear hv hbW
 rcases h1:rdT l s with ⟨x1,s1⟩
 rcases h2:rdI l s1 with ⟨x2,s2⟩
 rcases h3:flagF l s2 with ⟨x3,s3⟩
 have hd:rdCol l s=(⟨x1,x2,x3==1⟩,s3):=by
  have k:=flagF_bool l s2
  rw [h3] at k
  have e:(x3==1)=decide (x3=1):=rfl
  simp only [rdCol,h1,h2,k.1,k.2,e]
 rw [hd]
 have K1:=fun V (hV:RdB V (·<V.heap.size) (.slice bA l.length bc) l)=>textC (.slice bA l.length bc) s n g l V hV
 have K2:=fun n g V (hV:RdB V (·<V.heap.size) (.slice bA l.length bc) l)=>numC (.slice bA l.length bc) s1 n g l V hV
 have K3:=fun n g V (hV:RdB V (·<V.heap.size) (.slice bA l.length bc) l)=>flagC (.slice bA l.length bc) s2 n g l V hV
 rw [h1] at K1
 rw [h2] at K2
 rw [h3] at K3
 clear hd h1 h2 h3
 go_enter Tryz.func173,Tryz.ntmps173
 go_upto_region 2 with (fail)
 rw [←hW]
 clear hW
 go_wp2_with (refine ldR 1 sz_in ag_in (h.get 0) ?_)
 (with_reducible refine (K1 W (KV _ (h.below HB.out))).mono ?_)
 rintro _ U1 ⟨n1,g1,rfl,hb1⟩
 have hc1:=h.call hb1
 go_upto_region 3 with (refine stR 1 7 sz_in (hc1.get 0) rfl ?_;intro V1 hV1 cV1)
 have h1:=hc1.store 0 rfl cV1 hV1
 clear h hc1 hb1 cV1 hV1
 have pp0:V1.cell? ⟨w.heap.size,4,none⟩=some (.string x1):=cW0 V1 _ 4 _ _ _ (h1.get 0)
 have xx0:V1.cell? ⟨w.heap.size+3,0,none⟩=some (.string ⟨#[]⟩):=cW0 V1 _ 0 _ _ _ (h1.get 3)
 have ff0:=fW0 V1 _ 0 _ _ (h1.get 3)
 go_upto_region 4 with (fail)
 have h1p:=h1.put 3 0 (.string x1)
 have h2:=h1p
 clear pp0 xx0 ff0 h1 h1p
 generalize (V1.setCell ⟨w.heap.size+3,0,none⟩ (.string x1))=V2 at *
 go_wp2_with (refine ldR 1 sz_in ag_in (h2.get 0) ?_)
 (with_reducible refine (K2 n1 (g1.ws x1) V2 (KV _ (h2.below HB.out))).mono ?_)
 rintro _ U3 ⟨g2,rfl,hb3⟩
 have hc3:=h2.call hb3
 go_upto_region 5 with (refine stR 1 12 sz_in (hc3.get 0) rfl ?_;intro V3 hV3 cV3)
 have h3:=hc3.store 0 rfl cV3 hV3
 clear h2 hc3 hb3 cV3 hV3
 have pp0:V3.cell? ⟨w.heap.size,3,none⟩=some (.int .i64 x2):=cW0 V3 _ 3 _ _ _ (h3.get 0)
 have xx0:V3.cell? ⟨w.heap.size+3,1,none⟩=some (.int .i64 0):=cW0 V3 _ 1 _ _ _ (h3.get 3)
 have ff0:=fW0 V3 _ 1 _ _ (h3.get 3)
 go_upto_region 6 with (fail)
 have h3p:=h3.put 3 1 (.int .i64 x2)
 have h4:=h3p
 clear pp0 xx0 ff0 h3 h3p
 generalize (V3.setCell ⟨w.heap.size+3,1,none⟩ (.int .i64 x2))=V4 at *
 go_wp2_with (refine ldR 1 sz_in ag_in (h4.get 0) ?_)
 (with_reducible refine (K3 x2 g2 V4 (KV _ (h4.below HB.out))).mono ?_)
 rintro _ U5 ⟨g3,rfl,hb5⟩
 have hc5:=h4.call hb5
 go_upto_region 7 with (refine stR 1 17 sz_in (hc5.get 0) rfl ?_;intro V5 hV5 cV5)
 have h5:=hc5.store 0 rfl cV5 hV5
 clear h4 hc5 hb5 cV5 hV5
 have pp0:V5.cell? ⟨w.heap.size,3,none⟩=some (.int .i64 x3):=cW0 V5 _ 3 _ _ _ (h5.get 0)
 have xx0:V5.cell? ⟨w.heap.size+3,2,none⟩=some (.bool false):=cW0 V5 _ 2 _ _ _ (h5.get 3)
 have ff0:=fW0 V5 _ 2 _ _ (h5.get 3)
 go_upto_region 8 with (fail)
 have h5p:=h5.put 3 2 (.bool (x3==1))
 have h6:=h5p
 clear pp0 xx0 ff0 h5 h5p
 generalize (V5.setCell ⟨w.heap.size+3,2,none⟩ (.bool (x3==1)))=V6 at *
 have H0:=hI0 h6
 have hq0:=(h6.get 0)
 have hq1:=h6.get 1
 have hq2:=h6.get 2
 have hq3:=h6.get 3
 obtain ⟨Y1,hY1⟩:∃Y,Y=V6.drew.setRow (w.heap.size+1) (inC (.slice bA l.length bc) s3 x3 g3):=⟨_,rfl⟩
 have cY1:Chg (·=w.heap.size+1) V6 Y1:=by rw [hY1];exact (Chg.refl (·=w.heap.size+1) V6).drew.trans (chg_setRow _ _ _) (fun _ _ h=>h)
 have hY11:Y1.heap[w.heap.size+1]? =some (.cells (inC (.slice bA l.length bc) s3 x3 g3) 152 (0,0)):=by rw [hY1];exact setRow_heap _ _ _ _ _ _ hq1
 have k1:=h6.store 1 rfl cY1 hY11
 obtain ⟨Y2,hY2⟩:∃Y,Y=Y1.setRow (w.heap.size+2) #[.string x1,.int .i64 x2,.bool (x3==1)]:=⟨_,rfl⟩
 have cY2:Chg (·=w.heap.size+2) Y1 Y2:=by rw [hY2];exact chg_setRow _ _ _
 have hY22:Y2.heap[w.heap.size+2]? =some (.cells #[.string x1,.int .i64 x2,.bool (x3==1)] 77 (0,0)):=by rw [hY2];exact setRow_heap _ _ _ _ _ _ (k1.get 2)
 have k2:=k1.store 2 rfl cY2 hY22
 have HY1:=hI0 hY1
 have HY2:=hI0 hY2
 clear hY1 hY2
 refine wp_region_noPanic ?_
 refine wp_region_held_drew (S:=(fun Y=>Y.heap[w.heap.size]? =some (.cells (inC (.slice bA l.length bc) s3 x3 g3) 152 (0,0))∧Y.heap[w.heap.size+3]? =some (.cells #[.string x1,.int .i64 x2,.bool (x3==1)] 77 (0,0)))) (by kernel_rfl) ?_ (fun hHeld=>?_)
 ·exact ⟨hq0,hq3⟩
 refine heldTake 0 (some 22) (v:=.agg (inC (.slice bA l.length bc) s3 x3 g3)) rfl rfl (by kernel_rfl) (by kernel_rfl) (by kernel_rfl) (by rfl) hHeld (fun _ _ _ h=>h) (fun w' hSw=>exec_loadRow (cs:=(inC (.slice bA l.length bc) s3 x3 g3)) (T:=w.heap.size) (t:=152) (.tmp 1) rfl rfl sz_in ag_in hSw.1) ?_
 simp only [aP]
 refine heldTake 1 (some 23) (v:=.agg #[.string x1,.int .i64 x2,.bool (x3==1)]) rfl rfl (by kernel_rfl) (by kernel_rfl) (by kernel_rfl) (by rfl) hHeld (fun _ _ _ h=>h) (fun w' hSw=>exec_loadRow (cs:=#[.string x1,.int .i64 x2,.bool (x3==1)]) (T:=w.heap.size+3) (t:=77) (.tmp 4) rfl rfl sz_rcol ag_rcol hSw.2) ?_
 simp only [aP]
 refine heldSkipRun 2 none (w':=Y1) rfl rfl (by kernel_rfl) (by rfl) (by rw [HY1.out];exact exec_storeRow (cur:=inZ) (vs:=(inC (.slice bA l.length bc) s3 x3 g3)) (t:=152) (H:=w.heap.size+1) (.tmp 2) (.tmp 22) rfl rfl rfl sz_in rfl rfl hq1) ⟨k1.get 0,k1.get 3⟩ ?_
 simp only [Act.put]
 refine heldSkipRun 3 none (w':=Y2) rfl rfl (by kernel_rfl) (by rfl) (by rw [HY2.out];exact exec_storeRow (cur:=#[.string ⟨#[]⟩,.int .i64 0,.bool false]) (vs:=#[.string x1,.int .i64 x2,.bool (x3==1)]) (t:=77) (H:=w.heap.size+2) (.tmp 3) (.tmp 23) rfl rfl rfl sz_rcol rfl rfl (k1.get 2)) ⟨k2.get 0,k2.get 3⟩ ?_
 simp only [Act.put]
 refine wpAnyH_done (by kernel_rfl) ?_ _
 refine NoPanic.normal ?_
 go_wp2_with fail
 exact bodyPost_ret (v:=.tuple #[.agg (inC (.slice bA l.length bc) s3 x3 g3),.agg #[.string x1,.int .i64 x2,.bool (x3==1)]]) (res_two Tryz.results173 rfl rfl (run_varRow sz_in ag_in (k2.get 1)) (run_varRow sz_rcol ag_rcol (k2.get 2))) rfl ⟨x3,g3,⟨x1,x2,x3==1⟩,rfl,trivial,rfl,k2.below HB.out⟩
theorem sz_rexp (w:World):(Go.sizeOf 212).run Tryz.prog w=.ok 7 w:=by simp [go_sem]
theorem ag_rexp (w:World):(isAgg 212).run Tryz.prog w=.ok true w:=by simp [isAgg,go_sem]
theorem exprC0 (b:Value) (s:Int×Int) (n:Int) (g:InR) (l:List UInt8) (w:World) (hv:RdB w (·<w.heap.size) b l) (hs:s.2=0):Calls Tryz.prog 223 #[.agg (inC b s n g),.int .i64 0] w (RIx b (fun x:RE=>.agg x.enc.toArray) exAll RE.er (rdX l 0 s) w):=by
 obtain ⟨bA,bc,rfl,y1,y2,y3⟩:=Rd.open_ hv
 obtain ⟨W,hW⟩:∃W,W=((w.alloc (.cells (inC (.slice bA l.length bc) s n g) 152)).alloc (.cells #[.slice none 0 0,.int .i64 0,.int .i64 0,.int .i64 0,.string ⟨#[]⟩,.int .i64 0,.int .i64 0,.string ⟨#[]⟩,.slice none 0 0,.int .i64 0,.int .i64 0,.slice none 0 0] 152)).alloc (.cells #[.int .i64 0,.int .i64 0,.int .i64 0,.int .i64 0,.string ⟨#[]⟩,.string ⟨#[]⟩,.slice none 0 0] 212):=⟨_,rfl⟩
 have hi:=FR.init w (inC (.slice bA l.length bc) s n g) inZ 152
 have hj:=hi.1.init_more (by simp) #[.int .i64 0,.int .i64 0,.int .i64 0,.int .i64 0,.string ⟨#[]⟩,.string ⟨#[]⟩,.slice none 0 0] 212
 have h:FR w.heap.size (Sv w.heap.size 3) W [(w.heap.size,(inC (.slice bA l.length bc) s n g),152),(w.heap.size+1,inZ,152),(w.heap.size+2,#[.int .i64 0,.int .i64 0,.int .i64 0,.int .i64 0,.string ⟨#[]⟩,.string ⟨#[]⟩,.slice none 0 0],212)] W:=by rw [hW];exact hj
 have hbW:Below w.heap.size w W:=by rw [hW];exact hi.2.alloc (by simp;omega) _
 clear hi hj
 go_enter Tryz.func223,Tryz.ntmps223
 go_upto_region 1 with (fail)
 rw [←hW]
 clear hW
 go_upto_region 2 with (fail)
 go_wp2_with (refine ldR 2 sz_in ag_in (h.get 0) ?_)
 (with_reducible refine (failC (.slice bA l.length bc) s n g 26 26 _ ⟨_,_,_,rfl⟩ (by rw [if_pos hs])).mono ?_)
 rintro _ V9 ⟨rfl,hb9⟩
 have h9:=h.call hb9
 have q0:∀j v,#[.int .i64 0,.int .i64 0,.int .i64 0,.int .i64 0,.string ⟨#[]⟩,.string ⟨#[]⟩,.slice none 0 0][j]? =some v→V9.cell? ⟨w.heap.size+2,j,none⟩=some v:=fun j v hj=>(cW0 V9 _ j _ _ _ (h9.get 2)).trans hj
 go_wp2_with (first|(refine stR 4 14 sz_in (h9.get 1) rfl ?_;intro E hE cE)|(refine stR (vs:=#[.int .i64 0,.int .i64 0,.int .i64 0,.int .i64 0,.string ⟨#[]⟩,.string ⟨#[]⟩,.slice none 0 0]) 5 15 sz_rexp ((h9.store 1 rfl cE hE).get 2) rfl ?_;intro G hG cG))
 have k2:=(h9.store 1 rfl cE hE).store 2 rfl cG hG
 exact bodyPost_ret (v:=.tuple #[.agg (inC (.slice bA l.length bc) (s.1,26) 0 InR.zero),.agg #[.int .i64 0,.int .i64 0,.int .i64 0,.int .i64 0,.string ⟨#[]⟩,.string ⟨#[]⟩,.slice none 0 0]]) (res_two Tryz.results223 rfl rfl (run_varRow sz_in ag_in (k2.get 1)) (run_varRow sz_rexp ag_rexp (k2.get 2))) rfl ⟨0,InR.zero,.mk 0 0 zeroV ⟨#[]⟩ none 0 [],rfl,exAll_mk (Rd.nil _ _ _) goV_zero (by decide) (fun e he=>by cases he),rfl,k2.below hbW⟩
theorem exprC1 (d:Nat) (hd9:d+1≤1000) (b:Value) (s:Int×Int) (n lv:Int) (hlv:lv=(d:Int)+1) (g:InR) (l:List UInt8) (w:World) (hv:RdB w (·<w.heap.size) b l) (hl:l.length≤1048576)
  (IH:∀(s:Int×Int) (n:Int) (g:InR) (V:World),RdB V (·<V.heap.size) b l→s.2=0→Calls Tryz.prog 223 #[.agg (inC b s n g),.int .i64 (lv-1)] V (RIx b (fun x:RE=>.agg x.enc.toArray) exAll RE.er (rdX l d s) V)):Calls Tryz.prog 223 #[.agg (inC b s n g),.int .i64 lv] w (RIx b (fun x:RE=>.agg x.enc.toArray) exAll RE.er (rdX l (d+1) s) w):=by
 obtain ⟨bA,bc,rfl,y1,y2,y3⟩:=Rd.open_ hv
 obtain ⟨W,hW⟩:∃W,W=(((w.alloc (.cells (inC (.slice bA l.length bc) s n g) 152)).alloc (.cells #[.slice none 0 0,.int .i64 0,.int .i64 0,.int .i64 0,.string ⟨#[]⟩,.int .i64 0,.int .i64 0,.string ⟨#[]⟩,.slice none 0 0,.int .i64 0,.int .i64 0,.slice none 0 0] 152)).alloc (.cells #[.int .i64 0,.int .i64 0,.int .i64 0,.int .i64 0,.string ⟨#[]⟩,.string ⟨#[]⟩,.slice none 0 0] 212)).alloc (.cells #[.int .i64 0,.int .i64 0,.int .i64 0,.int .i64 0,.string ⟨#[]⟩,.string ⟨#[]⟩,.slice none 0 0] 212):=⟨_,rfl⟩
 have hi:=FR.init w (inC (.slice bA l.length bc) s n g) inZ 152
 have hj:=(hi.1.init_more (by simp) #[.int .i64 0,.int .i64 0,.int .i64 0,.int .i64 0,.string ⟨#[]⟩,.string ⟨#[]⟩,.slice none 0 0] 212).init_more (by simp) #[.int .i64 0,.int .i64 0,.int .i64 0,.int .i64 0,.string ⟨#[]⟩,.string ⟨#[]⟩,.slice none 0 0] 212
 have h:FR w.heap.size (Sv w.heap.size 4) W [(w.heap.size,(inC (.slice bA l.length bc) s n g),152),(w.heap.size+1,inZ,152),(w.heap.size+2,#[.int .i64 0,.int .i64 0,.int .i64 0,.int .i64 0,.string ⟨#[]⟩,.string ⟨#[]⟩,.slice none 0 0],212),(w.heap.size+3,#[.int .i64 0,.int .i64 0,.int .i64 0,.int .i64 0,.string ⟨#[]⟩,.string ⟨#[]⟩,.slice none 0 0],212)] W:=by rw [hW];exact hj
 have hbW:Below w.heap.size w W:=by rw [hW];exact (hi.2.alloc (by simp;omega) _).alloc (by simp;omega) _
 clear hi hj
 have KV:∀V,Below w.heap.size w V→RdB V (·<V.heap.size) (.slice bA l.length bc) l:=fun V hb=>hv.below hb
 have HB:=hI0 hbW
 clear hv hbW
 rcases h1:rdI l s with ⟨x1,s1⟩
 rcases h2:rdI l s1 with ⟨x2,s2⟩
 rcases h3:rdV l s2 with ⟨⟨v1,v2,v3⟩,s3⟩
 rcases h4:rdT l s3 with ⟨x4,s4⟩
 have hg3:goV ⟨v1,v2,v3⟩:=by have k:=rdV_goV l s2;rw [h3] at k;exact k
 have hg4:x4.size≤maxLen:=by have k:=rdT_size l s3;rw [h4] at k;exact k
 rcases hd:mnyF l s4 with ⟨mN,k1,e1⟩
 have hbdN:=mny_bd l s4
 have hpsN:=mnyF_pos l s4
 rw [hd] at hbdN hpsN
 obtain ⟨N,rfl⟩:=Int.eq_ofNat_of_zero_le hpsN
 have hN:(N:Int)≤9223372036854775807:=hbdN.1
 have HBDN:=hI0 hbdN.2
 clear hbdN hpsN
 obtain ⟨res,hres⟩:∃r,r=getS (rdX l d) N (k1,e1):=⟨_,rfl⟩
 have hdd:rdX l (d+1) s=(.mk x1 x2 ⟨v1,v2,v3⟩ x4 none 0 res.1,res.2):=by
  have k:=rdL_many l (rdX l d) s4
  rw [hd] at k
  have k2:rdL l (rdX l d) s4=res:=by rw [k,hres];rfl
  simp only [rdX,h1,h2,h3,h4,k2]
 rw [hdd]
 have K1:=fun V (hV:RdB V (·<V.heap.size) (.slice bA l.length bc) l)=>numC (.slice bA l.length bc) s n g l V hV
 have K2:=fun n g V (hV:RdB V (·<V.heap.size) (.slice bA l.length bc) l)=>numC (.slice bA l.length bc) s1 n g l V hV
 have K3:=fun n g V (hV:RdB V (·<V.heap.size) (.slice bA l.length bc) l)=>valueC (.slice bA l.length bc) s2 n g l V hV
 have K4:=fun n g V (hV:RdB V (·<V.heap.size) (.slice bA l.length bc) l)=>textC (.slice bA l.length bc) s3 n g l V hV
 have K5:=fun n g V (hV:RdB V (·<V.heap.size) (.slice bA l.length bc) l)=>manyC (.slice bA l.length bc) s4 n g l V hV
 rw [h1] at K1
 rw [h2] at K2
 rw [h3] at K3
 rw [h4] at K4
 rw [hd] at K5
 have HRES:=hI0 hres
 have HG:=hI0 (And.intro hg3 hg4)
 have HIH:=hI0 IH
 have HLV:=hI0 hlv
 have hl1:1≤lv:=by omega
 have hl2:lv≤1000:=by omega
 have hl3:¬lv<1:=by omega
 obtain ⟨i0,hi,hz0,hz1,hz2⟩:=info_parts info_Exp
 have HI:=hI0 hi
 have HZ0:=hI0 hz0
 have HZ1:=hI0 hz1
 have HZ2:=hI0 hz2
 clear hi hz0 hz1 hz2
 clear hd hdd h1 h2 h3 h4 hres hg3 hg4 IH hlv hd9
 go_enter Tryz.func223,Tryz.ntmps223
 go_upto_region 4 with (fail)
 rw [←hW]
 clear hW
 go_wp2_with (refine ldR 2 sz_in ag_in (h.get 0) ?_)
 (with_reducible refine (K1 W (KV _ (h.below HB.out))).mono ?_)
 rintro _ U1 ⟨g1,rfl,hb1⟩
 have hc1:=h.call hb1
 go_upto_region 5 with (refine stR 2 18 sz_in (hc1.get 0) rfl ?_;intro V1 hV1 cV1)
 have h1:=hc1.store 0 rfl cV1 hV1
 clear h hc1 hb1 cV1 hV1
 have pp0:V1.cell? ⟨w.heap.size,3,none⟩=some (.int .i64 x1):=cW0 V1 _ 3 _ _ _ (h1.get 0)
 have xx0:V1.cell? ⟨w.heap.size+3,0,none⟩=some (.int .i64 0):=cW0 V1 _ 0 _ _ _ (h1.get 3)
 have ff0:=fW0 V1 _ 0 _ _ (h1.get 3)
 go_upto_region 6 with (fail)
 have h1p:=h1.put 3 0 (.int .i64 x1)
 have h2:=h1p
 clear pp0 xx0 ff0 h1 h1p
 generalize (V1.setCell ⟨w.heap.size+3,0,none⟩ (.int .i64 x1))=V2 at *
 go_wp2_with (refine ldR 2 sz_in ag_in (h2.get 0) ?_)
 (with_reducible refine (K2 x1 g1 V2 (KV _ (h2.below HB.out))).mono ?_)
 rintro _ U3 ⟨g2,rfl,hb3⟩
 have hc3:=h2.call hb3
 go_upto_region 7 with (refine stR 2 23 sz_in (hc3.get 0) rfl ?_;intro V3 hV3 cV3)
 have h3:=hc3.store 0 rfl cV3 hV3
 clear h2 hc3 hb3 cV3 hV3
 have pp0:V3.cell? ⟨w.heap.size,3,none⟩=some (.int .i64 x2):=cW0 V3 _ 3 _ _ _ (h3.get 0)
 have xx0:V3.cell? ⟨w.heap.size+3,1,none⟩=some (.int .i64 0):=cW0 V3 _ 1 _ _ _ (h3.get 3)
 have ff0:=fW0 V3 _ 1 _ _ (h3.get 3)
 go_upto_region 8 with (fail)
 have h3p:=h3.put 3 1 (.int .i64 x2)
 have h4:=h3p
 clear pp0 xx0 ff0 h3 h3p
 generalize (V3.setCell ⟨w.heap.size+3,1,none⟩ (.int .i64 x2))=V4 at *
 go_wp2_with (refine ldR 2 sz_in ag_in (h4.get 0) ?_)
 (with_reducible refine (K3 x2 g2 V4 (KV _ (h4.below HB.out))).mono ?_)
 rintro _ U5 ⟨n3,g3,rfl,hb5⟩
 have hc5:=h4.call hb5
 go_upto_region 9 with (refine stR 2 28 sz_in (hc5.get 0) rfl ?_;intro V5 hV5 cV5)
 have h5:=hc5.store 0 rfl cV5 hV5
 clear h4 hc5 hb5 cV5 hV5
 have pp0:V5.cell? ⟨w.heap.size,5,none⟩=some (.int .i64 v1):=cW0 V5 _ 5 _ _ _ (h5.get 0)
 have pp1:V5.cell? ⟨w.heap.size,6,none⟩=some (.int .i64 v2):=cW0 V5 _ 6 _ _ _ (h5.get 0)
 have pp2:V5.cell? ⟨w.heap.size,7,none⟩=some (.string v3):=cW0 V5 _ 7 _ _ _ (h5.get 0)
 have xx0:V5.cell? ⟨w.heap.size+3,2,none⟩=some (.int .i64 0):=cW0 V5 _ 2 _ _ _ (h5.get 3)
 have ff0:=fW0 V5 _ 2 _ _ (h5.get 3)
 have xx1:V5.cell? ⟨w.heap.size+3,3,none⟩=some (.int .i64 0):=cW0 V5 _ 3 _ _ _ (h5.get 3)
 have ff1:=fW0 V5 _ 3 _ _ (h5.get 3)
 have xx2:V5.cell? ⟨w.heap.size+3,4,none⟩=some (.string ⟨#[]⟩):=cW0 V5 _ 4 _ _ _ (h5.get 3)
 have ff2:=fW0 V5 _ 4 _ _ (h5.get 3)
 go_upto_region 10 with (fail)
 have h5p:=h5.put 3 2 (.int .i64 v1)
 have h5pp:=h5p.put 3 3 (.int .i64 v2)
 have h5ppp:=h5pp.put 3 4 (.string v3)
 have h6:=h5ppp
 clear pp0 pp1 pp2 xx0 ff0 xx1 ff1 xx2 ff2 h5 h5p h5pp h5ppp
 generalize (((V5.setCell ⟨w.heap.size+3,2,none⟩ (.int .i64 v1)).setCell ⟨w.heap.size+3,3,none⟩ (.int .i64 v2)).setCell ⟨w.heap.size+3,4,none⟩ (.string v3))=V6 at *
 go_wp2_with (refine ldR 2 sz_in ag_in (h6.get 0) ?_)
 (with_reducible refine (K4 n3 (g3.wv ⟨v1,v2,v3⟩) V6 (KV _ (h6.below HB.out))).mono ?_)
 rintro _ U7 ⟨n4,g4,rfl,hb7⟩
 have hc7:=h6.call hb7
 go_upto_region 11 with (refine stR 2 33 sz_in (hc7.get 0) rfl ?_;intro V7 hV7 cV7)
 have h7:=hc7.store 0 rfl cV7 hV7
 clear h6 hc7 hb7 cV7 hV7
 have pp0:V7.cell? ⟨w.heap.size,4,none⟩=some (.string x4):=cW0 V7 _ 4 _ _ _ (h7.get 0)
 have xx0:V7.cell? ⟨w.heap.size+3,5,none⟩=some (.string ⟨#[]⟩):=cW0 V7 _ 5 _ _ _ (h7.get 3)
 have ff0:=fW0 V7 _ 5 _ _ (h7.get 3)
 go_upto_region 12 with (fail)
 have h7p:=h7.put 3 5 (.string x4)
 have h8:=h7p
 clear pp0 xx0 ff0 h7 h7p
 generalize (V7.setCell ⟨w.heap.size+3,5,none⟩ (.string x4))=V8 at *
 go_wp2_with (refine ldR 2 sz_in ag_in (h8.get 0) ?_)
 (with_reducible refine (K5 n4 (g4.ws x4) V8 (KV _ (h8.below HB.out))).mono ?_)
 rintro _ U9 ⟨g5,rfl,hb9⟩
 have hc9:=h8.call hb9
 go_upto_region 13 with (refine stR 2 38 sz_in (hc9.get 0) rfl ?_;intro V9 hV9 cV9)
 have h9:=hc9.store 0 rfl cV9 hV9
 clear h8 hc9 hb9 cV9 hV9
 have p3:V9.cell? ⟨w.heap.size,3,none⟩=some (.int .i64 (N:Int)):=cW0 V9 _ 3 _ _ _ (h9.get 0)
 go_wp2_with fail
 clear p3 K1 K2 K3 K4 K5
 have hs:=h9.start (by intro p hp;simp at hp;rcases hp with rfl|rfl|rfl|rfl<;>simp [Sv])
 have HBU:Hid (Below w.heap.size w V9):=hI0 (h9.below HB.out)
 clear h9
 go_loopw [8] (fun i wr=>∃(Q:List RE) (st:Int×Int) (n':Int) (g':InR) (o:Value),i=.int .i64 (Q.length:Int)∧Hid (LI 212 7 RE.enc exAll w.heap.size (Sv w.heap.size 4) V9 [(w.heap.size,(inC (.slice bA l.length bc) st n' g'),152),(w.heap.size+1,inZ,152),(w.heap.size+2,#[.int .i64 0,.int .i64 0,.int .i64 0,.int .i64 0,.string ⟨#[]⟩,.string ⟨#[]⟩,.slice none 0 0],212),(w.heap.size+3,#[.int .i64 x1,.int .i64 x2,.int .i64 v1,.int .i64 v2,.string v3,.string x4,o],212)] wr o Q)∧Hid (LP (rdX l d) RE.er N l.length Q st res)) (fun i _=>N-(intOf i).toNat)
 case atStart=>exact ⟨[],(k1,e1),_,_,_,rfl,hI0 (LI.init hs),hI0 (by rw [HRES.out];exact LP.init HBDN.out)⟩
 obtain ⟨Q,⟨k,er⟩,n',g',o,rfl,HI_,HP⟩:=hrel
 obtain ⟨wi,rfl⟩:∃wi:World,wi=wr:=⟨_,rfl⟩
 obtain ⟨Ao,co,rfl,o1,o2,o3⟩:=Rd.open_ (Rd.of_own HI_.out.own)
 have hs:=HI_.out.start (by intro p hp;simp at hp;rcases hp with rfl|rfl|rfl|rfl<;>simp [Sv])
 have HBW:Hid (Below w.heap.size w wi):=hI0 (HI_.out.fr.below HBU.out)
 have c2:wi.cell? ⟨w.heap.size,2,none⟩=some (.int .i64 er):=cW0 wi _ 2 _ _ _ (hs.get 0)
 clear o2 o3
 by_cases hgo:Q.length<N∧er=0
 case neg=>
  have HF:Hid (res=(Q.map RE.er,(k,er))):=hI0 (HP.out.stop hgo)
  have HLD:Hid (LD 7 RE.enc exAll (Sv w.heap.size 4) w.heap.size wi (.slice Ao Q.length co) Q):=hI0 (HI_.out.ld isK_X HBU.out.size)
  by_cases hlt:Q.length<N
  all_goals first|(have hil2:¬(Q.length:Int)<(N:Int):=by omega)|(have hil2:(Q.length:Int)<(N:Int):=(by omega);have her:¬er=0:=fun g=>hgo ⟨hlt,g⟩)
  all_goals go_upto_region 20 with (fail)
  all_goals clear c2
  all_goals
   have H0:=hI0 hs
   have hq0:=(hs.get 0)
   have hq1:=hs.get 1
   have hq2:=hs.get 2
   have hq3:=hs.get 3
   obtain ⟨Y1,hY1⟩:∃Y,Y=wi.drew.setRow (w.heap.size+1) (inC (.slice bA l.length bc) (k,er) n' g'):=⟨_,rfl⟩
   have cY1:Chg (·=w.heap.size+1) wi Y1:=by rw [hY1];exact (Chg.refl (·=w.heap.size+1) wi).drew.trans (chg_setRow _ _ _) (fun _ _ h=>h)
   have hY11:Y1.heap[w.heap.size+1]? =some (.cells (inC (.slice bA l.length bc) (k,er) n' g') 152 (0,0)):=by rw [hY1];exact setRow_heap _ _ _ _ _ _ hq1
   have k1:=hs.store 1 rfl cY1 hY11
   obtain ⟨Y2,hY2⟩:∃Y,Y=Y1.setRow (w.heap.size+2) #[.int .i64 x1,.int .i64 x2,.int .i64 v1,.int .i64 v2,.string v3,.string x4,.slice Ao Q.length co]:=⟨_,rfl⟩
   have cY2:Chg (·=w.heap.size+2) Y1 Y2:=by rw [hY2];exact chg_setRow _ _ _
   have hY22:Y2.heap[w.heap.size+2]? =some (.cells #[.int .i64 x1,.int .i64 x2,.int .i64 v1,.int .i64 v2,.string v3,.string x4,.slice Ao Q.length co] 212 (0,0)):=by rw [hY2];exact setRow_heap _ _ _ _ _ _ (k1.get 2)
   have k2:=k1.store 2 rfl cY2 hY22
   have HY1:=hI0 hY1
   have HY2:=hI0 hY2
   clear hY1 hY2
   refine wp_region_noPanic ?_
   refine wp_region_held_drew (S:=(fun Y=>Y.heap[w.heap.size]? =some (.cells (inC (.slice bA l.length bc) (k,er) n' g') 152 (0,0))∧Y.heap[w.heap.size+3]? =some (.cells #[.int .i64 x1,.int .i64 x2,.int .i64 v1,.int .i64 v2,.string v3,.string x4,.slice Ao Q.length co] 212 (0,0)))) (by kernel_rfl) ?_ (fun hHeld=>?_)
   ·exact ⟨hq0,hq3⟩
   refine heldTake 0 (some 65) (v:=.agg (inC (.slice bA l.length bc) (k,er) n' g')) rfl rfl (by kernel_rfl) (by kernel_rfl) (by kernel_rfl) (by rfl) hHeld (fun _ _ _ h=>h) (fun w' hSw=>exec_loadRow (cs:=(inC (.slice bA l.length bc) (k,er) n' g')) (T:=w.heap.size) (t:=152) (.tmp 2) rfl rfl sz_in ag_in hSw.1) ?_
   simp only [aP]
   refine heldTake 1 (some 66) (v:=.agg #[.int .i64 x1,.int .i64 x2,.int .i64 v1,.int .i64 v2,.string v3,.string x4,.slice Ao Q.length co]) rfl rfl (by kernel_rfl) (by kernel_rfl) (by kernel_rfl) (by rfl) hHeld (fun _ _ _ h=>h) (fun w' hSw=>exec_loadRow (cs:=#[.int .i64 x1,.int .i64 x2,.int .i64 v1,.int .i64 v2,.string v3,.string x4,.slice Ao Q.length co]) (T:=w.heap.size+3) (t:=212) (.tmp 6) rfl rfl sz_rexp ag_rexp hSw.2) ?_
   simp only [aP]
   refine heldSkipRun 2 none (w':=Y1) rfl rfl (by kernel_rfl) (by rfl) (by rw [HY1.out];exact exec_storeRow (cur:=inZ) (vs:=(inC (.slice bA l.length bc) (k,er) n' g')) (t:=152) (H:=w.heap.size+1) (.tmp 4) (.tmp 65) rfl rfl rfl sz_in rfl rfl hq1) ⟨k1.get 0,k1.get 3⟩ ?_
   simp only [Act.put]
   refine heldSkipRun 3 none (w':=Y2) rfl rfl (by kernel_rfl) (by rfl) (by rw [HY2.out];exact exec_storeRow (cur:=#[.int .i64 0,.int .i64 0,.int .i64 0,.int .i64 0,.string ⟨#[]⟩,.string ⟨#[]⟩,.slice none 0 0]) (vs:=#[.int .i64 x1,.int .i64 x2,.int .i64 v1,.int .i64 v2,.string v3,.string x4,.slice Ao Q.length co]) (t:=212) (H:=w.heap.size+2) (.tmp 5) (.tmp 66) rfl rfl rfl sz_rexp rfl rfl (k1.get 2)) ⟨k2.get 0,k2.get 3⟩ ?_
   simp only [Act.put]
   refine wpAnyH_done (by kernel_rfl) ?_ _
   refine NoPanic.normal ?_
   go_wp2_with fail
   rw [HF.out]
   exact bodyPost_ret (v:=.tuple #[.agg (inC (.slice bA l.length bc) (k,er) n' g'),.agg #[.int .i64 x1,.int .i64 x2,.int .i64 v1,.int .i64 v2,.string v3,.string x4,.slice Ao Q.length co]]) (res_two Tryz.results223 rfl rfl (run_varRow sz_in ag_in (k2.get 1)) (run_varRow sz_rexp ag_rexp (k2.get 2))) rfl ⟨n',g',.mk x1 x2 ⟨v1,v2,v3⟩ x4 Ao co Q,rfl,exAll_mk (LD.fin (HLD.out.carry isK_X k2.chg) isK_X (Nat.le_refl _)).1 HG.out.1 HG.out.2 (LD.fin (HLD.out.carry isK_X k2.chg) isK_X (Nat.le_refl _)).2,by rw [RE.er_mk],k2.below HBW.out⟩
 obtain rfl:er=0:=hgo.2
 have hil2:(Q.length:Int)<(N:Int):=by have:=hgo.1;omega
 rcases hx:rdX l d (k,0) with ⟨x0,st'⟩
 have KN:=fun V (hV:RdB V (·<V.heap.size) (.slice bA l.length bc) l)=>HIH.out (k,0) n' g' V hV rfl
 rw [hx] at KN
 have HX1:=hI0 hx
 clear hx
 go_upto_region 17 with (fail)
 go_wp2_with (refine ldR 2 sz_in ag_in (hs.get 0) ?_)
 (with_reducible refine (KN wi (KV _ (hs.below HBW.out))).mono ?_)
 rintro _ V2 ⟨n2,g2,x,rfl,hX,hxe,hb2⟩
 obtain ⟨z1,z2,⟨z3,z4,z5⟩,z6,zA,zc,zq⟩:=x
 have hc:=hs.call hb2
 have hpre:=hI0 hc
 have hst:=hc.start (by intro p hp;simp at hp;rcases hp with rfl|rfl|rfl|rfl<;>simp [Sv])
 have ha:=hst.alloc2 inZ #[.int .i64 0,.int .i64 0,.int .i64 0,.int .i64 0,.string ⟨#[]⟩,.string ⟨#[]⟩,.slice none 0 0] 152 212
 have HX:=hI0 hX
 have HXE:=hI0 hxe
 clear hX hxe hb2 hc hst
 go_upto_region 18 with (first|(refine stR 9 56 sz_in (ha.get 4) rfl ?_;intro Va hVa cVa)|(refine stR (vs:=#[.int .i64 z1,.int .i64 z2,.int .i64 z3,.int .i64 z4,.string z5,.string z6,.slice zA zq.length zc]) 10 57 sz_rexp ((ha.store 4 rfl cVa hVa).get 5) rfl ?_;intro Vb hVb cVb))
 have hb:=(ha.store 4 rfl cVa hVa).store 5 rfl cVb hVb
 clear ha cVa hVa cVb hVb
 go_upto_region 19 with (first|(refine ldR 9 sz_in ag_in (hb.get 4) ?_)|(refine stR 2 58 sz_in (hb.get 0) rfl ?_;intro Vc hVc cVc))
 have hd:=hb.store 0 rfl cVc hVc
 clear hb cVc hVc hs
 have HK:=hI0 (hpre.out.trans hd)
 have HOA:=hI0 (HI_.out.row (O:=(.cells #[.int .i64 z1,.int .i64 z2,.int .i64 z3,.int .i64 z4,.string z5,.string z6,.slice zA zq.length zc] 212)) HK.out)
 have HNEW:=hI0 (Rd.new' Vc Vc.heap.size rfl [.int .i64 z1,.int .i64 z2,.int .i64 z3,.int .i64 z4,.string z5,.string z6,.slice zA zq.length zc] 212 7 1 rfl (by decide))
 have hz9:V9.heap.size≤Vc.heap.size:=Nat.le_trans HI_.out.fr.chg.size HK.out.chg.size
 have hi5:Q.length≤1048577:=by have:=HP.out.lenb;omega
 have xo:Vc.cell? ⟨w.heap.size+3,6,none⟩=some (.slice Ao Q.length co):=cW0 Vc _ 6 _ _ _ (hd.get 3)
 have HIX:=hI0 (FR.isK (x:=(RE.mk z1 z2 ⟨z3,z4,z5⟩ z6 zA zc zq)) hd isK_X HX.out (Nat.le_refl _) (fun i hi=>(hpre.out.le.1 i hi).2))
 go_wp2_with (first|(refine ldR 10 sz_rexp ag_rexp (hd.get 5) ?_)|(at_builtin;refine wpList_append_app (Vc.alloc (.cells #[.int .i64 z1,.int .i64 z2,.int .i64 z3,.int .i64 z4,.string z5,.string z6,.slice zA zq.length zc] 212)) rfl (.tmp 60) (.tmp 62) 73 rfl V9.heap.size 212 i0 _ 7 88 Tryz.underlying73 HI.out HZ0.out HZ1.out HZ2.out rfl (by omega) (.slice Ao Q.length co) Q.length (Q.flatMap RE.enc) rfl (.inl HOA.out) (·=Vc.heap.size) _ 1 [.int .i64 z1,.int .i64 z2,.int .i64 z3,.int .i64 z4,.string z5,.string z6,.slice zA zq.length zc] rfl HNEW.out (fun u hu=>by simp only [List.mem_cons,List.not_mem_nil,or_false] at hu;rcases hu with rfl|rfl|rfl|rfl|rfl|rfl|rfl<;>rfl) (by unfold maxLen;omega) (by omega) (by simp;omega) ?_;intro v3 w3 _ hO3 hg3 hb3 hv3;have HLI:=HI_.out.step (x:=(RE.mk z1 z2 ⟨z3,z4,z5⟩ z6 zA zc zq)) isK_X HK.out HIX.out (hO3 (.inl (by omega))) hg3 hv3;obtain ⟨A3,c3,h3e,_,_,_⟩:=Rd.open_ (Rd.of_own HLI.own);rw [List.length_append,List.length_singleton] at h3e;subst h3e;have y3:w3.cell? ⟨w.heap.size+3,6,none⟩=some (.slice Ao Q.length co):=cW0 w3 _ 6 _ _ _ (HLI.fr.get 3);have f3:=fW0 w3 _ 6 _ _ (HLI.fr.get 3)))
 have HL2:=hI0 ((HLI.take 4).put (X:=w.heap.size+3) isK_X 3 6 (.slice A3 (Q.length+1) c3) (by simp [Sv]))
 clear hO3 hg3 hb3 hv3 HLI y3 f3 xo
 go_wp2_with fail
 go_roundw
 case rel=>exact ⟨Q++[(RE.mk z1 z2 ⟨z3,z4,z5⟩ z6 zA zc zq)],st',n2,g2,.slice A3 (Q.length+1) c3,by simp,hI0 HL2.out,hI0 (HP.out.step (mon_X d) ⟨hgo.1,rfl⟩ HX1.out HXE.out)⟩
 case measure=>have:=hgo.1;simp [intOf];omega
theorem exprC:∀(d:Nat) (lv:Int) (s:Int×Int) (n:Int) (g:InR) (b:Value) (l:List UInt8) (w:World),RdB w (·<w.heap.size) b l→l.length≤1048576→lv=(d:Int)→d≤1000→(d=0→s.2=0)→
  Calls Tryz.prog 223 #[.agg (inC b s n g),.int .i64 lv] w (RIx b (fun x:RE=>.agg x.enc.toArray) exAll RE.er (rdX l d s) w):=by
 intro d
 induction d with
 |zero=>
  intro lv s n g b l w hv hl hlv _ hs
  subst hlv
  exact exprC0 b s n g l w hv (hs rfl)
 |succ d ih=>
  intro lv s n g b l w hv hl hlv h1 _
  exact exprC1 d h1 b s n lv (by rw [hlv];simp) g l w hv hl (fun s n g V hV hs=>ih (lv-1) s n g b l V hV hl (by rw [hlv];simp) (by omega) (fun _=>hs))
end Go.Proofs.YtbfdegkickjbpaaGreat
