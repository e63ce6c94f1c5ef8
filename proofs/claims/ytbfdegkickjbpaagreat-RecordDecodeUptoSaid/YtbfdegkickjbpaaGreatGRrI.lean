/-
 RrI
-/
import Derived.Test.YtbfdegkickjbpaaGreatGRrF
import Derived.Test.YtbfdegkickjbpaaGreatGDcK
namespace Go.Proofs.YtbfdegkickjbpaaGreat
set_option maxRecDepth 1000000
set_option maxHeartbeats 32000000
open Go.RowKit Go.Lib Go.IntWalk Go.Sort Go.Shelf
theorem sz_rhld (w:World):(Go.sizeOf 109).run Tryz.prog w=.ok 6 w:=by simp [go_sem]
theorem ag_rhld (w:World):(isAgg 109).run Tryz.prog w=.ok true w:=by simp [isAgg,go_sem]
theorem holdsC (b:Value) (s:Int×Int) (n:Int) (g:InR) (l:List UInt8) (w:World) (hv:RdB w (·<w.heap.size) b l) (hl:l.length≤1048576):Calls Tryz.prog 81 #[.agg (inC b s n g)] w (RIl b 6 Hld.enc isT id (rdL l (rdHld l) s) w):=by
 obtain ⟨bA,bc,rfl,y1,y2,y3⟩:=Rd.open_ hv
 obtain ⟨W,hW⟩:∃W,W=(w.alloc (.cells (inC (.slice bA l.length bc) s n g) 152)).alloc (.cells #[.slice none 0 0,.int .i64 0,.int .i64 0,.int .i64 0,.string ⟨#[]⟩,.int .i64 0,.int .i64 0,.string ⟨#[]⟩,.slice none 0 0,.int .i64 0,.int .i64 0,.slice none 0 0] 152):=⟨_,rfl⟩
 have hi:=FR.init w (inC (.slice bA l.length bc) s n g) inZ 152
 have h:FR w.heap.size (Sv w.heap.size 2) W [(w.heap.size,inC (.slice bA l.length bc) s n g,152),(w.heap.size+1,inZ,152)] W:=by rw [hW];exact hi.1
 have hbW:Below w.heap.size w W:=by rw [hW];exact hi.2
 clear hi
 have KV:∀V,Below w.heap.size w V→RdB V (·<V.heap.size) (.slice bA l.length bc) l:=fun V hb=>hv.below hb
 have HB:=hI0 hbW
 clear hv hbW
 rcases hd:mnyF l s with ⟨mN,k1,e1⟩
 have hbdN:=mny_bd l s
 have hpsN:=mnyF_pos l s
 rw [hd] at hbdN hpsN
 obtain ⟨N,rfl⟩:=Int.eq_ofNat_of_zero_le hpsN
 have hN:(N:Int)≤9223372036854775807:=hbdN.1
 have HBDN:=hI0 hbdN.2
 clear hbdN hpsN
 obtain ⟨res,hres⟩:∃r,r=getS (rdHld l) N (k1,e1):=⟨_,rfl⟩
 have qres:rdL l (rdHld l) s=res:=by rw [rdL_many,hd,hres];rfl
 have Hres:=hI0 hres
 clear hres
 rw [qres]
 have KM:=fun V (hV:RdB V (·<V.heap.size) (.slice bA l.length bc) l)=>manyC (.slice bA l.length bc) s n g l V hV
 rw [hd] at KM
 obtain ⟨i0,hi,hz0,hz1,hz2⟩:=info_parts info_Hld
 have HI:=hI0 hi
 have HZ0:=hI0 hz0
 have HZ1:=hI0 hz1
 have HZ2:=hI0 hz2
 clear hi hz0 hz1 hz2
 clear qres hd
 go_enter Tryz.func81,Tryz.ntmps81
 go_upto_region 1 with (fail)
 rw [←hW]
 clear hW
 go_wp2_with (refine ldR 1 sz_in ag_in (h.get 0) ?_)
 (with_reducible refine (KM W (KV _ (h.below HB.out))).mono ?_)
 rintro _ U1 ⟨g2,rfl,hb1⟩
 have hc1:=h.call hb1
 go_upto_region 2 with (refine stR 1 9 sz_in (hc1.get 0) rfl ?_;intro V1 hV1 cV1)
 have h1:=hc1.store 0 rfl cV1 hV1
 clear h hc1 hb1 cV1 hV1
 have p3:V1.cell? ⟨w.heap.size,3,none⟩=some (.int .i64 (N:Int)):=cW0 V1 _ 3 _ _ _ (h1.get 0)
 go_wp2_with fail
 clear p3 KM
 have hs:=h1.start (by intro p hp;simp at hp;rcases hp with rfl|rfl<;>simp [Sv])
 have HBUx:Hid (Below w.heap.size w V1):=hI0 (h1.below HB.out)
 clear h1
 go_loopw [5,6] (fun o i wr=>∃(Q:List Hld) (st:Int×Int) (n':Int) (g':InR),i=.int .i64 (Q.length:Int)∧Hid (LI 109 6 Hld.enc isT w.heap.size (Sv w.heap.size 2) V1 [(w.heap.size,(inC (.slice bA l.length bc) st n' g'),152),(w.heap.size+1,inZ,152)] wr o Q)∧Hid (LP (rdHld l) id N l.length Q st res)) (fun _ i _=>N-(intOf i).toNat)
 case atStart=>exact ⟨[],(k1,e1),_,_,rfl,hI0 (LI.init hs),hI0 (by rw [Hres.out];exact LP.init HBDN.out)⟩
 obtain ⟨Qx,⟨kx,erx⟩,n'x,g'x,rfl,HI_x,HPx⟩:=hrel
 obtain ⟨wix,rfl⟩:∃wi:World,wi=wr:=⟨_,rfl⟩
 obtain ⟨Aox,cox,rfl,o1,o2,o3⟩:=Rd.open_ (Rd.of_own HI_x.out.own)
 have hs:=HI_x.out.start (by intro p hp;simp at hp;rcases hp with rfl|rfl<;>simp [Sv])
 have HBWx:Hid (Below w.heap.size w wix):=hI0 (HI_x.out.fr.below HBUx.out)
 have c2:wix.cell? ⟨w.heap.size,2,none⟩=some (.int .i64 erx):=cW0 wix _ 2 _ _ _ (hs.get 0)
 have o1x:=o1
 clear o1 o2 o3
 by_cases hgo:Qx.length<N∧erx=0
 case neg=>
  have HFx:Hid (res=(Qx.map id,(kx,erx))):=hI0 (HPx.out.stop hgo)
  have HLDx:Hid (LD 6 Hld.enc isT (Sv w.heap.size 2) w.heap.size wix (.slice Aox Qx.length cox) Qx):=hI0 (HI_x.out.ld isK_T HBUx.out.size)
  by_cases hlt:Qx.length<N
  all_goals first|(have hil2:¬(Qx.length:Int)<(N:Int):=by omega)|(have hil2:(Qx.length:Int)<(N:Int):=(by omega);have her:¬erx=0:=fun g=>hgo ⟨hlt,g⟩)
  all_goals go_upto_region 17 with (fail)
  all_goals clear c2 hgo hlt hil2
  all_goals try clear her
  all_goals
   go_wp2_with (first|(refine ldR 1 sz_in ag_in (hs.get 0) ?_)|(refine stR 2 49 sz_in (hs.get 1) rfl ?_;intro E hE cE))
   have hE2:=hs.store 1 rfl cE hE
   rw [HFx.out]
   have hfin:=LD.fin (HLDx.out.carry isK_T hE2.chg) isK_T (Nat.le_refl _)
   exact bodyPost_ret (v:=.tuple #[.agg (inC (.slice bA l.length bc) (kx,erx) n'x g'x),.slice Aox Qx.length cox]) (res_ct Tryz.results81 rfl rfl (run_varRow sz_in ag_in (hE2.get 1))) rfl ⟨n'x,g'x,Aox,cox,Qx,rfl,hfin.1,hfin.2,rfl,hE2.below HBWx.out⟩
 obtain rfl:erx=0:=hgo.2
 have hil2:(Qx.length:Int)<(N:Int):=by have:=hgo.1;omega
 rcases h1:rdT l (kx,0) with ⟨y1,s1⟩
 rcases h2:rdT l s1 with ⟨y2,s2⟩
 rcases h3:rdP l s2 with ⟨⟨y3,y4⟩,s3⟩
 rcases h4:rdP l s3 with ⟨⟨y5,y6⟩,st'⟩
 have HX1:Hid (rdHld l (kx,0)=(⟨y1,y2,y3,y4,y5,y6⟩,st')):=hI0 (by simp only [rdHld,h1,h2,h3,h4])
 have K1:=fun n g V (hV:RdB V (·<V.heap.size) (.slice bA l.length bc) l)=>textC (.slice bA l.length bc) (kx,0) n g l V hV
 have K2:=fun n g V (hV:RdB V (·<V.heap.size) (.slice bA l.length bc) l)=>textC (.slice bA l.length bc) s1 n g l V hV
 have K3:=fun n g V (hV:RdB V (·<V.heap.size) (.slice bA l.length bc) l)=>perC (.slice bA l.length bc) s2 n g l V hV
 have K4:=fun n g V (hV:RdB V (·<V.heap.size) (.slice bA l.length bc) l)=>perC (.slice bA l.length bc) s3 n g l V hV
 rw [h1] at K1
 rw [h2] at K2
 rw [h3] at K3
 rw [h4] at K4
 clear h1 h2 h3 h4
 go_upto_region 7 with (fail)
 clear c2
 obtain ⟨X,hX⟩:∃z,z=wix.heap.size:=⟨_,rfl⟩
 obtain ⟨V2,hV2⟩:∃z,z=wix.alloc (.cells #[.string ⟨#[]⟩,.string ⟨#[]⟩,.int .i64 0,.int .i64 0,.int .i64 0,.int .i64 0] 109):=⟨_,rfl⟩
 have hw2:=hs.alloc #[.string ⟨#[]⟩,.string ⟨#[]⟩,.int .i64 0,.int .i64 0,.int .i64 0,.int .i64 0] 109
 have h2:=hs.more (by intro p hp;simp at hp;rcases hp with rfl|rfl<;>simp [Sv]) #[.string ⟨#[]⟩,.string ⟨#[]⟩,.int .i64 0,.int .i64 0,.int .i64 0,.int .i64 0] 109
 have hxlX:wix.heap.size≤X:=by rw [hX];exact hs.chg.size
 rw [←hV2,←hX] at hw2 h2
 go_upto_region 8 with (fail)
 rw [←hV2,←hX]
 have HWX:=hI0 hw2
 have HXLX:=hI0 hxlX
 have HB2:Hid (Below w.heap.size w V2):=hI0 (hw2.below HBWx.out)
 clear hV2 hX hw2 hxlX hs
 go_wp2_with (refine ldR 1 sz_in ag_in (h2.get 0) ?_)
 (with_reducible refine (K1 n'x g'x V2 (KV _ (h2.below HB2.out))).mono ?_)
 rintro _ U3 ⟨h0n,h0g,rfl,hb3⟩
 have hc3:=h2.call hb3
 go_upto_region 9 with (refine stR 1 24 sz_in (hc3.get 0) rfl ?_;intro V3 hV3 cV3)
 have h3:=hc3.store 0 rfl cV3 hV3
 clear h2 hc3 hb3 cV3 hV3
 have pp0:V3.cell? ⟨w.heap.size,4,none⟩=some (.string y1):=cW0 V3 _ 4 _ _ _ (h3.get 0)
 have xx0:V3.cell? ⟨X,0,none⟩=some (.string ⟨#[]⟩):=cW0 V3 _ 0 _ _ _ (h3.get 2)
 have ff0:=fW0 V3 _ 0 _ _ (h3.get 2)
 go_upto_region 10 with (fail)
 have h3p:=h3.put 2 0 (.string y1)
 have h4:=h3p
 clear pp0 xx0 ff0 h3 h3p
 generalize (V3.setCell ⟨X,0,none⟩ (.string y1))=V4 at *
 go_wp2_with (refine ldR 1 sz_in ag_in (h4.get 0) ?_)
 (with_reducible refine (K2 h0n (h0g.ws y1) V4 (KV _ (h4.below HB2.out))).mono ?_)
 rintro _ U5 ⟨h1n,h1g,rfl,hb5⟩
 have hc5:=h4.call hb5
 go_upto_region 11 with (refine stR 1 29 sz_in (hc5.get 0) rfl ?_;intro V5 hV5 cV5)
 have h5:=hc5.store 0 rfl cV5 hV5
 clear h4 hc5 hb5 cV5 hV5
 have pp0:V5.cell? ⟨w.heap.size,4,none⟩=some (.string y2):=cW0 V5 _ 4 _ _ _ (h5.get 0)
 have xx0:V5.cell? ⟨X,1,none⟩=some (.string ⟨#[]⟩):=cW0 V5 _ 1 _ _ _ (h5.get 2)
 have ff0:=fW0 V5 _ 1 _ _ (h5.get 2)
 go_upto_region 12 with (fail)
 have h5p:=h5.put 2 1 (.string y2)
 have h6:=h5p
 clear pp0 xx0 ff0 h5 h5p
 generalize (V5.setCell ⟨X,1,none⟩ (.string y2))=V6 at *
 go_wp2_with (refine ldR 1 sz_in ag_in (h6.get 0) ?_)
 (with_reducible refine (K3 h1n (h1g.ws y2) V6 (KV _ (h6.below HB2.out))).mono ?_)
 rintro _ U7 ⟨h2n,h2g,rfl,hb7⟩
 have hc7:=h6.call hb7
 go_upto_region 13 with (refine stR 1 34 sz_in (hc7.get 0) rfl ?_;intro V7 hV7 cV7)
 have h7:=hc7.store 0 rfl cV7 hV7
 clear h6 hc7 hb7 cV7 hV7
 have pp0:V7.cell? ⟨w.heap.size,9,none⟩=some (.int .i64 y3):=cW0 V7 _ 9 _ _ _ (h7.get 0)
 have pp1:V7.cell? ⟨w.heap.size,10,none⟩=some (.int .i64 y4):=cW0 V7 _ 10 _ _ _ (h7.get 0)
 have xx0:V7.cell? ⟨X,2,none⟩=some (.int .i64 0):=cW0 V7 _ 2 _ _ _ (h7.get 2)
 have ff0:=fW0 V7 _ 2 _ _ (h7.get 2)
 have xx1:V7.cell? ⟨X,3,none⟩=some (.int .i64 0):=cW0 V7 _ 3 _ _ _ (h7.get 2)
 have ff1:=fW0 V7 _ 3 _ _ (h7.get 2)
 go_upto_region 14 with (fail)
 have h7p:=h7.put 2 2 (.int .i64 y3)
 have h7pp:=h7p.put 2 3 (.int .i64 y4)
 have h8:=h7pp
 clear pp0 pp1 xx0 ff0 xx1 ff1 h7 h7p h7pp
 generalize ((V7.setCell ⟨X,2,none⟩ (.int .i64 y3)).setCell ⟨X,3,none⟩ (.int .i64 y4))=V8 at *
 go_wp2_with (refine ldR 1 sz_in ag_in (h8.get 0) ?_)
 (with_reducible refine (K4 h2n (h2g.wp (y3,y4)) V8 (KV _ (h8.below HB2.out))).mono ?_)
 rintro _ U9 ⟨h3n,h3g,rfl,hb9⟩
 have hc9:=h8.call hb9
 go_upto_region 15 with (refine stR 1 40 sz_in (hc9.get 0) rfl ?_;intro V9 hV9 cV9)
 have h9:=hc9.store 0 rfl cV9 hV9
 clear h8 hc9 hb9 cV9 hV9
 have pp0:V9.cell? ⟨w.heap.size,9,none⟩=some (.int .i64 y5):=cW0 V9 _ 9 _ _ _ (h9.get 0)
 have pp1:V9.cell? ⟨w.heap.size,10,none⟩=some (.int .i64 y6):=cW0 V9 _ 10 _ _ _ (h9.get 0)
 have xx0:V9.cell? ⟨X,4,none⟩=some (.int .i64 0):=cW0 V9 _ 4 _ _ _ (h9.get 2)
 have ff0:=fW0 V9 _ 4 _ _ (h9.get 2)
 have xx1:V9.cell? ⟨X,5,none⟩=some (.int .i64 0):=cW0 V9 _ 5 _ _ _ (h9.get 2)
 have ff1:=fW0 V9 _ 5 _ _ (h9.get 2)
 go_upto_region 16 with (fail)
 have h9p:=h9.put 2 4 (.int .i64 y5)
 have h9pp:=h9p.put 2 5 (.int .i64 y6)
 have h10:=h9pp
 clear pp0 pp1 xx0 ff0 xx1 ff1 h9 h9p h9pp
 generalize ((V9.setCell ⟨X,4,none⟩ (.int .i64 y5)).setCell ⟨X,5,none⟩ (.int .i64 y6))=V10 at *
 have HK:=hI0 (HWX.out.outer h10 (fun i hi hs=>hs.elim id (fun e=>by have:=HXLX.out;omega)))
 have HOA:=hI0 (HI_x.out.row (O:=(.cells #[.string y1,.string y2,.int .i64 y3,.int .i64 y4,.int .i64 y5,.int .i64 y6] 109)) HK.out)
 have HNEW:=hI0 (Rd.new' V10 V10.heap.size rfl [.string y1,.string y2,.int .i64 y3,.int .i64 y4,.int .i64 y5,.int .i64 y6] 109 6 1 rfl (by decide))
 have hz9:V1.heap.size≤V10.heap.size:=Nat.le_trans HI_x.out.fr.chg.size HK.out.chg.size
 have hi5:Qx.length≤1048577:=by have:=HPx.out.lenb;omega
 have HIX:=hI0 trivial
 go_wp2_with (first|(refine ldR 7 sz_rhld ag_rhld (h10.get 2) ?_)|(at_builtin;refine wpList_append_app (V10.alloc (.cells #[.string y1,.string y2,.int .i64 y3,.int .i64 y4,.int .i64 y5,.int .i64 y6] 109)) rfl (.tmp 45) (.tmp 47) 24 rfl V1.heap.size 109 i0 _ 6 64 Tryz.underlying24 HI.out HZ0.out HZ1.out HZ2.out rfl (by omega) (.slice Aox Qx.length cox) Qx.length (Qx.flatMap Hld.enc) rfl (.inl HOA.out) (·=V10.heap.size) _ 1 [.string y1,.string y2,.int .i64 y3,.int .i64 y4,.int .i64 y5,.int .i64 y6] rfl HNEW.out (fun u hu=>by simp only [List.mem_cons,List.not_mem_nil,or_false] at hu;rcases hu with rfl|rfl|rfl|rfl|rfl|rfl<;>rfl) (by unfold maxLen;omega) (by omega) (by simp;omega) ?_;intro v3 w3 _ hO3 hg3 hb3 hv3))
 have HL2:=hI0 ((HI_x.out.step (x:=(⟨y1,y2,y3,y4,y5,y6⟩:Hld)) isK_T HK.out HIX.out (hO3 (.inl (by omega))) hg3 hv3).take 2)
 clear hO3 hg3 hb3 hv3
 go_wp2_with fail
 go_roundw
 case rel=>exact ⟨Qx++[(⟨y1,y2,y3,y4,y5,y6⟩:Hld)],st',h3n,(h3g.wp (y5,y6)),by simp,hI0 HL2.out,hI0 (HPx.out.step mon_Hld ⟨hgo.1,rfl⟩ HX1.out rfl)⟩
 case measure=>have:=hgo.1;simp [intOf];omega
theorem sz_rpol (w:World):(Go.sizeOf 117).run Tryz.prog w=.ok 2 w:=by simp [go_sem]
theorem ag_rpol (w:World):(isAgg 117).run Tryz.prog w=.ok true w:=by simp [isAgg,go_sem]
theorem sz_rhor (w:World):(Go.sizeOf 122).run Tryz.prog w=.ok 2 w:=by simp [go_sem]
theorem ag_rhor (w:World):(isAgg 122).run Tryz.prog w=.ok true w:=by simp [isAgg,go_sem]
theorem rulesC (b:Value) (s:Int×Int) (n:Int) (g:InR) (l:List UInt8) (w:World) (hv:RdB w (·<w.heap.size) b l) (hl:l.length≤1048576):Calls Tryz.prog 82 #[.agg (inC b s n g)] w fun x w'=>∃n g A1 c1 Q1 A2 c2 Q2,x=.returned (.tuple #[.agg (inC b (rdL l (rdHor l) (rdL l (rdPol l) s).2).2 n g),.slice A1 (List.length Q1) c1,.slice A2 (List.length Q2) c2])∧RdE 2 Pol.enc w' (fun b=>w.heap.size≤b∧b<w'.heap.size) (.slice A1 (List.length Q1) c1) Q1∧Q1=(rdL l (rdPol l) s).1∧RdE 2 Hor.enc w' (fun b=>w.heap.size≤b∧b<w'.heap.size) (.slice A2 (List.length Q2) c2) Q2∧Q2=(rdL l (rdHor l) (rdL l (rdPol l) s).2).1∧Below w.heap.size w w':=by
 obtain ⟨bA,bc,rfl,y1,y2,y3⟩:=Rd.open_ hv
 obtain ⟨W,hW⟩:∃W,W=(w.alloc (.cells (inC (.slice bA l.length bc) s n g) 152)).alloc (.cells #[.slice none 0 0,.int .i64 0,.int .i64 0,.int .i64 0,.string ⟨#[]⟩,.int .i64 0,.int .i64 0,.string ⟨#[]⟩,.slice none 0 0,.int .i64 0,.int .i64 0,.slice none 0 0] 152):=⟨_,rfl⟩
 have hi:=FR.init w (inC (.slice bA l.length bc) s n g) inZ 152
 have h:FR w.heap.size (Sv w.heap.size 2) W [(w.heap.size,inC (.slice bA l.length bc) s n g,152),(w.heap.size+1,inZ,152)] W:=by rw [hW];exact hi.1
 have hbW:Below w.heap.size w W:=by rw [hW];exact hi.2
 clear hi
 have KV:∀V,Below w.heap.size w V→RdB V (·<V.heap.size) (.slice bA l.length bc) l:=fun V hb=>hv.below hb
 have HB:=hI0 hbW
 clear hv hbW
 rcases hda:mnyF l s with ⟨mNa,ka1,ea1⟩
 have hbdNa:=mny_bd l s
 have hpsNa:=mnyF_pos l s
 rw [hda] at hbdNa hpsNa
 obtain ⟨Na,rfl⟩:=Int.eq_ofNat_of_zero_le hpsNa
 have hNa:(Na:Int)≤9223372036854775807:=hbdNa.1
 have HBDNa:=hI0 hbdNa.2
 clear hbdNa hpsNa
 obtain ⟨resa,hresa⟩:∃r,r=getS (rdPol l) Na (ka1,ea1):=⟨_,rfl⟩
 have qresa:rdL l (rdPol l) s=resa:=by rw [rdL_many,hda,hresa];rfl
 have Hresa:=hI0 hresa
 clear hresa
 rw [qresa]
 rcases hdb:mnyF l resa.2 with ⟨mNb,kb1,eb1⟩
 have hbdNb:=mny_bd l resa.2
 have hpsNb:=mnyF_pos l resa.2
 rw [hdb] at hbdNb hpsNb
 obtain ⟨Nb,rfl⟩:=Int.eq_ofNat_of_zero_le hpsNb
 have hNb:(Nb:Int)≤9223372036854775807:=hbdNb.1
 have HBDNb:=hI0 hbdNb.2
 clear hbdNb hpsNb
 obtain ⟨resb,hresb⟩:∃r,r=getS (rdHor l) Nb (kb1,eb1):=⟨_,rfl⟩
 have qresb:rdL l (rdHor l) resa.2=resb:=by rw [rdL_many,hdb,hresb];rfl
 have Hresb:=hI0 hresb
 clear hresb
 rw [qresb]
 have KM:=fun V (hV:RdB V (·<V.heap.size) (.slice bA l.length bc) l)=>manyC (.slice bA l.length bc) s n g l V hV
 rw [hda] at KM
 have KN:=hI0 (fun n g V (hV:RdB V (·<V.heap.size) (.slice bA l.length bc) l)=>manyC (.slice bA l.length bc) resa.2 n g l V hV)
 rw [hdb] at KN
 obtain ⟨i0a,hi,hz0,hz1,hz2⟩:=info_parts info_Pol
 have HIa:=hI0 hi
 have HZ0a:=hI0 hz0
 have HZ1a:=hI0 hz1
 have HZ2a:=hI0 hz2
 clear hi hz0 hz1 hz2
 obtain ⟨i0b,hi,hz0,hz1,hz2⟩:=info_parts info_Hor
 have HIb:=hI0 hi
 have HZ0b:=hI0 hz0
 have HZ1b:=hI0 hz1
 have HZ2b:=hI0 hz2
 clear hi hz0 hz1 hz2
 clear qresa hda qresb hdb
 go_enter Tryz.func82,Tryz.ntmps82
 go_upto_region 1 with (fail)
 rw [←hW]
 clear hW
 go_wp2_with (refine ldR 1 sz_in ag_in (h.get 0) ?_)
 (with_reducible refine (KM W (KV _ (h.below HB.out))).mono ?_)
 rintro _ U1 ⟨g2,rfl,hb1⟩
 have hc1:=h.call hb1
 go_upto_region 2 with (refine stR 1 13 sz_in (hc1.get 0) rfl ?_;intro V1 hV1 cV1)
 have h1:=hc1.store 0 rfl cV1 hV1
 clear h hc1 hb1 cV1 hV1
 have p3:V1.cell? ⟨w.heap.size,3,none⟩=some (.int .i64 (Na:Int)):=cW0 V1 _ 3 _ _ _ (h1.get 0)
 go_wp2_with fail
 clear p3 KM
 have hs:=h1.start (by intro p hp;simp at hp;rcases hp with rfl|rfl<;>simp [Sv])
 have HBUa:Hid (Below w.heap.size w V1):=hI0 (h1.below HB.out)
 clear h1
 go_loopw [6,7] (fun o i wr=>∃(Q:List Pol) (st:Int×Int) (n':Int) (g':InR),i=.int .i64 (Q.length:Int)∧Hid (LI 117 2 Pol.enc isT w.heap.size (Sv w.heap.size 2) V1 [(w.heap.size,(inC (.slice bA l.length bc) st n' g'),152),(w.heap.size+1,inZ,152)] wr o Q)∧Hid (LP (rdPol l) id Na l.length Q st resa)) (fun _ i _=>Na-(intOf i).toNat)
 case atStart=>exact ⟨[],(ka1,ea1),_,_,rfl,hI0 (LI.init hs),hI0 (by rw [Hresa.out];exact LP.init HBDNa.out)⟩
 obtain ⟨Qa,⟨ka,era⟩,n'a,g'a,rfl,HI_a,HPa⟩:=hrel
 obtain ⟨wia,rfl⟩:∃wi:World,wi=wr:=⟨_,rfl⟩
 obtain ⟨Aoa,coa,rfl,o1,o2,o3⟩:=Rd.open_ (Rd.of_own HI_a.out.own)
 have hs:=HI_a.out.start (by intro p hp;simp at hp;rcases hp with rfl|rfl<;>simp [Sv])
 have HBWa:Hid (Below w.heap.size w wia):=hI0 (HI_a.out.fr.below HBUa.out)
 have c2:wia.cell? ⟨w.heap.size,2,none⟩=some (.int .i64 era):=cW0 wia _ 2 _ _ _ (hs.get 0)
 have o1a:=o1
 clear o1 o2 o3
 by_cases hgo:Qa.length<Na∧era=0
 case neg=>
  have HFa:Hid (resa=(Qa.map id,(ka,era))):=hI0 (HPa.out.stop hgo)
  have HLDa:Hid (LD 2 Pol.enc isT (Sv w.heap.size 2) w.heap.size wia (.slice Aoa Qa.length coa) Qa):=hI0 (HI_a.out.ld isK_T HBUa.out.size)
  by_cases hlt:Qa.length<Na
  all_goals first|(have hil2:¬(Qa.length:Int)<(Na:Int):=by omega)|(have hil2:(Qa.length:Int)<(Na:Int):=(by omega);have her:¬era=0:=fun g=>hgo ⟨hlt,g⟩)
  all_goals go_upto_region 13 with (fail)
  all_goals clear c2 hgo hlt hil2
  all_goals try clear her
  all_goals
   have KN:=KN.out
   rw [HFa.out] at KN
   go_wp2_with (refine ldR 1 sz_in ag_in (hs.get 0) ?_)
   (with_reducible refine (KN n'a g'a wia (KV _ (hs.below HBWa.out))).mono ?_)
   rintro _ U2 ⟨g4,rfl,hb2⟩
   have hc2:=hs.call hb2
   go_upto_region 14 with (refine stR 1 42 sz_in (hc2.get 0) rfl ?_;intro V2 hV2 cV2)
   have h2:=hc2.store 0 rfl cV2 hV2
   clear hs hc2 hb2 cV2 hV2
   have p3:V2.cell? ⟨w.heap.size,3,none⟩=some (.int .i64 (Nb:Int)):=cW0 V2 _ 3 _ _ _ (h2.get 0)
   go_wp2_with fail
   clear p3 KN
   have hs:=h2.start (by intro p hp;simp at hp;rcases hp with rfl|rfl<;>simp [Sv])
   have HBUb:Hid (Below w.heap.size w V2):=hI0 (h2.below HBWa.out)
   have HLDau:=hI0 (HLDa.out.carry isK_T h2.chg)
   clear h2
   go_loopw [9,10] (fun o i wr=>∃(Q:List Hor) (st:Int×Int) (n':Int) (g':InR),i=.int .i64 (Q.length:Int)∧Hid (LI 122 2 Hor.enc isT w.heap.size (Sv w.heap.size 2) V2 [(w.heap.size,(inC (.slice bA l.length bc) st n' g'),152),(w.heap.size+1,inZ,152)] wr o Q)∧Hid (LP (rdHor l) id Nb l.length Q st resb)) (fun _ i _=>Nb-(intOf i).toNat)
   case atStart=>exact ⟨[],(kb1,eb1),_,_,rfl,hI0 (LI.init hs),hI0 (by rw [Hresb.out];exact LP.init HBDNb.out)⟩
   obtain ⟨Qb,⟨kb,erb⟩,n'b,g'b,rfl,HI_b,HPb⟩:=hrel
   obtain ⟨wib,rfl⟩:∃wi:World,wi=wr:=⟨_,rfl⟩
   obtain ⟨Aob,cob,rfl,o1,o2,o3⟩:=Rd.open_ (Rd.of_own HI_b.out.own)
   have hs:=HI_b.out.start (by intro p hp;simp at hp;rcases hp with rfl|rfl<;>simp [Sv])
   have HBWb:Hid (Below w.heap.size w wib):=hI0 (HI_b.out.fr.below HBUb.out)
   have c2:wib.cell? ⟨w.heap.size,2,none⟩=some (.int .i64 erb):=cW0 wib _ 2 _ _ _ (hs.get 0)
   have o1b:=o1
   clear o1 o2 o3
   by_cases hgo:Qb.length<Nb∧erb=0
   case neg=>
    have HFb:Hid (resb=(Qb.map id,(kb,erb))):=hI0 (HPb.out.stop hgo)
    have HLDb:Hid (LD 2 Hor.enc isT (Sv w.heap.size 2) w.heap.size wib (.slice Aob Qb.length cob) Qb):=hI0 (HI_b.out.ld isK_T HBUb.out.size)
    have HLDauw:=hI0 (HLDau.out.carry isK_T HI_b.out.fr.chg)
    by_cases hlt:Qb.length<Nb
    all_goals first|(have hil2:¬(Qb.length:Int)<(Nb:Int):=by omega)|(have hil2:(Qb.length:Int)<(Nb:Int):=(by omega);have her:¬erb=0:=fun g=>hgo ⟨hlt,g⟩)
    all_goals go_upto_region 25 with (fail)
    all_goals clear c2 hgo hlt hil2
    all_goals try clear her
    all_goals
     go_wp2_with (first|(refine ldR 1 sz_in ag_in (hs.get 0) ?_)|(refine stR 2 70 sz_in (hs.get 1) rfl ?_;intro E hE cE))
     have hE2:=hs.store 1 rfl cE hE
     rw [HFb.out]
     have hfa:=LD.fin (HLDauw.out.carry isK_T hE2.chg) isK_T (Nat.le_refl _)
     have hfb:=LD.fin (HLDb.out.carry isK_T hE2.chg) isK_T (Nat.le_refl _)
     exact bodyPost_ret (v:=.tuple #[.agg (inC (.slice bA l.length bc) (kb,erb) n'b g'b),.slice Aoa Qa.length coa,.slice Aob Qb.length cob]) (res_ctt Tryz.results82 rfl rfl rfl (run_varRow sz_in ag_in (hE2.get 1))) rfl ⟨n'b,g'b,Aoa,coa,Qa,Aob,cob,Qb,rfl,hfa.1,by rw [HFa.out];simp,hfb.1,by simp,hE2.below HBWb.out⟩
   obtain rfl:erb=0:=hgo.2
   have hil2:(Qb.length:Int)<(Nb:Int):=by have:=hgo.1;omega
   rcases h1:rdT l (kb,0) with ⟨y1,s1⟩
   rcases h2:rdI l s1 with ⟨y2,st'⟩
   have HX1:Hid (rdHor l (kb,0)=(⟨y1,y2⟩,st')):=hI0 (by simp only [rdHor,h1,h2])
   have K1:=fun n g V (hV:RdB V (·<V.heap.size) (.slice bA l.length bc) l)=>textC (.slice bA l.length bc) (kb,0) n g l V hV
   have K2:=fun n g V (hV:RdB V (·<V.heap.size) (.slice bA l.length bc) l)=>numC (.slice bA l.length bc) s1 n g l V hV
   rw [h1] at K1
   rw [h2] at K2
   clear h1 h2
   go_upto_region 19 with (fail)
   clear c2
   obtain ⟨X,hX⟩:∃z,z=wib.heap.size:=⟨_,rfl⟩
   obtain ⟨V3,hV3⟩:∃z,z=wib.alloc (.cells #[.string ⟨#[]⟩,.int .i64 0] 122):=⟨_,rfl⟩
   have hw3:=hs.alloc #[.string ⟨#[]⟩,.int .i64 0] 122
   have h3:=hs.more (by intro p hp;simp at hp;rcases hp with rfl|rfl<;>simp [Sv]) #[.string ⟨#[]⟩,.int .i64 0] 122
   have hxlX:wib.heap.size≤X:=by rw [hX];exact hs.chg.size
   rw [←hV3,←hX] at hw3 h3
   go_upto_region 20 with (fail)
   rw [←hV3,←hX]
   have HWX:=hI0 hw3
   have HXLX:=hI0 hxlX
   have HB3:Hid (Below w.heap.size w V3):=hI0 (hw3.below HBWb.out)
   clear hV3 hX hw3 hxlX hs
   go_wp2_with (refine ldR 1 sz_in ag_in (h3.get 0) ?_)
   (with_reducible refine (K1 n'b g'b V3 (KV _ (h3.below HB3.out))).mono ?_)
   rintro _ U4 ⟨h0n,h0g,rfl,hb4⟩
   have hc4:=h3.call hb4
   go_upto_region 21 with (refine stR 1 57 sz_in (hc4.get 0) rfl ?_;intro V4 hV4 cV4)
   have h4:=hc4.store 0 rfl cV4 hV4
   clear h3 hc4 hb4 cV4 hV4
   have pp0:V4.cell? ⟨w.heap.size,4,none⟩=some (.string y1):=cW0 V4 _ 4 _ _ _ (h4.get 0)
   have xx0:V4.cell? ⟨X,0,none⟩=some (.string ⟨#[]⟩):=cW0 V4 _ 0 _ _ _ (h4.get 2)
   have ff0:=fW0 V4 _ 0 _ _ (h4.get 2)
   go_upto_region 22 with (fail)
   have h4p:=h4.put 2 0 (.string y1)
   have h5:=h4p
   clear pp0 xx0 ff0 h4 h4p
   generalize (V4.setCell ⟨X,0,none⟩ (.string y1))=V5 at *
   go_wp2_with (refine ldR 1 sz_in ag_in (h5.get 0) ?_)
   (with_reducible refine (K2 h0n (h0g.ws y1) V5 (KV _ (h5.below HB3.out))).mono ?_)
   rintro _ U6 ⟨h1g,rfl,hb6⟩
   have hc6:=h5.call hb6
   go_upto_region 23 with (refine stR 1 62 sz_in (hc6.get 0) rfl ?_;intro V6 hV6 cV6)
   have h6:=hc6.store 0 rfl cV6 hV6
   clear h5 hc6 hb6 cV6 hV6
   have pp0:V6.cell? ⟨w.heap.size,3,none⟩=some (.int .i64 y2):=cW0 V6 _ 3 _ _ _ (h6.get 0)
   have xx0:V6.cell? ⟨X,1,none⟩=some (.int .i64 0):=cW0 V6 _ 1 _ _ _ (h6.get 2)
   have ff0:=fW0 V6 _ 1 _ _ (h6.get 2)
   go_upto_region 24 with (fail)
   have h6p:=h6.put 2 1 (.int .i64 y2)
   have h7:=h6p
   clear pp0 xx0 ff0 h6 h6p
   generalize (V6.setCell ⟨X,1,none⟩ (.int .i64 y2))=V7 at *
   have HK:=hI0 (HWX.out.outer h7 (fun i hi hs=>hs.elim id (fun e=>by have:=HXLX.out;omega)))
   have HOA:=hI0 (HI_b.out.row (O:=(.cells #[.string y1,.int .i64 y2] 122)) HK.out)
   have HNEW:=hI0 (Rd.new' V7 V7.heap.size rfl [.string y1,.int .i64 y2] 122 2 1 rfl (by decide))
   have hz9:V2.heap.size≤V7.heap.size:=Nat.le_trans HI_b.out.fr.chg.size HK.out.chg.size
   have hi5:Qb.length≤1048577:=by have:=HPb.out.lenb;omega
   have HIX:=hI0 trivial
   go_wp2_with (first|(refine ldR 11 sz_rhor ag_rhor (h7.get 2) ?_)|(at_builtin;refine wpList_append_app (V7.alloc (.cells #[.string y1,.int .i64 y2] 122)) rfl (.tmp 66) (.tmp 68) 27 rfl V2.heap.size 122 i0b _ 2 24 Tryz.underlying27 HIb.out HZ0b.out HZ1b.out HZ2b.out rfl (by omega) (.slice Aob Qb.length cob) Qb.length (Qb.flatMap Hor.enc) rfl (.inl HOA.out) (·=V7.heap.size) _ 1 [.string y1,.int .i64 y2] rfl HNEW.out (fun u hu=>by simp only [List.mem_cons,List.not_mem_nil,or_false] at hu;rcases hu with rfl|rfl<;>rfl) (by unfold maxLen;omega) (by omega) (by simp;omega) ?_;intro v3 w3 _ hO3 hg3 hb3 hv3))
   have HL2:=hI0 ((HI_b.out.step (x:=(⟨y1,y2⟩:Hor)) isK_T HK.out HIX.out (hO3 (.inl (by omega))) hg3 hv3).take 2)
   clear hO3 hg3 hb3 hv3
   go_wp2_with fail
   go_roundw
   case rel=>exact ⟨Qb++[(⟨y1,y2⟩:Hor)],st',y2,h1g,by simp,hI0 HL2.out,hI0 (HPb.out.step mon_Hor ⟨hgo.1,rfl⟩ HX1.out rfl)⟩
   case measure=>have:=hgo.1;simp [intOf];omega
 obtain rfl:era=0:=hgo.2
 have hil2:(Qa.length:Int)<(Na:Int):=by have:=hgo.1;omega
 rcases h1:rdT l (ka,0) with ⟨y1,s1⟩
 rcases h2:rdI l s1 with ⟨y2,st'⟩
 have HX1:Hid (rdPol l (ka,0)=(⟨y1,y2⟩,st')):=hI0 (by simp only [rdPol,h1,h2])
 have K1:=fun n g V (hV:RdB V (·<V.heap.size) (.slice bA l.length bc) l)=>textC (.slice bA l.length bc) (ka,0) n g l V hV
 have K2:=fun n g V (hV:RdB V (·<V.heap.size) (.slice bA l.length bc) l)=>numC (.slice bA l.length bc) s1 n g l V hV
 rw [h1] at K1
 rw [h2] at K2
 clear h1 h2
 go_upto_region 7 with (fail)
 clear c2
 obtain ⟨X,hX⟩:∃z,z=wia.heap.size:=⟨_,rfl⟩
 obtain ⟨V2,hV2⟩:∃z,z=wia.alloc (.cells #[.string ⟨#[]⟩,.int .i64 0] 117):=⟨_,rfl⟩
 have hw2:=hs.alloc #[.string ⟨#[]⟩,.int .i64 0] 117
 have h2:=hs.more (by intro p hp;simp at hp;rcases hp with rfl|rfl<;>simp [Sv]) #[.string ⟨#[]⟩,.int .i64 0] 117
 have hxlX:wia.heap.size≤X:=by rw [hX];exact hs.chg.size
 rw [←hV2,←hX] at hw2 h2
 go_upto_region 8 with (fail)
 rw [←hV2,←hX]
 have HWX:=hI0 hw2
 have HXLX:=hI0 hxlX
 have HB2:Hid (Below w.heap.size w V2):=hI0 (hw2.below HBWa.out)
 clear hV2 hX hw2 hxlX hs
 go_wp2_with (refine ldR 1 sz_in ag_in (h2.get 0) ?_)
 (with_reducible refine (K1 n'a g'a V2 (KV _ (h2.below HB2.out))).mono ?_)
 rintro _ U3 ⟨h0n,h0g,rfl,hb3⟩
 have hc3:=h2.call hb3
 go_upto_region 9 with (refine stR 1 28 sz_in (hc3.get 0) rfl ?_;intro V3 hV3 cV3)
 have h3:=hc3.store 0 rfl cV3 hV3
 clear h2 hc3 hb3 cV3 hV3
 have pp0:V3.cell? ⟨w.heap.size,4,none⟩=some (.string y1):=cW0 V3 _ 4 _ _ _ (h3.get 0)
 have xx0:V3.cell? ⟨X,0,none⟩=some (.string ⟨#[]⟩):=cW0 V3 _ 0 _ _ _ (h3.get 2)
 have ff0:=fW0 V3 _ 0 _ _ (h3.get 2)
 go_upto_region 10 with (fail)
 have h3p:=h3.put 2 0 (.string y1)
 have h4:=h3p
 clear pp0 xx0 ff0 h3 h3p
 generalize (V3.setCell ⟨X,0,none⟩ (.string y1))=V4 at *
 go_wp2_with (refine ldR 1 sz_in ag_in (h4.get 0) ?_)
 (with_reducible refine (K2 h0n (h0g.ws y1) V4 (KV _ (h4.below HB2.out))).mono ?_)
 rintro _ U5 ⟨h1g,rfl,hb5⟩
 have hc5:=h4.call hb5
 go_upto_region 11 with (refine stR 1 33 sz_in (hc5.get 0) rfl ?_;intro V5 hV5 cV5)
 have h5:=hc5.store 0 rfl cV5 hV5
 clear h4 hc5 hb5 cV5 hV5
 have pp0:V5.cell? ⟨w.heap.size,3,none⟩=some (.int .i64 y2):=cW0 V5 _ 3 _ _ _ (h5.get 0)
 have xx0:V5.cell? ⟨X,1,none⟩=some (.int .i64 0):=cW0 V5 _ 1 _ _ _ (h5.get 2)
 have ff0:=fW0 V5 _ 1 _ _ (h5.get 2)
 go_upto_region 12 with (fail)
 have h5p:=h5.put 2 1 (.int .i64 y2)
 have h6:=h5p
 clear pp0 xx0 ff0 h5 h5p
 generalize (V5.setCell ⟨X,1,none⟩ (.int .i64 y2))=V6 at *
 have HK:=hI0 (HWX.out.outer h6 (fun i hi hs=>hs.elim id (fun e=>by have:=HXLX.out;omega)))
 have HOA:=hI0 (HI_a.out.row (O:=(.cells #[.string y1,.int .i64 y2] 117)) HK.out)
 have HNEW:=hI0 (Rd.new' V6 V6.heap.size rfl [.string y1,.int .i64 y2] 117 2 1 rfl (by decide))
 have hz9:V1.heap.size≤V6.heap.size:=Nat.le_trans HI_a.out.fr.chg.size HK.out.chg.size
 have hi5:Qa.length≤1048577:=by have:=HPa.out.lenb;omega
 have HIX:=hI0 trivial
 go_wp2_with (first|(refine ldR 8 sz_rpol ag_rpol (h6.get 2) ?_)|(at_builtin;refine wpList_append_app (V6.alloc (.cells #[.string y1,.int .i64 y2] 117)) rfl (.tmp 37) (.tmp 39) 26 rfl V1.heap.size 117 i0a _ 2 24 Tryz.underlying26 HIa.out HZ0a.out HZ1a.out HZ2a.out rfl (by omega) (.slice Aoa Qa.length coa) Qa.length (Qa.flatMap Pol.enc) rfl (.inl HOA.out) (·=V6.heap.size) _ 1 [.string y1,.int .i64 y2] rfl HNEW.out (fun u hu=>by simp only [List.mem_cons,List.not_mem_nil,or_false] at hu;rcases hu with rfl|rfl<;>rfl) (by unfold maxLen;omega) (by omega) (by simp;omega) ?_;intro v3 w3 _ hO3 hg3 hb3 hv3))
 have HL2:=hI0 ((HI_a.out.step (x:=(⟨y1,y2⟩:Pol)) isK_T HK.out HIX.out (hO3 (.inl (by omega))) hg3 hv3).take 2)
 clear hO3 hg3 hb3 hv3
 go_wp2_with fail
 go_roundw
 case rel=>exact ⟨Qa++[(⟨y1,y2⟩:Pol)],st',y2,h1g,by simp,hI0 HL2.out,hI0 (HPa.out.step mon_Pol ⟨hgo.1,rfl⟩ HX1.out rfl)⟩
 case measure=>have:=hgo.1;simp [intOf];omega
end Go.Proofs.YtbfdegkickjbpaaGreat
