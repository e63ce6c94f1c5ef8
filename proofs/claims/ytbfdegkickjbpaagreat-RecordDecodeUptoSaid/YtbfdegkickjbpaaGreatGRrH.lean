/-
 RrH
-/
import Derived.Test.YtbfdegkickjbpaaGreatGRrG
import Derived.Test.YtbfdegkickjbpaaGreatGDcK
namespace Go.Proofs.YtbfdegkickjbpaaGreat
set_option maxRecDepth 1000000
set_option maxHeartbeats 32000000
open Go.RowKit Go.Lib Go.IntWalk Go.Sort Go.Shelf
theorem entriesC (b:Value) (s:Int×Int) (n:Int) (g:InR) (l:List UInt8) (w:World) (hv:RdB w (·<w.heap.size) b l) (hl:l.length≤1048576):Calls Tryz.prog 75 #[.agg (inC b s n g)] w (RIl b 16 REn.enc enIs REn.er (rdL l (rdEnt l) s) w):=by
 obtain ⟨bA,bc,rfl,y1,y2,y3⟩:=Rd.open_ hv
 obtain ⟨W,hW⟩:∃W,W=(w.alloc (.cells (inC (.slice bA l.length bc) s n g) 152)).alloc (.cells #[.slice none 0 0,.int .i64 0,.int .i64 0,.int .i64 0,.string ⟨#[]⟩,.int .i64 0,.int .i64 0,.string ⟨#[]⟩,.slice none 0 0,.int .i64 0,.int .i64 0,.slice none 0 0] 152):=⟨_,rfl⟩
 have hi:=FR.init w (inC (.slice bA l.length bc) s n g) inZ 152
 have h:FR w.heap.size (Sv w.heap.size 2) W [(w.heap.size,inC (.slice bA l.length bc) s n g,152),(w.heap.size+1,inZ,152)] W:=by rw [hW];exact hi.1
 have hbW:Below w.heap.size w W:=by rw [hW];exact hi.2
 clear hi
 have KV:∀V,Below w.heap.size w V→RdB V (·<V.heap.size) (.slice bA l.length bc) l:=fun V hb=>hv.below hb
 have HB:=hI0 hbW
 clear hv hbW
 rcases hd:mnyF l s with ⟨mN,k1,e1⟩
 have hbdN:=mny_bd l s
 have hpsN:=mnyF_pos l s
 rw [hd] at hbdN hpsN
 obtain ⟨N,rfl⟩:=Int.eq_ofNat_of_zero_le hpsN
 have hN:(N:Int)≤9223372036854775807:=hbdN.1
 have HBDN:=hI0 hbdN.2
 clear hbdN hpsN
 obtain ⟨res,hres⟩:∃r,r=getS (rdEnt l) N (k1,e1):=⟨_,rfl⟩
 have qres:rdL l (rdEnt l) s=res:=by rw [rdL_many,hd,hres];rfl
 have Hres:=hI0 hres
 clear hres
 rw [qres]
 have KM:=fun V (hV:RdB V (·<V.heap.size) (.slice bA l.length bc) l)=>manyC (.slice bA l.length bc) s n g l V hV
 rw [hd] at KM
 obtain ⟨i0,hi,hz0,hz1,hz2⟩:=info_parts info_Ent
 have HI:=hI0 hi
 have HZ0:=hI0 hz0
 have HZ1:=hI0 hz1
 have HZ2:=hI0 hz2
 clear hi hz0 hz1 hz2
 clear qres hd
 go_enter Tryz.func75,Tryz.ntmps75
 go_upto_region 1 with (fail)
 rw [←hW]
 clear hW
 go_wp2_with (refine ldR 1 sz_in ag_in (h.get 0) ?_)
 (with_reducible refine (KM W (KV _ (h.below HB.out))).mono ?_)
 rintro _ U1 ⟨g2,rfl,hb1⟩
 have hc1:=h.call hb1
 go_upto_region 2 with (refine stR 1 13 sz_in (hc1.get 0) rfl ?_;intro V1 hV1 cV1)
 have h1:=hc1.store 0 rfl cV1 hV1
 clear h hc1 hb1 cV1 hV1
 have p3:V1.cell? ⟨w.heap.size,3,none⟩=some (.int .i64 (N:Int)):=cW0 V1 _ 3 _ _ _ (h1.get 0)
 go_wp2_with fail
 clear p3 KM
 have hs:=h1.start (by intro p hp;simp at hp;rcases hp with rfl|rfl<;>simp [Sv])
 have HBUx:Hid (Below w.heap.size w V1):=hI0 (h1.below HB.out)
 clear h1
 go_loopw [5,6] (fun o i wr=>∃(Q:List REn) (st:Int×Int) (n':Int) (g':InR),i=.int .i64 (Q.length:Int)∧Hid (LI 83 16 REn.enc enIs w.heap.size (Sv w.heap.size 2) V1 [(w.heap.size,(inC (.slice bA l.length bc) st n' g'),152),(w.heap.size+1,inZ,152)] wr o Q)∧Hid (LP (rdEnt l) REn.er N l.length Q st res)) (fun _ i _=>N-(intOf i).toNat)
 case atStart=>exact ⟨[],(k1,e1),_,_,rfl,hI0 (LI.init hs),hI0 (by rw [Hres.out];exact LP.init HBDN.out)⟩
 obtain ⟨Qx,⟨kx,erx⟩,n'x,g'x,rfl,HI_x,HPx⟩:=hrel
 obtain ⟨wix,rfl⟩:∃wi:World,wi=wr:=⟨_,rfl⟩
 obtain ⟨Aox,cox,rfl,o1,o2,o3⟩:=Rd.open_ (Rd.of_own HI_x.out.own)
 have hs:=HI_x.out.start (by intro p hp;simp at hp;rcases hp with rfl|rfl<;>simp [Sv])
 have HBWx:Hid (Below w.heap.size w wix):=hI0 (HI_x.out.fr.below HBUx.out)
 have c2:wix.cell? ⟨w.heap.size,2,none⟩=some (.int .i64 erx):=cW0 wix _ 2 _ _ _ (hs.get 0)
 have o1x:=o1
 clear o1 o2 o3
 by_cases hgo:Qx.length<N∧erx=0
 case neg=>
  have HFx:Hid (res=(Qx.map REn.er,(kx,erx))):=hI0 (HPx.out.stop hgo)
  have HLDx:Hid (LD 16 REn.enc enIs (Sv w.heap.size 2) w.heap.size wix (.slice Aox Qx.length cox) Qx):=hI0 (HI_x.out.ld isK_En HBUx.out.size)
  by_cases hlt:Qx.length<N
  all_goals first|(have hil2:¬(Qx.length:Int)<(N:Int):=by omega)|(have hil2:(Qx.length:Int)<(N:Int):=(by omega);have her:¬erx=0:=fun g=>hgo ⟨hlt,g⟩)
  all_goals go_upto_region 28 with (fail)
  all_goals clear c2 hgo hlt hil2
  all_goals try clear her
  all_goals
   go_wp2_with (first|(refine ldR 1 sz_in ag_in (hs.get 0) ?_)|(refine stR 2 86 sz_in (hs.get 1) rfl ?_;intro E hE cE))
   have hE2:=hs.store 1 rfl cE hE
   rw [HFx.out]
   have hfin:=LD.fin (HLDx.out.carry isK_En hE2.chg) isK_En (Nat.le_refl _)
   exact bodyPost_ret (v:=.tuple #[.agg (inC (.slice bA l.length bc) (kx,erx) n'x g'x),.slice Aox Qx.length cox]) (res_ct Tryz.results75 rfl rfl (run_varRow sz_in ag_in (hE2.get 1))) rfl ⟨n'x,g'x,Aox,cox,Qx,rfl,hfin.1,hfin.2,rfl,hE2.below HBWx.out⟩
 obtain rfl:erx=0:=hgo.2
 have hil2:(Qx.length:Int)<(N:Int):=by have:=hgo.1;omega
 rcases h1:rdI l (kx,0) with ⟨n1,s1⟩
 rcases h2:rdT l s1 with ⟨n2,s2⟩
 rcases h3:rdI l s2 with ⟨n3,s3⟩
 have HX0:Hid (n3=0→rdEnt l (kx,0)=(⟨n1,n2,(rdTab l s3).1,⟨0,⟨#[]⟩,⟨#[]⟩,⟨#[]⟩,0,false,zeroV⟩⟩,(rdTab l s3).2)):=hI0 (fun h0=>by unfold rdEnt;simp only [h1,h2,h3,h0,if_true])
 have HX2:Hid (n3≠0→rdEnt l (kx,0)=(⟨n1,n2,RTab.none_,(rdChn l n3 s3).1⟩,(rdChn l n3 s3).2)):=hI0 (fun h0=>by unfold rdEnt;simp only [h1,h2,h3,if_neg h0])
 have K1:=fun V (hV:RdB V (·<V.heap.size) (.slice bA l.length bc) l)=>numC (.slice bA l.length bc) (kx,0) n'x g'x l V hV
 have K2:=fun n g V (hV:RdB V (·<V.heap.size) (.slice bA l.length bc) l)=>textC (.slice bA l.length bc) s1 n g l V hV
 have K3:=fun n g V (hV:RdB V (·<V.heap.size) (.slice bA l.length bc) l)=>numC (.slice bA l.length bc) s2 n g l V hV
 rw [h1] at K1
 rw [h2] at K2
 rw [h3] at K3
 clear h1 h2 h3
 go_upto_region 7 with (fail)
 clear c2
 obtain ⟨X,hX⟩:∃z,z=wix.heap.size:=⟨_,rfl⟩
 obtain ⟨V2,hV2⟩:∃z,z=wix.alloc (.cells #[.int .i64 0,.string ⟨#[]⟩,.string ⟨#[]⟩,.slice none 0 0,.slice none 0 0,.slice none 0 0,.slice none 0 0,.int .i64 0,.string ⟨#[]⟩,.string ⟨#[]⟩,.string ⟨#[]⟩,.int .i64 0,.bool false,.int .i64 0,.int .i64 0,.string ⟨#[]⟩] 83):=⟨_,rfl⟩
 have hw2:=hs.alloc #[.int .i64 0,.string ⟨#[]⟩,.string ⟨#[]⟩,.slice none 0 0,.slice none 0 0,.slice none 0 0,.slice none 0 0,.int .i64 0,.string ⟨#[]⟩,.string ⟨#[]⟩,.string ⟨#[]⟩,.int .i64 0,.bool false,.int .i64 0,.int .i64 0,.string ⟨#[]⟩] 83
 have h2:=hs.more (by intro p hp;simp at hp;rcases hp with rfl|rfl<;>simp [Sv]) #[.int .i64 0,.string ⟨#[]⟩,.string ⟨#[]⟩,.slice none 0 0,.slice none 0 0,.slice none 0 0,.slice none 0 0,.int .i64 0,.string ⟨#[]⟩,.string ⟨#[]⟩,.string ⟨#[]⟩,.int .i64 0,.bool false,.int .i64 0,.int .i64 0,.string ⟨#[]⟩] 83
 have hxlX:wix.heap.size≤X:=by rw [hX];exact hs.chg.size
 rw [←hV2,←hX] at hw2 h2
 go_upto_region 8 with (fail)
 rw [←hV2,←hX]
 have HWX:=hI0 hw2
 have HXLX:=hI0 hxlX
 have HB2:Hid (Below w.heap.size w V2):=hI0 (hw2.below HBWx.out)
 clear hV2 hX hw2 hxlX hs
 go_wp2_with (refine ldR 1 sz_in ag_in (h2.get 0) ?_)
 (with_reducible refine (K1 V2 (KV _ (h2.below HB2.out))).mono ?_)
 rintro _ U3 ⟨g1,rfl,hb3⟩
 have hc3:=h2.call hb3
 go_upto_region 9 with (refine stR 1 28 sz_in (hc3.get 0) rfl ?_;intro V3 hV3 cV3)
 have h3:=hc3.store 0 rfl cV3 hV3
 clear h2 hc3 hb3 cV3 hV3
 have pp0:V3.cell? ⟨w.heap.size,3,none⟩=some (.int .i64 n1):=cW0 V3 _ 3 _ _ _ (h3.get 0)
 have xx0:V3.cell? ⟨X,0,none⟩=some (.int .i64 0):=cW0 V3 _ 0 _ _ _ (h3.get 2)
 have ff0:=fW0 V3 _ 0 _ _ (h3.get 2)
 go_upto_region 10 with (fail)
 have h3p:=h3.put 2 0 (.int .i64 n1)
 have h4:FR w.heap.size (Sx (Sv w.heap.size 2) X) V2 [(w.heap.size,(inC (.slice bA l.length bc) s1 n1 g1),152),(w.heap.size+1,inZ,152),(X,#[.int .i64 n1,.string ⟨#[]⟩,.string ⟨#[]⟩,.slice none 0 0,.slice none 0 0,.slice none 0 0,.slice none 0 0,.int .i64 0,.string ⟨#[]⟩,.string ⟨#[]⟩,.string ⟨#[]⟩,.int .i64 0,.bool false,.int .i64 0,.int .i64 0,.string ⟨#[]⟩],83)] (V3.setCell ⟨X,0,none⟩ (.int .i64 n1)):=h3p
 clear pp0 xx0 ff0 h3 h3p
 generalize (V3.setCell ⟨X,0,none⟩ (.int .i64 n1))=V4 at *
 go_wp2_with (refine ldR 1 sz_in ag_in (h4.get 0) ?_)
 (with_reducible refine (K2 n1 g1 V4 (KV _ (h4.below HB2.out))).mono ?_)
 rintro _ U5 ⟨nb,g2,rfl,hb5⟩
 have hc5:=h4.call hb5
 go_upto_region 11 with (refine stR 1 33 sz_in (hc5.get 0) rfl ?_;intro V5 hV5 cV5)
 have h5:=hc5.store 0 rfl cV5 hV5
 clear h4 hc5 hb5 cV5 hV5
 have pp0:V5.cell? ⟨w.heap.size,4,none⟩=some (.string n2):=cW0 V5 _ 4 _ _ _ (h5.get 0)
 have xx0:V5.cell? ⟨X,1,none⟩=some (.string ⟨#[]⟩):=cW0 V5 _ 1 _ _ _ (h5.get 2)
 have ff0:=fW0 V5 _ 1 _ _ (h5.get 2)
 go_upto_region 12 with (fail)
 have h5p:=h5.put 2 1 (.string n2)
 have h6:FR w.heap.size (Sx (Sv w.heap.size 2) X) V2 [(w.heap.size,(inC (.slice bA l.length bc) s2 nb (g2.ws n2)),152),(w.heap.size+1,inZ,152),(X,#[.int .i64 n1,.string n2,.string ⟨#[]⟩,.slice none 0 0,.slice none 0 0,.slice none 0 0,.slice none 0 0,.int .i64 0,.string ⟨#[]⟩,.string ⟨#[]⟩,.string ⟨#[]⟩,.int .i64 0,.bool false,.int .i64 0,.int .i64 0,.string ⟨#[]⟩],83)] (V5.setCell ⟨X,1,none⟩ (.string n2)):=h5p
 clear pp0 xx0 ff0 h5 h5p
 generalize (V5.setCell ⟨X,1,none⟩ (.string n2))=V6 at *
 go_wp2_with (refine ldR 1 sz_in ag_in (h6.get 0) ?_)
 (with_reducible refine (K3 nb (g2.ws n2) V6 (KV _ (h6.below HB2.out))).mono ?_)
 rintro _ U7 ⟨g3,rfl,hb7⟩
 have hc7:=h6.call hb7
 go_upto_region 13 with (refine stR 1 38 sz_in (hc7.get 0) rfl ?_;intro V7 hV7 cV7)
 have h7:=hc7.store 0 rfl cV7 hV7
 clear h6 hc7 hb7 cV7 hV7
 have pp0:V7.cell? ⟨w.heap.size,3,none⟩=some (.int .i64 n3):=cW0 V7 _ 3 _ _ _ (h7.get 0)
 have xx0:V7.cell? ⟨X,7,none⟩=some (.int .i64 0):=cW0 V7 _ 7 _ _ _ (h7.get 2)
 have ff0:=fW0 V7 _ 7 _ _ (h7.get 2)
 go_upto_region 14 with (fail)
 have h7p:=h7.put 2 7 (.int .i64 n3)
 have h8:FR w.heap.size (Sx (Sv w.heap.size 2) X) V2 [(w.heap.size,(inC (.slice bA l.length bc) s3 n3 g3),152),(w.heap.size+1,inZ,152),(X,#[.int .i64 n1,.string n2,.string ⟨#[]⟩,.slice none 0 0,.slice none 0 0,.slice none 0 0,.slice none 0 0,.int .i64 n3,.string ⟨#[]⟩,.string ⟨#[]⟩,.string ⟨#[]⟩,.int .i64 0,.bool false,.int .i64 0,.int .i64 0,.string ⟨#[]⟩],83)] (V7.setCell ⟨X,7,none⟩ (.int .i64 n3)):=h7p
 clear pp0 xx0 ff0 h7 h7p
 generalize (V7.setCell ⟨X,7,none⟩ (.int .i64 n3))=V8 at *
 clear K1 K2 K3
 have q7:V8.cell? ⟨X,7,none⟩=some (.int .i64 n3):=cW0 V8 _ 7 _ _ _ (h8.get 2)
 by_cases hk:n3=0
 case pos=>
  subst hk
  have HXT:=hI0 (HX0.out rfl)
  rcases ht:rdTab l s3 with ⟨xt,st'⟩
  have KT:=fun V (hV:RdB V (·<V.heap.size) (.slice bA l.length bc) l)=>tabC (.slice bA l.length bc) s3 0 g3 l V hV hl
  rw [ht] at KT HXT
  have HX1:=HXT
  clear ht HXT HX0 HX2
  go_upto_region 15 with (fail)
  clear q7
  have hy:FR w.heap.size (Sx (Sv w.heap.size 2) X) V2 [(w.heap.size,(inC (.slice bA l.length bc) s3 0 g3),152),(w.heap.size+1,inZ,152),(X,#[.int .i64 n1,.string n2,.string ⟨#[]⟩,.slice none 0 0,.slice none 0 0,.slice none 0 0,.slice none 0 0,.int .i64 0,.string ⟨#[]⟩,.string ⟨#[]⟩,.string ⟨#[]⟩,.int .i64 0,.bool false,.int .i64 0,.int .i64 0,.string ⟨#[]⟩],83)] V8:=h8
  clear h8
  go_wp2_with (refine ldR 1 sz_in ag_in (hy.get 0) ?_)
  (with_reducible refine (KT V8 (KV _ (hy.below HB2.out))).mono ?_)
  rintro _ V2 ⟨n5,g5,x,rfl,hX,hxe,hb2⟩
  obtain ⟨tn,tA1,tc1,tl1,tA2,tc2,tl2,tA3,tc3,tl3,tA4,tc4,tl4⟩:=x
  have hc:=hy.call hb2
  have hpre:=hI0 hc
  have HSC:=hI0 hy.chg.size
  have HSL:=hI0 (fun i hi=>(hy.lts.1 i hi).2)
  have HBc:=hI0 (hc.below HB2.out)
  have hst:=hc.start (by intro p hp;simp at hp;rcases hp with rfl|rfl|rfl<;>simp [Sv,Sx])
  have ha:=hst.alloc2 inZ #[.string ⟨#[]⟩,.slice none 0 0,.slice none 0 0,.slice none 0 0,.slice none 0 0] 152 75
  have HX:=hI0 hX
  have HXE:=hI0 hxe
  clear hX hxe hb2 hc hst
  go_upto_region 16 with (first|(refine stR 8 50 sz_in (ha.get 3) rfl ?_;intro Va hVa cVa)|(refine stR (vs:=#[.string tn,.slice tA1 tl1.length tc1,.slice tA2 tl2.length tc2,.slice tA3 tl3.length tc3,.slice tA4 tl4.length tc4]) 9 51 sz_rtab ((ha.store 3 rfl cVa hVa).get 4) rfl ?_;intro Vb hVb cVb))
  have hb:=(ha.store 3 rfl cVa hVa).store 4 rfl cVb hVb
  clear ha cVa hVa cVb hVb
  go_upto_region 17 with (first|(refine ldR 8 sz_in ag_in (hb.get 3) ?_)|(refine stR 1 52 sz_in (hb.get 0) rfl ?_;intro Vc hVc cVc))
  have hd:=hb.store 0 rfl cVc hVc
  clear hb cVc hVc hy
  have xx2:Vc.cell? ⟨X,2,none⟩=some (.string ⟨#[]⟩):=cW0 Vc _ 2 _ _ _ (hd.get 2)
  have ff2:=fW0 Vc _ 2 _ _ (hd.get 2)
  have xx3:Vc.cell? ⟨X,3,none⟩=some (.slice none 0 0):=cW0 Vc _ 3 _ _ _ (hd.get 2)
  have ff3:=fW0 Vc _ 3 _ _ (hd.get 2)
  have xx4:Vc.cell? ⟨X,4,none⟩=some (.slice none 0 0):=cW0 Vc _ 4 _ _ _ (hd.get 2)
  have ff4:=fW0 Vc _ 4 _ _ (hd.get 2)
  have xx5:Vc.cell? ⟨X,5,none⟩=some (.slice none 0 0):=cW0 Vc _ 5 _ _ _ (hd.get 2)
  have ff5:=fW0 Vc _ 5 _ _ (hd.get 2)
  have xx6:Vc.cell? ⟨X,6,none⟩=some (.slice none 0 0):=cW0 Vc _ 6 _ _ _ (hd.get 2)
  have ff6:=fW0 Vc _ 6 _ _ (hd.get 2)
  go_upto_region 27 with (refine ldR 9 sz_rtab ag_rtab (hd.get 4) ?_)
  have hdp:=hd.put 2 2 (.string tn)
  have hdpp:=hdp.put 2 3 (.slice tA1 tl1.length tc1)
  have hdppp:=hdpp.put 2 4 (.slice tA2 tl2.length tc2)
  have hdpppp:=hdppp.put 2 5 (.slice tA3 tl3.length tc3)
  have hdppppp:=hdpppp.put 2 6 (.slice tA4 tl4.length tc4)
  have h9:FR w.heap.size (Sx (Sv w.heap.size 2) X) V2 [(w.heap.size,(inC (.slice bA l.length bc) st' n5 g5),152),(w.heap.size+1,inZ,152),(X,#[.int .i64 n1,.string n2,.string tn,.slice tA1 tl1.length tc1,.slice tA2 tl2.length tc2,.slice tA3 tl3.length tc3,.slice tA4 tl4.length tc4,.int .i64 0,.string ⟨#[]⟩,.string ⟨#[]⟩,.string ⟨#[]⟩,.int .i64 0,.bool false,.int .i64 0,.int .i64 0,.string ⟨#[]⟩],83),(V2.heap.size,(inC (.slice bA l.length bc) st' n5 g5),152),(V2.heap.size+1,#[.string tn,.slice tA1 tl1.length tc1,.slice tA2 tl2.length tc2,.slice tA3 tl3.length tc3,.slice tA4 tl4.length tc4],75)] (((((Vc.setCell ⟨X,2,none⟩ (.string tn)).setCell ⟨X,3,none⟩ (.slice tA1 tl1.length tc1)).setCell ⟨X,4,none⟩ (.slice tA2 tl2.length tc2)).setCell ⟨X,5,none⟩ (.slice tA3 tl3.length tc3)).setCell ⟨X,6,none⟩ (.slice tA4 tl4.length tc4)):=hdppppp
  clear xx2 ff2 xx3 ff3 xx4 ff4 xx5 ff5 xx6 ff6 hd hdp hdpp hdppp hdpppp hdppppp
  generalize (((((Vc.setCell ⟨X,2,none⟩ (.string tn)).setCell ⟨X,3,none⟩ (.slice tA1 tl1.length tc1)).setCell ⟨X,4,none⟩ (.slice tA2 tl2.length tc2)).setCell ⟨X,5,none⟩ (.slice tA3 tl3.length tc3)).setCell ⟨X,6,none⟩ (.slice tA4 tl4.length tc4))=V9 at *
  have HK:=hI0 (HWX.out.outer (hpre.out.trans h9) (fun i hi hs=>hs.elim id (fun e=>by have:=HXLX.out;omega)))
  have HOA:=hI0 (HI_x.out.row (O:=(.cells #[.int .i64 n1,.string n2,.string tn,.slice tA1 tl1.length tc1,.slice tA2 tl2.length tc2,.slice tA3 tl3.length tc3,.slice tA4 tl4.length tc4,.int .i64 0,.string ⟨#[]⟩,.string ⟨#[]⟩,.string ⟨#[]⟩,.int .i64 0,.bool false,.int .i64 0,.int .i64 0,.string ⟨#[]⟩] 83)) HK.out)
  have HNEW:=hI0 (Rd.new' V9 V9.heap.size rfl [.int .i64 n1,.string n2,.string tn,.slice tA1 tl1.length tc1,.slice tA2 tl2.length tc2,.slice tA3 tl3.length tc3,.slice tA4 tl4.length tc4,.int .i64 0,.string ⟨#[]⟩,.string ⟨#[]⟩,.string ⟨#[]⟩,.int .i64 0,.bool false,.int .i64 0,.int .i64 0,.string ⟨#[]⟩] 83 16 1 rfl (by decide))
  have hz9:V1.heap.size≤V9.heap.size:=Nat.le_trans HI_x.out.fr.chg.size HK.out.chg.size
  have hi5:Qx.length≤1048577:=by have:=HPx.out.lenb;omega
  have HIX:=hI0 (And.intro (FR.isK (IS:=tabIs) (d':=wix.heap.size) (x:=(⟨tn,tA1,tc1,tl1,tA2,tc2,tl2,tA3,tc3,tl3,tA4,tc4,tl4⟩:RTab)) h9 isK_Tab HX.out (Nat.le_trans HWX.out.chg.size HSC.out) HSL.out) goV_zero)
  go_wp2_with (first|(refine ldR 7 sz_ent ag_ent (h9.get 2) ?_)|(at_builtin;refine wpList_append_app (V9.alloc (.cells #[.int .i64 n1,.string n2,.string tn,.slice tA1 tl1.length tc1,.slice tA2 tl2.length tc2,.slice tA3 tl3.length tc3,.slice tA4 tl4.length tc4,.int .i64 0,.string ⟨#[]⟩,.string ⟨#[]⟩,.string ⟨#[]⟩,.int .i64 0,.bool false,.int .i64 0,.int .i64 0,.string ⟨#[]⟩] 83)) rfl (.tmp 82) (.tmp 84) 22 rfl V1.heap.size 83 i0 _ 16 240 Tryz.underlying22 HI.out HZ0.out HZ1.out HZ2.out rfl (by omega) (.slice Aox Qx.length cox) Qx.length (Qx.flatMap REn.enc) rfl (.inl HOA.out) (·=V9.heap.size) _ 1 [.int .i64 n1,.string n2,.string tn,.slice tA1 tl1.length tc1,.slice tA2 tl2.length tc2,.slice tA3 tl3.length tc3,.slice tA4 tl4.length tc4,.int .i64 0,.string ⟨#[]⟩,.string ⟨#[]⟩,.string ⟨#[]⟩,.int .i64 0,.bool false,.int .i64 0,.int .i64 0,.string ⟨#[]⟩] rfl HNEW.out (fun u hu=>by simp only [List.mem_cons,List.not_mem_nil,or_false] at hu;rcases hu with rfl|rfl|rfl|rfl|rfl|rfl|rfl|rfl|rfl|rfl|rfl|rfl|rfl|rfl|rfl|rfl<;>rfl) (by unfold maxLen;omega) (by omega) (by simp;omega) ?_;intro v3 w3 _ hO3 hg3 hb3 hv3))
  have HL2:=hI0 ((HI_x.out.step (x:=(⟨n1,n2,⟨tn,tA1,tc1,tl1,tA2,tc2,tl2,tA3,tc3,tl3,tA4,tc4,tl4⟩,⟨0,⟨#[]⟩,⟨#[]⟩,⟨#[]⟩,0,false,⟨0,0,⟨#[]⟩⟩⟩⟩:REn)) isK_En HK.out HIX.out (hO3 (.inl (by omega))) hg3 hv3).take 2)
  clear hO3 hg3 hb3 hv3
  go_wp2_with fail
  go_roundw
  case rel=>exact ⟨Qx++[(⟨n1,n2,⟨tn,tA1,tc1,tl1,tA2,tc2,tl2,tA3,tc3,tl3,tA4,tc4,tl4⟩,⟨0,⟨#[]⟩,⟨#[]⟩,⟨#[]⟩,0,false,⟨0,0,⟨#[]⟩⟩⟩⟩:REn)],st',n5,g5,by simp,hI0 HL2.out,hI0 (HPx.out.step mon_Ent ⟨hgo.1,rfl⟩ HX1.out (by have h:=HXE.out;simp only [REn.er,h];rfl))⟩
  case measure=>have:=hgo.1;simp [intOf];omega
 have hk2:(n3==0)=false:=by simpa using hk
 rcases h5:rdT l s3 with ⟨n5,s5⟩
 rcases h6:rdT l s5 with ⟨n6,s6⟩
 rcases h7:rdCol l s6 with ⟨⟨cn,ck,cb⟩,s7⟩
 rcases h8:rdV l s7 with ⟨⟨dk,di,dt⟩,st'⟩
 have hg8:goV ⟨dk,di,dt⟩:=by
  have e:(⟨dk,di,dt⟩:Val)=(rdV l s7).1:=by rw [h8]
  rw [e];exact rdV_goV l s7
 have HG8:=hI0 hg8
 have hch:rdChn l n3 s3=(⟨n3,n5,n6,cn,ck,cb,⟨dk,di,dt⟩⟩,st'):=by unfold rdChn;simp only [h5,h6,h7,h8]
 have HX1:=hI0 (HX2.out hk)
 rw [hch] at HX1
 have K5:=fun n g V (hV:RdB V (·<V.heap.size) (.slice bA l.length bc) l)=>textC (.slice bA l.length bc) s3 n g l V hV
 have K6:=fun n g V (hV:RdB V (·<V.heap.size) (.slice bA l.length bc) l)=>textC (.slice bA l.length bc) s5 n g l V hV
 have K7:=fun n g V (hV:RdB V (·<V.heap.size) (.slice bA l.length bc) l)=>colC (.slice bA l.length bc) s6 n g l V hV
 have K8:=fun n g V (hV:RdB V (·<V.heap.size) (.slice bA l.length bc) l)=>valueC (.slice bA l.length bc) s7 n g l V hV
 rw [h5] at K5
 rw [h6] at K6
 rw [h7] at K7
 rw [h8] at K8
 clear h5 h6 h7 h8 hch hg8 HX0 HX2
 go_upto_region 18 with (fail)
 clear q7 hk2
 go_wp2_with (refine ldR 1 sz_in ag_in (h8.get 0) ?_)
 (with_reducible refine (K5 n3 g3 V8 (KV _ (h8.below HB2.out))).mono ?_)
 rintro _ U9 ⟨m5,g5,rfl,hb9⟩
 have hc9:=h8.call hb9
 go_upto_region 19 with (refine stR 1 56 sz_in (hc9.get 0) rfl ?_;intro V9 hV9 cV9)
 have h9:=hc9.store 0 rfl cV9 hV9
 clear h8 hc9 hb9 cV9 hV9
 have pp0:V9.cell? ⟨w.heap.size,4,none⟩=some (.string n5):=cW0 V9 _ 4 _ _ _ (h9.get 0)
 have xx0:V9.cell? ⟨X,8,none⟩=some (.string ⟨#[]⟩):=cW0 V9 _ 8 _ _ _ (h9.get 2)
 have ff0:=fW0 V9 _ 8 _ _ (h9.get 2)
 go_upto_region 20 with (fail)
 have h9p:=h9.put 2 8 (.string n5)
 have h10:FR w.heap.size (Sx (Sv w.heap.size 2) X) V2 [(w.heap.size,(inC (.slice bA l.length bc) s5 m5 (g5.ws n5)),152),(w.heap.size+1,inZ,152),(X,#[.int .i64 n1,.string n2,.string ⟨#[]⟩,.slice none 0 0,.slice none 0 0,.slice none 0 0,.slice none 0 0,.int .i64 n3,.string n5,.string ⟨#[]⟩,.string ⟨#[]⟩,.int .i64 0,.bool false,.int .i64 0,.int .i64 0,.string ⟨#[]⟩],83)] (V9.setCell ⟨X,8,none⟩ (.string n5)):=h9p
 clear pp0 xx0 ff0 h9 h9p
 generalize (V9.setCell ⟨X,8,none⟩ (.string n5))=V10 at *
 go_wp2_with (refine ldR 1 sz_in ag_in (h10.get 0) ?_)
 (with_reducible refine (K6 m5 (g5.ws n5) V10 (KV _ (h10.below HB2.out))).mono ?_)
 rintro _ U11 ⟨m6,g6,rfl,hb11⟩
 have hc11:=h10.call hb11
 go_upto_region 21 with (refine stR 1 62 sz_in (hc11.get 0) rfl ?_;intro V11 hV11 cV11)
 have h11:=hc11.store 0 rfl cV11 hV11
 clear h10 hc11 hb11 cV11 hV11
 have pp0:V11.cell? ⟨w.heap.size,4,none⟩=some (.string n6):=cW0 V11 _ 4 _ _ _ (h11.get 0)
 have xx0:V11.cell? ⟨X,9,none⟩=some (.string ⟨#[]⟩):=cW0 V11 _ 9 _ _ _ (h11.get 2)
 have ff0:=fW0 V11 _ 9 _ _ (h11.get 2)
 go_upto_region 22 with (fail)
 have h11p:=h11.put 2 9 (.string n6)
 have h12:FR w.heap.size (Sx (Sv w.heap.size 2) X) V2 [(w.heap.size,(inC (.slice bA l.length bc) s6 m6 (g6.ws n6)),152),(w.heap.size+1,inZ,152),(X,#[.int .i64 n1,.string n2,.string ⟨#[]⟩,.slice none 0 0,.slice none 0 0,.slice none 0 0,.slice none 0 0,.int .i64 n3,.string n5,.string n6,.string ⟨#[]⟩,.int .i64 0,.bool false,.int .i64 0,.int .i64 0,.string ⟨#[]⟩],83)] (V11.setCell ⟨X,9,none⟩ (.string n6)):=h11p
 clear pp0 xx0 ff0 h11 h11p
 generalize (V11.setCell ⟨X,9,none⟩ (.string n6))=V12 at *
 go_wp2_with (refine ldR 1 sz_in ag_in (h12.get 0) ?_)
 (with_reducible refine (K7 m6 (g6.ws n6) V12 (KV _ (h12.below HB2.out))).mono ?_)
 rintro _ V2 ⟨m7,g7,x,rfl,hX,hxe,hb2⟩
 have hxf:=hxe
 obtain rfl:x=⟨cn,ck,cb⟩:=hxf
 have hc:=h12.call hb2
 have hpre:=hI0 hc
 have HSC:=hI0 h12.chg.size
 have HSL:=hI0 (fun i hi=>(h12.lts.1 i hi).2)
 have HBc:=hI0 (hc.below HB2.out)
 have hst:=hc.start (by intro p hp;simp at hp;rcases hp with rfl|rfl|rfl<;>simp [Sv,Sx])
 have ha:=hst.alloc2 inZ #[.string ⟨#[]⟩,.int .i64 0,.bool false] 152 77
 have HX:=hI0 hX
 have HXE:=hI0 hxe
 clear hX hxe hb2 hc hst
 go_upto_region 23 with (first|(refine stR 10 70 sz_in (ha.get 3) rfl ?_;intro Va hVa cVa)|(refine stR (vs:=#[.string cn,.int .i64 ck,.bool cb]) 11 71 sz_rcol ((ha.store 3 rfl cVa hVa).get 4) rfl ?_;intro Vb hVb cVb))
 have hb:=(ha.store 3 rfl cVa hVa).store 4 rfl cVb hVb
 clear ha cVa hVa cVb hVb
 go_upto_region 24 with (first|(refine ldR 10 sz_in ag_in (hb.get 3) ?_)|(refine stR 1 72 sz_in (hb.get 0) rfl ?_;intro Vc hVc cVc))
 have hd:=hb.store 0 rfl cVc hVc
 clear hb cVc hVc h12
 have xx10:Vc.cell? ⟨X,10,none⟩=some (.string ⟨#[]⟩):=cW0 Vc _ 10 _ _ _ (hd.get 2)
 have ff10:=fW0 Vc _ 10 _ _ (hd.get 2)
 have xx11:Vc.cell? ⟨X,11,none⟩=some (.int .i64 0):=cW0 Vc _ 11 _ _ _ (hd.get 2)
 have ff11:=fW0 Vc _ 11 _ _ (hd.get 2)
 have xx12:Vc.cell? ⟨X,12,none⟩=some (.bool false):=cW0 Vc _ 12 _ _ _ (hd.get 2)
 have ff12:=fW0 Vc _ 12 _ _ (hd.get 2)
 go_upto_region 25 with (refine ldR 11 sz_rcol ag_rcol (hd.get 4) ?_)
 have hdp:=hd.put 2 10 (.string cn)
 have hdpp:=hdp.put 2 11 (.int .i64 ck)
 have hdppp:=hdpp.put 2 12 (.bool cb)
 have h13:FR w.heap.size (Sx (Sv w.heap.size 2) X) V2 [(w.heap.size,(inC (.slice bA l.length bc) s7 m7 g7),152),(w.heap.size+1,inZ,152),(X,#[.int .i64 n1,.string n2,.string ⟨#[]⟩,.slice none 0 0,.slice none 0 0,.slice none 0 0,.slice none 0 0,.int .i64 n3,.string n5,.string n6,.string cn,.int .i64 ck,.bool cb,.int .i64 0,.int .i64 0,.string ⟨#[]⟩],83),(V2.heap.size,(inC (.slice bA l.length bc) s7 m7 g7),152),(V2.heap.size+1,#[.string cn,.int .i64 ck,.bool cb],77)] (((Vc.setCell ⟨X,10,none⟩ (.string cn)).setCell ⟨X,11,none⟩ (.int .i64 ck)).setCell ⟨X,12,none⟩ (.bool cb)):=hdppp
 clear xx10 ff10 xx11 ff11 xx12 ff12 hd hdp hdpp hdppp
 generalize (((Vc.setCell ⟨X,10,none⟩ (.string cn)).setCell ⟨X,11,none⟩ (.int .i64 ck)).setCell ⟨X,12,none⟩ (.bool cb))=V13 at *
 go_wp2_with (refine ldR 1 sz_in ag_in (h13.get 0) ?_)
 (with_reducible refine (K8 m7 g7 V13 (KV _ (h13.below HBc.out))).mono ?_)
 rintro _ U14 ⟨m8,g8,rfl,hb14⟩
 have hc14:=h13.call hb14
 go_upto_region 26 with (refine stR 1 77 sz_in (hc14.get 0) rfl ?_;intro V14 hV14 cV14)
 have h14:=hc14.store 0 rfl cV14 hV14
 clear h13 hc14 hb14 cV14 hV14
 have pp0:V14.cell? ⟨w.heap.size,5,none⟩=some (.int .i64 dk):=cW0 V14 _ 5 _ _ _ (h14.get 0)
 have pp1:V14.cell? ⟨w.heap.size,6,none⟩=some (.int .i64 di):=cW0 V14 _ 6 _ _ _ (h14.get 0)
 have pp2:V14.cell? ⟨w.heap.size,7,none⟩=some (.string dt):=cW0 V14 _ 7 _ _ _ (h14.get 0)
 have xx0:V14.cell? ⟨X,13,none⟩=some (.int .i64 0):=cW0 V14 _ 13 _ _ _ (h14.get 2)
 have ff0:=fW0 V14 _ 13 _ _ (h14.get 2)
 have xx1:V14.cell? ⟨X,14,none⟩=some (.int .i64 0):=cW0 V14 _ 14 _ _ _ (h14.get 2)
 have ff1:=fW0 V14 _ 14 _ _ (h14.get 2)
 have xx2:V14.cell? ⟨X,15,none⟩=some (.string ⟨#[]⟩):=cW0 V14 _ 15 _ _ _ (h14.get 2)
 have ff2:=fW0 V14 _ 15 _ _ (h14.get 2)
 go_upto_region 27 with (fail)
 have h14p:=h14.put 2 13 (.int .i64 dk)
 have h14pp:=h14p.put 2 14 (.int .i64 di)
 have h14ppp:=h14pp.put 2 15 (.string dt)
 have h15:FR w.heap.size (Sx (Sv w.heap.size 2) X) V2 [(w.heap.size,(inC (.slice bA l.length bc) st' m8 (g8.wv ⟨dk,di,dt⟩)),152),(w.heap.size+1,inZ,152),(X,#[.int .i64 n1,.string n2,.string ⟨#[]⟩,.slice none 0 0,.slice none 0 0,.slice none 0 0,.slice none 0 0,.int .i64 n3,.string n5,.string n6,.string cn,.int .i64 ck,.bool cb,.int .i64 dk,.int .i64 di,.string dt],83),(V2.heap.size,(inC (.slice bA l.length bc) s7 m7 g7),152),(V2.heap.size+1,#[.string cn,.int .i64 ck,.bool cb],77)] (((V14.setCell ⟨X,13,none⟩ (.int .i64 dk)).setCell ⟨X,14,none⟩ (.int .i64 di)).setCell ⟨X,15,none⟩ (.string dt)):=h14ppp
 clear pp0 pp1 pp2 xx0 ff0 xx1 ff1 xx2 ff2 h14 h14p h14pp h14ppp
 generalize (((V14.setCell ⟨X,13,none⟩ (.int .i64 dk)).setCell ⟨X,14,none⟩ (.int .i64 di)).setCell ⟨X,15,none⟩ (.string dt))=V15 at *
 have HK:=hI0 (HWX.out.outer (hpre.out.trans h15) (fun i hi hs=>hs.elim id (fun e=>by have:=HXLX.out;omega)))
 have HOA:=hI0 (HI_x.out.row (O:=(.cells #[.int .i64 n1,.string n2,.string ⟨#[]⟩,.slice none 0 0,.slice none 0 0,.slice none 0 0,.slice none 0 0,.int .i64 n3,.string n5,.string n6,.string cn,.int .i64 ck,.bool cb,.int .i64 dk,.int .i64 di,.string dt] 83)) HK.out)
 have HNEW:=hI0 (Rd.new' V15 V15.heap.size rfl [.int .i64 n1,.string n2,.string ⟨#[]⟩,.slice none 0 0,.slice none 0 0,.slice none 0 0,.slice none 0 0,.int .i64 n3,.string n5,.string n6,.string cn,.int .i64 ck,.bool cb,.int .i64 dk,.int .i64 di,.string dt] 83 16 1 rfl (by decide))
 have hz9:V1.heap.size≤V15.heap.size:=Nat.le_trans HI_x.out.fr.chg.size HK.out.chg.size
 have hi5:Qx.length≤1048577:=by have:=HPx.out.lenb;omega
 have HIX:=hI0 (show enIs V15 (fun b=>wix.heap.size≤b∧b<V15.heap.size) (⟨n1,n2,RTab.none_,⟨n3,n5,n6,cn,ck,cb,⟨dk,di,dt⟩⟩⟩:REn) from ⟨tabIs_none _ _,HG8.out⟩)
 go_wp2_with (first|(refine ldR 7 sz_ent ag_ent (h15.get 2) ?_)|(at_builtin;refine wpList_append_app (V15.alloc (.cells #[.int .i64 n1,.string n2,.string ⟨#[]⟩,.slice none 0 0,.slice none 0 0,.slice none 0 0,.slice none 0 0,.int .i64 n3,.string n5,.string n6,.string cn,.int .i64 ck,.bool cb,.int .i64 dk,.int .i64 di,.string dt] 83)) rfl (.tmp 82) (.tmp 84) 22 rfl V1.heap.size 83 i0 _ 16 240 Tryz.underlying22 HI.out HZ0.out HZ1.out HZ2.out rfl (by omega) (.slice Aox Qx.length cox) Qx.length (Qx.flatMap REn.enc) rfl (.inl HOA.out) (·=V15.heap.size) _ 1 [.int .i64 n1,.string n2,.string ⟨#[]⟩,.slice none 0 0,.slice none 0 0,.slice none 0 0,.slice none 0 0,.int .i64 n3,.string n5,.string n6,.string cn,.int .i64 ck,.bool cb,.int .i64 dk,.int .i64 di,.string dt] rfl HNEW.out (fun u hu=>by simp only [List.mem_cons,List.not_mem_nil,or_false] at hu;rcases hu with rfl|rfl|rfl|rfl|rfl|rfl|rfl|rfl|rfl|rfl|rfl|rfl|rfl|rfl|rfl|rfl<;>rfl) (by unfold maxLen;omega) (by omega) (by simp;omega) ?_;intro v3 w3 _ hO3 hg3 hb3 hv3))
 have HL2:=hI0 ((HI_x.out.step (x:=(⟨n1,n2,RTab.none_,⟨n3,n5,n6,cn,ck,cb,⟨dk,di,dt⟩⟩⟩:REn)) isK_En HK.out HIX.out (hO3 (.inl (by omega))) hg3 hv3).take 2)
 clear hO3 hg3 hb3 hv3
 go_wp2_with fail
 go_roundw
 case rel=>exact ⟨Qx++[(⟨n1,n2,RTab.none_,⟨n3,n5,n6,cn,ck,cb,⟨dk,di,dt⟩⟩⟩:REn)],st',m8,(g8.wv ⟨dk,di,dt⟩),by simp,hI0 HL2.out,hI0 (HPx.out.step mon_Ent ⟨hgo.1,rfl⟩ HX1.out rfl)⟩
 case measure=>have:=hgo.1;simp [intOf];omega
end Go.Proofs.YtbfdegkickjbpaaGreat
