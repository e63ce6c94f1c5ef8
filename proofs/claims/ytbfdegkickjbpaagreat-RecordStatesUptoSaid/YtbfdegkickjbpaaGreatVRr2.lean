/-
 Rr2
-/
import Derived.Test.YtbfdegkickjbpaaGreatVRr1
import Derived.Test.YtbfdegkickjbpaaGreatVDc4
namespace Go.Proofs.YtbfdegkickjbpaaGreat
open Go.Proofs.Tryz
set_option maxRecDepth 99999
set_option maxHeartbeats 0
open Go.RowKit Go.Lib Go.IntWalk Go.Sort Go.Shelf
theorem zq1 {P:Prop} (i:Nat) (h:Tg i→P:=by
 intro zT1
 obtain ⟨bA,bc,rfl,y1,y2,y3⟩:=Rd.open_ hv
 obtain ⟨W,hW⟩:=eN0 ((w.alloc (.cells (inC (.slice bA l.length bc) s n g) 152)).alloc (.cells #[.slice none 0 0,.int .i64 0,.int .i64 0,.int .i64 0,.string ⟨#[]⟩,.int .i64 0,.int .i64 0,.string ⟨#[]⟩,.slice none 0 0,.int .i64 0,.int .i64 0,.slice none 0 0] 152))
 have hi:=FR.init w (inC (.slice bA l.length bc) s n g) inZ 152
 have h:FR w.heap.size (Sv w.heap.size 2) W [(w.heap.size,inC (.slice bA l.length bc) s n g,152),(w.heap.size+1,inZ,152)] W:=by rw [hW];exact hi.1
 have hbW:Bl w W:=by rw [hW];exact hi.2
 clear hi
 have KV:∀V,Bl w V→RdB V (ltw V) (.slice bA l.length bc) l:=fun V hb=>hv.below hb
 have HB:=hI0 hbW
 clear hv hbW
 rcases hd:mnyF l s with ⟨mN,k1,e1⟩
 have hbdN:=mny_bd l s
 have hpsN:=mnyF_pos l s
 rw [hd] at hbdN hpsN
 obtain ⟨N,rfl⟩:=Int.eq_ofNat_of_zero_le hpsN
 have hN:(N:Int)≤9223372036854775807:=hbdN.1
 have HBDN:=hI0 hbdN.2
 clear hbdN hpsN
 first
  |guard_hyp zT1:Tg 1;obtain ⟨res,hres⟩:=eN0 (getS (rdHld l) N (k1,e1))
   have qres:rdL l (rdHld l) s=res:=by rw [rdL_many,hd,hres];rfl
  |obtain ⟨res,hres⟩:=eN0 (getS (rdEnt l) N (k1,e1))
   have qres:rdL l (rdEnt l) s=res:=by rw [rdL_many,hd,hres];rfl
 have Hres:=hI0 hres
 clear hres
 rw [qres]
 have KM:=fun V (hV:RdB V (ltw V) (.slice bA l.length bc) l)=>manyC (.slice bA l.length bc) s n g l V hV
 rw [hd] at KM
 first
  |guard_hyp zT1:Tg 1;obtain ⟨i0,hi,hz0,hz1,hz2⟩:=info_parts info_Hld
  |obtain ⟨i0,hi,hz0,hz1,hz2⟩:=info_parts info_Ent
 have HI:=hI0 hi
 have HZ0:=hI0 hz0
 have HZ1:=hI0 hz1
 have HZ2:=hI0 hz2
 clear hi hz0 hz1 hz2
 clear qres hd
 go_in
 go_upto_region 1 with (fail)
 rw [←hW]
 clear hW
 go_wp2_with (refine ldR 1 sz_in ag_in (h.get 0) ?_)
 (with_reducible refine (KM W (KV _ (h.below HB.out))).mono ?_)
 rintro _ U1 ⟨g2,rfl,hb1⟩
 have hc1:=h.call hb1
 first
  |guard_hyp zT1:Tg 1;go_upto_region 2 with (refine stU 1 9 sz_in (hc1.get 0) rfl ?_;intro V1 hV1 cV1)
  |go_upto_region 2 with (refine stU 1 13 sz_in (hc1.get 0) rfl ?_;intro V1 hV1 cV1)
 have h1:=hc1.store 0 rfl cV1 hV1
 clear h hc1 hb1 cV1 hV1
 have p3:=cW1 (v:=.int .i64 (N:Int)) 3 (h1.get 0) rfl
 go_wp2_with fail
 clear p3 KM
 have hs:=h1.start (by intro p hp;simp at hp;rcases hp with rfl|rfl<;>simp [Sv])
 have HBUx:Hid (Bl w V1):=hI0 (h1.below HB.out)
 clear h1
 first
  |guard_hyp zT1:Tg 1;go_loopw [5,6] (fun o i wr=>∃(Q:List Hld) (st:Int×Int) (n':Int) (g':InR),i=.int .i64 (Q.length:Int)∧Hid (LI 109 6 Hld.enc isT w.heap.size (Sv w.heap.size 2) V1 [(w.heap.size,(inC (.slice bA l.length bc) st n' g'),152),(w.heap.size+1,inZ,152)] wr o Q)∧Hid (LP (rdHld l) id N l.length Q st res)) (fun _ i _=>N-(intOf i).toNat)
  |go_loopw [5,6] (fun o i wr=>∃(Q:List REn) (st:Int×Int) (n':Int) (g':InR),i=.int .i64 (Q.length:Int)∧Hid (LI 83 16 REn.enc enIs w.heap.size (Sv w.heap.size 2) V1 [(w.heap.size,(inC (.slice bA l.length bc) st n' g'),152),(w.heap.size+1,inZ,152)] wr o Q)∧Hid (LP (rdEnt l) REn.er N l.length Q st res)) (fun _ i _=>N-(intOf i).toNat)
 case atStart=>exact ⟨[],(k1,e1),_,_,rfl,hI0 (LI.init hs),hI0 (by rw [Hres.out];exact LP.init HBDN.out)⟩
 obtain ⟨Qx,⟨kx,erx⟩,n'x,g'x,rfl,HI_x,HPx⟩:=hrel
 obtain ⟨wix,rfl⟩:=eN0 wr
 obtain ⟨Aox,cox,rfl,o1,o2,o3⟩:=Rd.open_ (Rd.of_own HI_x.out.own)
 have hs:=HI_x.out.start (by intro p hp;simp at hp;rcases hp with rfl|rfl<;>simp [Sv])
 have HBWx:Hid (Bl w wix):=hI0 (HI_x.out.fr.below HBUx.out)
 have c2:=cW1 (v:=.int .i64 erx) 2 (hs.get 0) rfl
 have o1x:=o1
 clear o1 o2 o3
 by_cases hgo:Qx.length<N∧erx=0
 case neg=>
  first
   |guard_hyp zT1:Tg 1;have HFx:Hid (res=(Qx.map id,(kx,erx))):=hI0 (HPx.out.stop hgo)
    have HLDx:Hid (LD 6 Hld.enc isT (Sv w.heap.size 2) w.heap.size wix (.slice Aox Qx.length cox) Qx):=hI0 (HI_x.out.ld isK_T HBUx.out.size)
   |have HFx:Hid (res=(Qx.map REn.er,(kx,erx))):=hI0 (HPx.out.stop hgo)
    have HLDx:Hid (LD 16 REn.enc enIs (Sv w.heap.size 2) w.heap.size wix (.slice Aox Qx.length cox) Qx):=hI0 (HI_x.out.ld isK_En HBUx.out.size)
  by_cases hlt:Qx.length<N
  all_goals first|(have hil2:¬(Qx.length:Int)<(N:Int):=by omega)|(have hil2:(Qx.length:Int)<(N:Int):=(by omega);have her:¬erx=0:=fun g=>hgo ⟨hlt,g⟩)
  first
   |guard_hyp zT1:Tg 1
    all_goals go_upto_region 17 with (fail)
   |all_goals go_upto_region 28 with (fail)
  all_goals clear c2 hgo hlt hil2
  all_goals try clear her
  all_goals
   first
    |guard_hyp zT1:Tg 1;go_wp2_with (first|(refine ldR 1 sz_in ag_in (hs.get 0) ?_)|(refine stU 2 49 sz_in (hs.get 1) rfl ?_;intro E hE cE))
    |go_wp2_with (first|(refine ldR 1 sz_in ag_in (hs.get 0) ?_)|(refine stU 2 86 sz_in (hs.get 1) rfl ?_;intro E hE cE))
   have hE2:=hs.store 1 rfl cE hE
   rw [HFx.out]
   first
    |guard_hyp zT1:Tg 1;have hfin:=LD.fin (HLDx.out.carry isK_T hE2.chg) isK_T (Nat.le_refl _)
     exact bodyPost_ret (v:=.tuple #[.agg (inC (.slice bA l.length bc) (kx,erx) n'x g'x),.slice Aox Qx.length cox]) (res_ct results81 rfl rfl (run_varRow sz_in ag_in (hE2.get 1))) rfl ⟨n'x,g'x,Aox,cox,Qx,rfl,hfin.1,hfin.2,rfl,hE2.below HBWx.out⟩
    |have hfin:=LD.fin (HLDx.out.carry isK_En hE2.chg) isK_En (Nat.le_refl _)
     exact bodyPost_ret (v:=.tuple #[.agg (inC (.slice bA l.length bc) (kx,erx) n'x g'x),.slice Aox Qx.length cox]) (res_ct results75 rfl rfl (run_varRow sz_in ag_in (hE2.get 1))) rfl ⟨n'x,g'x,Aox,cox,Qx,rfl,hfin.1,hfin.2,rfl,hE2.below HBWx.out⟩
 obtain rfl:erx=0:=hgo.2
 have hil2:(Qx.length:Int)<(N:Int):=by have:=hgo.1;omega
 first
  |guard_hyp zT1:Tg 1;rcases h1:rdT l (kx,0) with ⟨y1,s1⟩
   rcases h2:rdT l s1 with ⟨y2,s2⟩
   rcases h3:rdP l s2 with ⟨⟨y3,y4⟩,s3⟩
   rcases h4:rdP l s3 with ⟨⟨y5,y6⟩,st'⟩
   have HX1:Hid (rdHld l (kx,0)=(⟨y1,y2,y3,y4,y5,y6⟩,st')):=hI0 (by simp only [rdHld,h1,h2,h3,h4])
   have K1:=fun n g V (hV:RdB V (ltw V) (.slice bA l.length bc) l)=>textC (.slice bA l.length bc) (kx,0) n g l V hV
  |rcases h1:rdI l (kx,0) with ⟨n1,s1⟩
   rcases h2:rdT l s1 with ⟨n2,s2⟩
   rcases h3:rdI l s2 with ⟨n3,s3⟩
   have HX0:Hid (n3=0→rdEnt l (kx,0)=(⟨n1,n2,(rdTab l s3).1,⟨0,⟨#[]⟩,⟨#[]⟩,⟨#[]⟩,0,false,zeroV⟩⟩,(rdTab l s3).2)):=hI0 (fun h0=>by unfold rdEnt;simp only [h1,h2,h3,h0,if_true])
   have HX2:Hid (n3≠0→rdEnt l (kx,0)=(⟨n1,n2,RTab.none_,(rdChn l n3 s3).1⟩,(rdChn l n3 s3).2)):=hI0 (fun h0=>by unfold rdEnt;simp only [h1,h2,h3,if_neg h0])
   have K1:=fun V (hV:RdB V (ltw V) (.slice bA l.length bc) l)=>numC (.slice bA l.length bc) (kx,0) n'x g'x l V hV
 have K2:=fun n g V (hV:RdB V (ltw V) (.slice bA l.length bc) l)=>textC (.slice bA l.length bc) s1 n g l V hV
 first
  |guard_hyp zT1:Tg 1;have K3:=fun n g V (hV:RdB V (ltw V) (.slice bA l.length bc) l)=>perC (.slice bA l.length bc) s2 n g l V hV
   have K4:=fun n g V (hV:RdB V (ltw V) (.slice bA l.length bc) l)=>perC (.slice bA l.length bc) s3 n g l V hV
  |have K3:=fun n g V (hV:RdB V (ltw V) (.slice bA l.length bc) l)=>numC (.slice bA l.length bc) s2 n g l V hV
 rw [h1] at K1
 rw [h2] at K2
 rw [h3] at K3
 first
  |guard_hyp zT1:Tg 1;rw [h4] at K4
   clear h1 h2 h3 h4
  |clear h1 h2 h3
 go_upto_region 7 with (fail)
 clear c2
 obtain ⟨X,hX⟩:=eN0 wix.heap.size
 first
  |guard_hyp zT1:Tg 1;obtain ⟨V2,hV2⟩:=eN0 (wix.alloc (.cells #[.string ⟨#[]⟩,.string ⟨#[]⟩,.int .i64 0,.int .i64 0,.int .i64 0,.int .i64 0] 109))
   have hw2:=hs.alloc #[.string ⟨#[]⟩,.string ⟨#[]⟩,.int .i64 0,.int .i64 0,.int .i64 0,.int .i64 0] 109
   have h2:=hs.more (by intro p hp;simp at hp;rcases hp with rfl|rfl<;>simp [Sv]) #[.string ⟨#[]⟩,.string ⟨#[]⟩,.int .i64 0,.int .i64 0,.int .i64 0,.int .i64 0] 109
   skip
  |obtain ⟨V2,hV2⟩:=eN0 (wix.alloc (.cells #[.int .i64 0,.string ⟨#[]⟩,.string ⟨#[]⟩,.slice none 0 0,.slice none 0 0,.slice none 0 0,.slice none 0 0,.int .i64 0,.string ⟨#[]⟩,.string ⟨#[]⟩,.string ⟨#[]⟩,.int .i64 0,.bool false,.int .i64 0,.int .i64 0,.string ⟨#[]⟩] 83))
   have hw2:=hs.alloc #[.int .i64 0,.string ⟨#[]⟩,.string ⟨#[]⟩,.slice none 0 0,.slice none 0 0,.slice none 0 0,.slice none 0 0,.int .i64 0,.string ⟨#[]⟩,.string ⟨#[]⟩,.string ⟨#[]⟩,.int .i64 0,.bool false,.int .i64 0,.int .i64 0,.string ⟨#[]⟩] 83
   have h2:=hs.more (by intro p hp;simp at hp;rcases hp with rfl|rfl<;>simp [Sv]) #[.int .i64 0,.string ⟨#[]⟩,.string ⟨#[]⟩,.slice none 0 0,.slice none 0 0,.slice none 0 0,.slice none 0 0,.int .i64 0,.string ⟨#[]⟩,.string ⟨#[]⟩,.string ⟨#[]⟩,.int .i64 0,.bool false,.int .i64 0,.int .i64 0,.string ⟨#[]⟩] 83
 have hxlX:wix.heap.size≤X:=by rw [hX];exact hs.chg.size
 rw [←hV2,←hX] at hw2 h2
 go_upto_region 8 with (fail)
 rw [←hV2,←hX]
 have HWX:=hI0 hw2
 have HXLX:=hI0 hxlX
 have HB2:Hid (Bl w V2):=hI0 (hw2.below HBWx.out)
 clear hV2 hX hw2 hxlX hs
 go_wp2_with (refine ldR 1 sz_in ag_in (h2.get 0) ?_)
 first
  |guard_hyp zT1:Tg 1;(with_reducible refine (K1 n'x g'x V2 (KV _ (h2.below HB2.out))).mono ?_)
   rintro _ U3 ⟨h0n,h0g,rfl,hb3⟩
   skip
  |(with_reducible refine (K1 V2 (KV _ (h2.below HB2.out))).mono ?_)
   rintro _ U3 ⟨g1,rfl,hb3⟩
 have hc3:=h2.call hb3
 first
  |guard_hyp zT1:Tg 1;go_upto_region 9 with (refine stU 1 24 sz_in (hc3.get 0) rfl ?_;intro V3 hV3 cV3)
  |go_upto_region 9 with (refine stU 1 28 sz_in (hc3.get 0) rfl ?_;intro V3 hV3 cV3)
 have h3:=hc3.store 0 rfl cV3 hV3
 clear h2 hc3 hb3 cV3 hV3
 first
  |guard_hyp zT1:Tg 1;have pp0:=cW1 (v:=.string y1) 4 (h3.get 0) rfl
   have xx0:=cW1 (v:=.string ⟨#[]⟩) 0 (h3.get 2) rfl
  |have pp0:=cW1 (v:=.int .i64 n1) 3 (h3.get 0) rfl
   have xx0:=cW1 (v:=.int .i64 0) 0 (h3.get 2) rfl
 have ff0:=fW0 V3 _ 0 _ _ (h3.get 2)
 go_upto_region 10 with (fail)
 first
  |guard_hyp zT1:Tg 1;have h3p:=h3.put 2 0 (.string y1)
   have h4:=h3p
  |have h3p:=h3.put 2 0 (.int .i64 n1)
   have h4:FR w.heap.size (Sx (Sv w.heap.size 2) X) V2 [(w.heap.size,(inC (.slice bA l.length bc) s1 n1 g1),152),(w.heap.size+1,inZ,152),(X,#[.int .i64 n1,.string ⟨#[]⟩,.string ⟨#[]⟩,.slice none 0 0,.slice none 0 0,.slice none 0 0,.slice none 0 0,.int .i64 0,.string ⟨#[]⟩,.string ⟨#[]⟩,.string ⟨#[]⟩,.int .i64 0,.bool false,.int .i64 0,.int .i64 0,.string ⟨#[]⟩],83)] (V3.setCell ⟨X,0,none⟩ (.int .i64 n1)):=h3p
 clear pp0 xx0 ff0 h3 h3p
 first
  |guard_hyp zT1:Tg 1;generalize (V3.setCell ⟨X,0,none⟩ (.string y1))=V4 at *
  |generalize (V3.setCell ⟨X,0,none⟩ (.int .i64 n1))=V4 at *
 go_wp2_with (refine ldR 1 sz_in ag_in (h4.get 0) ?_)
 first
  |guard_hyp zT1:Tg 1;(with_reducible refine (K2 h0n (h0g.ws y1) V4 (KV _ (h4.below HB2.out))).mono ?_)
   rintro _ U5 ⟨h1n,h1g,rfl,hb5⟩
   skip
  |(with_reducible refine (K2 n1 g1 V4 (KV _ (h4.below HB2.out))).mono ?_)
   rintro _ U5 ⟨nb,g2,rfl,hb5⟩
 have hc5:=h4.call hb5
 first
  |guard_hyp zT1:Tg 1;go_upto_region 11 with (refine stU 1 29 sz_in (hc5.get 0) rfl ?_;intro V5 hV5 cV5)
  |go_upto_region 11 with (refine stU 1 33 sz_in (hc5.get 0) rfl ?_;intro V5 hV5 cV5)
 have h5:=hc5.store 0 rfl cV5 hV5
 clear h4 hc5 hb5 cV5 hV5
 first
  |guard_hyp zT1:Tg 1;have pp0:=cW1 (v:=.string y2) 4 (h5.get 0) rfl
  |have pp0:=cW1 (v:=.string n2) 4 (h5.get 0) rfl
 have xx0:=cW1 (v:=.string ⟨#[]⟩) 1 (h5.get 2) rfl
 have ff0:=fW0 V5 _ 1 _ _ (h5.get 2)
 go_upto_region 12 with (fail)
 first
  |guard_hyp zT1:Tg 1;have h5p:=h5.put 2 1 (.string y2)
   have h6:=h5p
  |have h5p:=h5.put 2 1 (.string n2)
   have h6:FR w.heap.size (Sx (Sv w.heap.size 2) X) V2 [(w.heap.size,(inC (.slice bA l.length bc) s2 nb (g2.ws n2)),152),(w.heap.size+1,inZ,152),(X,#[.int .i64 n1,.string n2,.string ⟨#[]⟩,.slice none 0 0,.slice none 0 0,.slice none 0 0,.slice none 0 0,.int .i64 0,.string ⟨#[]⟩,.string ⟨#[]⟩,.string ⟨#[]⟩,.int .i64 0,.bool false,.int .i64 0,.int .i64 0,.string ⟨#[]⟩],83)] (V5.setCell ⟨X,1,none⟩ (.string n2)):=h5p
 clear pp0 xx0 ff0 h5 h5p
 first
  |guard_hyp zT1:Tg 1;generalize (V5.setCell ⟨X,1,none⟩ (.string y2))=V6 at *
  |generalize (V5.setCell ⟨X,1,none⟩ (.string n2))=V6 at *
 go_wp2_with (refine ldR 1 sz_in ag_in (h6.get 0) ?_)
 first
  |guard_hyp zT1:Tg 1;(with_reducible refine (K3 h1n (h1g.ws y2) V6 (KV _ (h6.below HB2.out))).mono ?_)
   rintro _ U7 ⟨h2n,h2g,rfl,hb7⟩
   skip
  |(with_reducible refine (K3 nb (g2.ws n2) V6 (KV _ (h6.below HB2.out))).mono ?_)
   rintro _ U7 ⟨g3,rfl,hb7⟩
 have hc7:=h6.call hb7
 first
  |guard_hyp zT1:Tg 1;go_upto_region 13 with (refine stU 1 34 sz_in (hc7.get 0) rfl ?_;intro V7 hV7 cV7)
  |go_upto_region 13 with (refine stU 1 38 sz_in (hc7.get 0) rfl ?_;intro V7 hV7 cV7)
 have h7:=hc7.store 0 rfl cV7 hV7
 clear h6 hc7 hb7 cV7 hV7
 first
  |guard_hyp zT1:Tg 1;have pp0:=cW1 (v:=.int .i64 y3) 9 (h7.get 0) rfl
   have pp1:=cW1 (v:=.int .i64 y4) 10 (h7.get 0) rfl
   have xx0:=cW1 (v:=.int .i64 0) 2 (h7.get 2) rfl
   have ff0:=fW0 V7 _ 2 _ _ (h7.get 2)
   have xx1:=cW1 (v:=.int .i64 0) 3 (h7.get 2) rfl
   have ff1:=fW0 V7 _ 3 _ _ (h7.get 2)
  |have pp0:=cW1 (v:=.int .i64 n3) 3 (h7.get 0) rfl
   have xx0:=cW1 (v:=.int .i64 0) 7 (h7.get 2) rfl
   have ff0:=fW0 V7 _ 7 _ _ (h7.get 2)
 go_upto_region 14 with (fail)
 first
  |guard_hyp zT1:Tg 1;have h7p:=h7.put 2 2 (.int .i64 y3)
   have h7pp:=h7p.put 2 3 (.int .i64 y4)
   have h8:=h7pp
   clear pp0 pp1 xx0 ff0 xx1 ff1 h7 h7p h7pp
   generalize ((V7.setCell ⟨X,2,none⟩ (.int .i64 y3)).setCell ⟨X,3,none⟩ (.int .i64 y4))=V8 at *
  |have h7p:=h7.put 2 7 (.int .i64 n3)
   have h8:FR w.heap.size (Sx (Sv w.heap.size 2) X) V2 [(w.heap.size,(inC (.slice bA l.length bc) s3 n3 g3),152),(w.heap.size+1,inZ,152),(X,#[.int .i64 n1,.string n2,.string ⟨#[]⟩,.slice none 0 0,.slice none 0 0,.slice none 0 0,.slice none 0 0,.int .i64 n3,.string ⟨#[]⟩,.string ⟨#[]⟩,.string ⟨#[]⟩,.int .i64 0,.bool false,.int .i64 0,.int .i64 0,.string ⟨#[]⟩],83)] (V7.setCell ⟨X,7,none⟩ (.int .i64 n3)):=h7p
   clear pp0 xx0 ff0 h7 h7p
   generalize (V7.setCell ⟨X,7,none⟩ (.int .i64 n3))=V8 at *
   clear K1 K2 K3
   have q7:=cW1 (v:=.int .i64 n3) 7 (h8.get 2) rfl
   by_cases hk:n3=0
   case pos=>
    subst hk
    have HXT:=hI0 (HX0.out rfl)
    rcases ht:rdTab l s3 with ⟨xt,st'⟩
    have KT:=fun V (hV:RdB V (ltw V) (.slice bA l.length bc) l)=>tabC (.slice bA l.length bc) s3 0 g3 l V hV hl
    rw [ht] at KT HXT
    have HX1:=HXT
    clear ht HXT HX0 HX2
    go_upto_region 15 with (fail)
    clear q7
    have hy:FR w.heap.size (Sx (Sv w.heap.size 2) X) V2 [(w.heap.size,(inC (.slice bA l.length bc) s3 0 g3),152),(w.heap.size+1,inZ,152),(X,#[.int .i64 n1,.string n2,.string ⟨#[]⟩,.slice none 0 0,.slice none 0 0,.slice none 0 0,.slice none 0 0,.int .i64 0,.string ⟨#[]⟩,.string ⟨#[]⟩,.string ⟨#[]⟩,.int .i64 0,.bool false,.int .i64 0,.int .i64 0,.string ⟨#[]⟩],83)] V8:=h8
    clear h8
    go_wp2_with (refine ldR 1 sz_in ag_in (hy.get 0) ?_)
    (with_reducible refine (KT V8 (KV _ (hy.below HB2.out))).mono ?_)
    rintro _ V2 ⟨n5,g5,x,rfl,hX,hxe,hb2⟩
    obtain ⟨tn,tA1,tc1,tl1,tA2,tc2,tl2,tA3,tc3,tl3,tA4,tc4,tl4⟩:=x
    have hc:=hy.call hb2
    have hpre:=hI0 hc
    have HSC:=hI0 hy.chg.size
    have HSL:=hI0 (fun i hi=>(hy.lts.1 i hi).2)
    have HBc:=hI0 (hc.below HB2.out)
    have hst:=hc.start (by intro p hp;simp at hp;rcases hp with rfl|rfl|rfl<;>simp [Sv,Sx])
    have ha:=hst.alloc2 inZ #[.string ⟨#[]⟩,.slice none 0 0,.slice none 0 0,.slice none 0 0,.slice none 0 0] 152 75
    have HX:=hI0 hX
    have HXE:=hI0 hxe
    clear hX hxe hb2 hc hst
    go_upto_region 16 with (first|(refine stU 8 50 sz_in (ha.get 3) rfl ?_;intro Va hVa cVa)|(refine stU (vs:=#[.string tn,.slice tA1 tl1.length tc1,.slice tA2 tl2.length tc2,.slice tA3 tl3.length tc3,.slice tA4 tl4.length tc4]) 9 51 sz_rtab ((ha.store 3 rfl cVa hVa).get 4) rfl ?_;intro Vb hVb cVb))
    have hb:=(ha.store 3 rfl cVa hVa).store 4 rfl cVb hVb
    clear ha cVa hVa cVb hVb
    go_upto_region 17 with (first|(refine ldR 8 sz_in ag_in (hb.get 3) ?_)|(refine stU 1 52 sz_in (hb.get 0) rfl ?_;intro Vc hVc cVc))
    have hd:=hb.store 0 rfl cVc hVc
    clear hb cVc hVc hy
    have xx2:=cW1 (v:=.string ⟨#[]⟩) 2 (hd.get 2) rfl
    have ff2:=fW0 Vc _ 2 _ _ (hd.get 2)
    have xx3:=cW1 (v:=.slice none 0 0) 3 (hd.get 2) rfl
    have ff3:=fW0 Vc _ 3 _ _ (hd.get 2)
    have xx4:=cW1 (v:=.slice none 0 0) 4 (hd.get 2) rfl
    have ff4:=fW0 Vc _ 4 _ _ (hd.get 2)
    have xx5:=cW1 (v:=.slice none 0 0) 5 (hd.get 2) rfl
    have ff5:=fW0 Vc _ 5 _ _ (hd.get 2)
    have xx6:=cW1 (v:=.slice none 0 0) 6 (hd.get 2) rfl
    have ff6:=fW0 Vc _ 6 _ _ (hd.get 2)
    go_upto_region 27 with (refine ldR 9 sz_rtab ag_rtab (hd.get 4) ?_)
    have hdp:=hd.put 2 2 (.string tn)
    have hdpp:=hdp.put 2 3 (.slice tA1 tl1.length tc1)
    have hdppp:=hdpp.put 2 4 (.slice tA2 tl2.length tc2)
    have hdpppp:=hdppp.put 2 5 (.slice tA3 tl3.length tc3)
    have hdppppp:=hdpppp.put 2 6 (.slice tA4 tl4.length tc4)
    have h9:FR w.heap.size (Sx (Sv w.heap.size 2) X) V2 [(w.heap.size,(inC (.slice bA l.length bc) st' n5 g5),152),(w.heap.size+1,inZ,152),(X,#[.int .i64 n1,.string n2,.string tn,.slice tA1 tl1.length tc1,.slice tA2 tl2.length tc2,.slice tA3 tl3.length tc3,.slice tA4 tl4.length tc4,.int .i64 0,.string ⟨#[]⟩,.string ⟨#[]⟩,.string ⟨#[]⟩,.int .i64 0,.bool false,.int .i64 0,.int .i64 0,.string ⟨#[]⟩],83),(V2.heap.size,(inC (.slice bA l.length bc) st' n5 g5),152),(V2.heap.size+1,#[.string tn,.slice tA1 tl1.length tc1,.slice tA2 tl2.length tc2,.slice tA3 tl3.length tc3,.slice tA4 tl4.length tc4],75)] (((((Vc.setCell ⟨X,2,none⟩ (.string tn)).setCell ⟨X,3,none⟩ (.slice tA1 tl1.length tc1)).setCell ⟨X,4,none⟩ (.slice tA2 tl2.length tc2)).setCell ⟨X,5,none⟩ (.slice tA3 tl3.length tc3)).setCell ⟨X,6,none⟩ (.slice tA4 tl4.length tc4)):=hdppppp
    clear xx2 ff2 xx3 ff3 xx4 ff4 xx5 ff5 xx6 ff6 hd hdp hdpp hdppp hdpppp hdppppp
    generalize (((((Vc.setCell ⟨X,2,none⟩ (.string tn)).setCell ⟨X,3,none⟩ (.slice tA1 tl1.length tc1)).setCell ⟨X,4,none⟩ (.slice tA2 tl2.length tc2)).setCell ⟨X,5,none⟩ (.slice tA3 tl3.length tc3)).setCell ⟨X,6,none⟩ (.slice tA4 tl4.length tc4))=V9 at *
    have HK:=hI0 (HWX.out.outer (hpre.out.trans h9) (fun i hi hs=>hs.elim id (fun e=>by have:=HXLX.out;omega)))
    have HOA:=hI0 (HI_x.out.row (O:=(.cells #[.int .i64 n1,.string n2,.string tn,.slice tA1 tl1.length tc1,.slice tA2 tl2.length tc2,.slice tA3 tl3.length tc3,.slice tA4 tl4.length tc4,.int .i64 0,.string ⟨#[]⟩,.string ⟨#[]⟩,.string ⟨#[]⟩,.int .i64 0,.bool false,.int .i64 0,.int .i64 0,.string ⟨#[]⟩] 83)) HK.out)
    have HNEW:=hI0 (Rd.new' V9 V9.heap.size rfl [.int .i64 n1,.string n2,.string tn,.slice tA1 tl1.length tc1,.slice tA2 tl2.length tc2,.slice tA3 tl3.length tc3,.slice tA4 tl4.length tc4,.int .i64 0,.string ⟨#[]⟩,.string ⟨#[]⟩,.string ⟨#[]⟩,.int .i64 0,.bool false,.int .i64 0,.int .i64 0,.string ⟨#[]⟩] 83 16 1 rfl (by decide))
    have hz9:V1.heap.size≤V9.heap.size:=Nat.le_trans HI_x.out.fr.chg.size HK.out.chg.size
    have hi5:Qx.length≤1048577:=by have:=HPx.out.lenb;omega
    have HIX:=hI0 (And.intro (FR.isK (IS:=tabIs) (d':=wix.heap.size) (x:=(⟨tn,tA1,tc1,tl1,tA2,tc2,tl2,tA3,tc3,tl3,tA4,tc4,tl4⟩:RTab)) h9 isK_Tab HX.out (Nat.le_trans HWX.out.chg.size HSC.out) HSL.out) goV_zero)
    go_wp2_with (first|(refine ldR 7 sz_ent ag_ent (h9.get 2) ?_)|(at_builtin;refine wpList_append_app (V9.alloc (.cells #[.int .i64 n1,.string n2,.string tn,.slice tA1 tl1.length tc1,.slice tA2 tl2.length tc2,.slice tA3 tl3.length tc3,.slice tA4 tl4.length tc4,.int .i64 0,.string ⟨#[]⟩,.string ⟨#[]⟩,.string ⟨#[]⟩,.int .i64 0,.bool false,.int .i64 0,.int .i64 0,.string ⟨#[]⟩] 83)) rfl (.tmp 82) (.tmp 84) 22 rfl V1.heap.size 83 i0 _ 16 240 underlying22 HI.out HZ0.out HZ1.out HZ2.out rfl (by omega) (.slice Aox Qx.length cox) Qx.length (Qx.flatMap REn.enc) rfl (.inl HOA.out) (·=V9.heap.size) _ 1 [.int .i64 n1,.string n2,.string tn,.slice tA1 tl1.length tc1,.slice tA2 tl2.length tc2,.slice tA3 tl3.length tc3,.slice tA4 tl4.length tc4,.int .i64 0,.string ⟨#[]⟩,.string ⟨#[]⟩,.string ⟨#[]⟩,.int .i64 0,.bool false,.int .i64 0,.int .i64 0,.string ⟨#[]⟩] rfl HNEW.out (fun u hu=>by simp only [List.mem_cons,List.not_mem_nil,or_false] at hu;rcases hu with rfl|rfl|rfl|rfl|rfl|rfl|rfl|rfl|rfl|rfl|rfl|rfl|rfl|rfl|rfl|rfl<;>rfl) (by unfold maxLen;omega) (by omega) (by simp;omega) ?_;intro v3 w3 _ hO3 hg3 hb3 hv3))
    have HL2:=hI0 ((HI_x.out.step (x:=(⟨n1,n2,⟨tn,tA1,tc1,tl1,tA2,tc2,tl2,tA3,tc3,tl3,tA4,tc4,tl4⟩,⟨0,⟨#[]⟩,⟨#[]⟩,⟨#[]⟩,0,false,⟨0,0,⟨#[]⟩⟩⟩⟩:REn)) isK_En HK.out HIX.out (hO3 (.inl (by omega))) hg3 hv3).take 2)
    clear hO3 hg3 hb3 hv3
    go_wp2_with fail
    go_roundw
    case rel=>exact ⟨Qx++[(⟨n1,n2,⟨tn,tA1,tc1,tl1,tA2,tc2,tl2,tA3,tc3,tl3,tA4,tc4,tl4⟩,⟨0,⟨#[]⟩,⟨#[]⟩,⟨#[]⟩,0,false,⟨0,0,⟨#[]⟩⟩⟩⟩:REn)],st',n5,g5,by simp,hI0 HL2.out,hI0 (HPx.out.step mon_Ent ⟨hgo.1,rfl⟩ HX1.out (by have h:=HXE.out;simp only [REn.er,h];rfl))⟩
    case measure=>have:=hgo.1;simp [intOf];omega
   have hk2:(n3==0)=false:=by simpa using hk
   rcases h5:rdT l s3 with ⟨n5,s5⟩
   rcases h6:rdT l s5 with ⟨n6,s6⟩
   rcases h7:rdCol l s6 with ⟨⟨cn,ck,cb⟩,s7⟩
   rcases h8:rdV l s7 with ⟨⟨dk,di,dt⟩,st'⟩
   have hg8:goV ⟨dk,di,dt⟩:=by
    have e:(⟨dk,di,dt⟩:Val)=(rdV l s7).1:=by rw [h8]
    rw [e];exact rdV_goV l s7
   have HG8:=hI0 hg8
   have hch:rdChn l n3 s3=(⟨n3,n5,n6,cn,ck,cb,⟨dk,di,dt⟩⟩,st'):=by unfold rdChn;simp only [h5,h6,h7,h8]
   have HX1:=hI0 (HX2.out hk)
   rw [hch] at HX1
   have K5:=fun n g V (hV:RdB V (ltw V) (.slice bA l.length bc) l)=>textC (.slice bA l.length bc) s3 n g l V hV
   have K6:=fun n g V (hV:RdB V (ltw V) (.slice bA l.length bc) l)=>textC (.slice bA l.length bc) s5 n g l V hV
   have K7:=fun n g V (hV:RdB V (ltw V) (.slice bA l.length bc) l)=>colC (.slice bA l.length bc) s6 n g l V hV
   have K8:=fun n g V (hV:RdB V (ltw V) (.slice bA l.length bc) l)=>valueC (.slice bA l.length bc) s7 n g l V hV
   rw [h5] at K5
   rw [h6] at K6
   rw [h7] at K7
   rw [h8] at K8
   clear h5 h6 h7 h8 hch hg8 HX0 HX2
   go_upto_region 18 with (fail)
   clear q7 hk2
 go_wp2_with (refine ldR 1 sz_in ag_in (h8.get 0) ?_)
 first
  |guard_hyp zT1:Tg 1;(with_reducible refine (K4 h2n (h2g.wp (y3,y4)) V8 (KV _ (h8.below HB2.out))).mono ?_)
   rintro _ U9 ⟨h3n,h3g,rfl,hb9⟩
   skip
  |(with_reducible refine (K5 n3 g3 V8 (KV _ (h8.below HB2.out))).mono ?_)
   rintro _ U9 ⟨m5,g5,rfl,hb9⟩
 have hc9:=h8.call hb9
 first
  |guard_hyp zT1:Tg 1;go_upto_region 15 with (refine stU 1 40 sz_in (hc9.get 0) rfl ?_;intro V9 hV9 cV9)
  |go_upto_region 19 with (refine stU 1 56 sz_in (hc9.get 0) rfl ?_;intro V9 hV9 cV9)
 have h9:=hc9.store 0 rfl cV9 hV9
 clear h8 hc9 hb9 cV9 hV9
 first
  |guard_hyp zT1:Tg 1;have pp0:=cW1 (v:=.int .i64 y5) 9 (h9.get 0) rfl
   have pp1:=cW1 (v:=.int .i64 y6) 10 (h9.get 0) rfl
   have xx0:=cW1 (v:=.int .i64 0) 4 (h9.get 2) rfl
   have ff0:=fW0 V9 _ 4 _ _ (h9.get 2)
   have xx1:=cW1 (v:=.int .i64 0) 5 (h9.get 2) rfl
   have ff1:=fW0 V9 _ 5 _ _ (h9.get 2)
   go_upto_region 16 with (fail)
   have h9p:=h9.put 2 4 (.int .i64 y5)
   have h9pp:=h9p.put 2 5 (.int .i64 y6)
   have h10:=h9pp
   clear pp0 pp1 xx0 ff0 xx1 ff1 h9 h9p h9pp
   generalize ((V9.setCell ⟨X,4,none⟩ (.int .i64 y5)).setCell ⟨X,5,none⟩ (.int .i64 y6))=V10 at *
   have HK:=hI0 (HWX.out.outer h10 (fun i hi hs=>hs.elim id (fun e=>by have:=HXLX.out;omega)))
   have HOA:=hI0 (HI_x.out.row (O:=(.cells #[.string y1,.string y2,.int .i64 y3,.int .i64 y4,.int .i64 y5,.int .i64 y6] 109)) HK.out)
   have HNEW:=hI0 (Rd.new' V10 V10.heap.size rfl [.string y1,.string y2,.int .i64 y3,.int .i64 y4,.int .i64 y5,.int .i64 y6] 109 6 1 rfl (by decide))
   have hz9:V1.heap.size≤V10.heap.size:=Nat.le_trans HI_x.out.fr.chg.size HK.out.chg.size
  |have pp0:=cW1 (v:=.string n5) 4 (h9.get 0) rfl
   have xx0:=cW1 (v:=.string ⟨#[]⟩) 8 (h9.get 2) rfl
   have ff0:=fW0 V9 _ 8 _ _ (h9.get 2)
   go_upto_region 20 with (fail)
   have h9p:=h9.put 2 8 (.string n5)
   have h10:FR w.heap.size (Sx (Sv w.heap.size 2) X) V2 [(w.heap.size,(inC (.slice bA l.length bc) s5 m5 (g5.ws n5)),152),(w.heap.size+1,inZ,152),(X,#[.int .i64 n1,.string n2,.string ⟨#[]⟩,.slice none 0 0,.slice none 0 0,.slice none 0 0,.slice none 0 0,.int .i64 n3,.string n5,.string ⟨#[]⟩,.string ⟨#[]⟩,.int .i64 0,.bool false,.int .i64 0,.int .i64 0,.string ⟨#[]⟩],83)] (V9.setCell ⟨X,8,none⟩ (.string n5)):=h9p
   clear pp0 xx0 ff0 h9 h9p
   generalize (V9.setCell ⟨X,8,none⟩ (.string n5))=V10 at *
   go_wp2_with (refine ldR 1 sz_in ag_in (h10.get 0) ?_)
   (with_reducible refine (K6 m5 (g5.ws n5) V10 (KV _ (h10.below HB2.out))).mono ?_)
   rintro _ U11 ⟨m6,g6,rfl,hb11⟩
   have hc11:=h10.call hb11
   go_upto_region 21 with (refine stU 1 62 sz_in (hc11.get 0) rfl ?_;intro V11 hV11 cV11)
   have h11:=hc11.store 0 rfl cV11 hV11
   clear h10 hc11 hb11 cV11 hV11
   have pp0:=cW1 (v:=.string n6) 4 (h11.get 0) rfl
   have xx0:=cW1 (v:=.string ⟨#[]⟩) 9 (h11.get 2) rfl
   have ff0:=fW0 V11 _ 9 _ _ (h11.get 2)
   go_upto_region 22 with (fail)
   have h11p:=h11.put 2 9 (.string n6)
   have h12:FR w.heap.size (Sx (Sv w.heap.size 2) X) V2 [(w.heap.size,(inC (.slice bA l.length bc) s6 m6 (g6.ws n6)),152),(w.heap.size+1,inZ,152),(X,#[.int .i64 n1,.string n2,.string ⟨#[]⟩,.slice none 0 0,.slice none 0 0,.slice none 0 0,.slice none 0 0,.int .i64 n3,.string n5,.string n6,.string ⟨#[]⟩,.int .i64 0,.bool false,.int .i64 0,.int .i64 0,.string ⟨#[]⟩],83)] (V11.setCell ⟨X,9,none⟩ (.string n6)):=h11p
   clear pp0 xx0 ff0 h11 h11p
   generalize (V11.setCell ⟨X,9,none⟩ (.string n6))=V12 at *
   go_wp2_with (refine ldR 1 sz_in ag_in (h12.get 0) ?_)
   (with_reducible refine (K7 m6 (g6.ws n6) V12 (KV _ (h12.below HB2.out))).mono ?_)
   rintro _ V2 ⟨m7,g7,x,rfl,hX,hxe,hb2⟩
   have hxf:=hxe
   obtain rfl:x=⟨cn,ck,cb⟩:=hxf
   have hc:=h12.call hb2
   have hpre:=hI0 hc
   have HSC:=hI0 h12.chg.size
   have HSL:=hI0 (fun i hi=>(h12.lts.1 i hi).2)
   have HBc:=hI0 (hc.below HB2.out)
   have hst:=hc.start (by intro p hp;simp at hp;rcases hp with rfl|rfl|rfl<;>simp [Sv,Sx])
   have ha:=hst.alloc2 inZ #[.string ⟨#[]⟩,.int .i64 0,.bool false] 152 77
   have HX:=hI0 hX
   have HXE:=hI0 hxe
   clear hX hxe hb2 hc hst
   go_upto_region 23 with (first|(refine stU 10 70 sz_in (ha.get 3) rfl ?_;intro Va hVa cVa)|(refine stU (vs:=#[.string cn,.int .i64 ck,.bool cb]) 11 71 sz_rcol ((ha.store 3 rfl cVa hVa).get 4) rfl ?_;intro Vb hVb cVb))
   have hb:=(ha.store 3 rfl cVa hVa).store 4 rfl cVb hVb
   clear ha cVa hVa cVb hVb
   go_upto_region 24 with (first|(refine ldR 10 sz_in ag_in (hb.get 3) ?_)|(refine stU 1 72 sz_in (hb.get 0) rfl ?_;intro Vc hVc cVc))
   have hd:=hb.store 0 rfl cVc hVc
   clear hb cVc hVc h12
   have xx10:=cW1 (v:=.string ⟨#[]⟩) 10 (hd.get 2) rfl
   have ff10:=fW0 Vc _ 10 _ _ (hd.get 2)
   have xx11:=cW1 (v:=.int .i64 0) 11 (hd.get 2) rfl
   have ff11:=fW0 Vc _ 11 _ _ (hd.get 2)
   have xx12:=cW1 (v:=.bool false) 12 (hd.get 2) rfl
   have ff12:=fW0 Vc _ 12 _ _ (hd.get 2)
   go_upto_region 25 with (refine ldR 11 sz_rcol ag_rcol (hd.get 4) ?_)
   have hdp:=hd.put 2 10 (.string cn)
   have hdpp:=hdp.put 2 11 (.int .i64 ck)
   have hdppp:=hdpp.put 2 12 (.bool cb)
   have h13:FR w.heap.size (Sx (Sv w.heap.size 2) X) V2 [(w.heap.size,(inC (.slice bA l.length bc) s7 m7 g7),152),(w.heap.size+1,inZ,152),(X,#[.int .i64 n1,.string n2,.string ⟨#[]⟩,.slice none 0 0,.slice none 0 0,.slice none 0 0,.slice none 0 0,.int .i64 n3,.string n5,.string n6,.string cn,.int .i64 ck,.bool cb,.int .i64 0,.int .i64 0,.string ⟨#[]⟩],83),(V2.heap.size,(inC (.slice bA l.length bc) s7 m7 g7),152),(V2.heap.size+1,#[.string cn,.int .i64 ck,.bool cb],77)] (((Vc.setCell ⟨X,10,none⟩ (.string cn)).setCell ⟨X,11,none⟩ (.int .i64 ck)).setCell ⟨X,12,none⟩ (.bool cb)):=hdppp
   clear xx10 ff10 xx11 ff11 xx12 ff12 hd hdp hdpp hdppp
   generalize (((Vc.setCell ⟨X,10,none⟩ (.string cn)).setCell ⟨X,11,none⟩ (.int .i64 ck)).setCell ⟨X,12,none⟩ (.bool cb))=V13 at *
   go_wp2_with (refine ldR 1 sz_in ag_in (h13.get 0) ?_)
   (with_reducible refine (K8 m7 g7 V13 (KV _ (h13.below HBc.out))).mono ?_)
   rintro _ U14 ⟨m8,g8,rfl,hb14⟩
   have hc14:=h13.call hb14
   go_upto_region 26 with (refine stU 1 77 sz_in (hc14.get 0) rfl ?_;intro V14 hV14 cV14)
   have h14:=hc14.store 0 rfl cV14 hV14
   clear h13 hc14 hb14 cV14 hV14
   have pp0:=cW1 (v:=.int .i64 dk) 5 (h14.get 0) rfl
   have pp1:=cW1 (v:=.int .i64 di) 6 (h14.get 0) rfl
   have pp2:=cW1 (v:=.string dt) 7 (h14.get 0) rfl
   have xx0:=cW1 (v:=.int .i64 0) 13 (h14.get 2) rfl
   have ff0:=fW0 V14 _ 13 _ _ (h14.get 2)
   have xx1:=cW1 (v:=.int .i64 0) 14 (h14.get 2) rfl
   have ff1:=fW0 V14 _ 14 _ _ (h14.get 2)
   have xx2:=cW1 (v:=.string ⟨#[]⟩) 15 (h14.get 2) rfl
   have ff2:=fW0 V14 _ 15 _ _ (h14.get 2)
   go_upto_region 27 with (fail)
   have h14p:=h14.put 2 13 (.int .i64 dk)
   have h14pp:=h14p.put 2 14 (.int .i64 di)
   have h14ppp:=h14pp.put 2 15 (.string dt)
   have h15:FR w.heap.size (Sx (Sv w.heap.size 2) X) V2 [(w.heap.size,(inC (.slice bA l.length bc) st' m8 (g8.wv ⟨dk,di,dt⟩)),152),(w.heap.size+1,inZ,152),(X,#[.int .i64 n1,.string n2,.string ⟨#[]⟩,.slice none 0 0,.slice none 0 0,.slice none 0 0,.slice none 0 0,.int .i64 n3,.string n5,.string n6,.string cn,.int .i64 ck,.bool cb,.int .i64 dk,.int .i64 di,.string dt],83),(V2.heap.size,(inC (.slice bA l.length bc) s7 m7 g7),152),(V2.heap.size+1,#[.string cn,.int .i64 ck,.bool cb],77)] (((V14.setCell ⟨X,13,none⟩ (.int .i64 dk)).setCell ⟨X,14,none⟩ (.int .i64 di)).setCell ⟨X,15,none⟩ (.string dt)):=h14ppp
   clear pp0 pp1 pp2 xx0 ff0 xx1 ff1 xx2 ff2 h14 h14p h14pp h14ppp
   generalize (((V14.setCell ⟨X,13,none⟩ (.int .i64 dk)).setCell ⟨X,14,none⟩ (.int .i64 di)).setCell ⟨X,15,none⟩ (.string dt))=V15 at *
   have HK:=hI0 (HWX.out.outer (hpre.out.trans h15) (fun i hi hs=>hs.elim id (fun e=>by have:=HXLX.out;omega)))
   have HOA:=hI0 (HI_x.out.row (O:=(.cells #[.int .i64 n1,.string n2,.string ⟨#[]⟩,.slice none 0 0,.slice none 0 0,.slice none 0 0,.slice none 0 0,.int .i64 n3,.string n5,.string n6,.string cn,.int .i64 ck,.bool cb,.int .i64 dk,.int .i64 di,.string dt] 83)) HK.out)
   have HNEW:=hI0 (Rd.new' V15 V15.heap.size rfl [.int .i64 n1,.string n2,.string ⟨#[]⟩,.slice none 0 0,.slice none 0 0,.slice none 0 0,.slice none 0 0,.int .i64 n3,.string n5,.string n6,.string cn,.int .i64 ck,.bool cb,.int .i64 dk,.int .i64 di,.string dt] 83 16 1 rfl (by decide))
   have hz9:V1.heap.size≤V15.heap.size:=Nat.le_trans HI_x.out.fr.chg.size HK.out.chg.size
 have hi5:Qx.length≤1048577:=by have:=HPx.out.lenb;omega
 first
  |guard_hyp zT1:Tg 1;have HIX:=hI0 trivial
   go_wp2_with (first|(refine ldR 7 sz_rhld ag_rhld (h10.get 2) ?_)|(at_builtin;refine wpList_append_app (V10.alloc (.cells #[.string y1,.string y2,.int .i64 y3,.int .i64 y4,.int .i64 y5,.int .i64 y6] 109)) rfl (.tmp 45) (.tmp 47) 24 rfl V1.heap.size 109 i0 _ 6 64 underlying24 HI.out HZ0.out HZ1.out HZ2.out rfl (by omega) (.slice Aox Qx.length cox) Qx.length (Qx.flatMap Hld.enc) rfl (.inl HOA.out) (·=V10.heap.size) _ 1 [.string y1,.string y2,.int .i64 y3,.int .i64 y4,.int .i64 y5,.int .i64 y6] rfl HNEW.out (fun u hu=>by simp only [List.mem_cons,List.not_mem_nil,or_false] at hu;rcases hu with rfl|rfl|rfl|rfl|rfl|rfl<;>rfl) (by unfold maxLen;omega) (by omega) (by simp;omega) ?_;intro v3 w3 _ hO3 hg3 hb3 hv3))
   have HL2:=hI0 ((HI_x.out.step (x:=(⟨y1,y2,y3,y4,y5,y6⟩:Hld)) isK_T HK.out HIX.out (hO3 (.inl (by omega))) hg3 hv3).take 2)
  |have HIX:=hI0 (show enIs V15 (fun b=>wix.heap.size≤b∧b<V15.heap.size) (⟨n1,n2,RTab.none_,⟨n3,n5,n6,cn,ck,cb,⟨dk,di,dt⟩⟩⟩:REn) from ⟨tabIs_none _ _,HG8.out⟩)
   go_wp2_with (first|(refine ldR 7 sz_ent ag_ent (h15.get 2) ?_)|(at_builtin;refine wpList_append_app (V15.alloc (.cells #[.int .i64 n1,.string n2,.string ⟨#[]⟩,.slice none 0 0,.slice none 0 0,.slice none 0 0,.slice none 0 0,.int .i64 n3,.string n5,.string n6,.string cn,.int .i64 ck,.bool cb,.int .i64 dk,.int .i64 di,.string dt] 83)) rfl (.tmp 82) (.tmp 84) 22 rfl V1.heap.size 83 i0 _ 16 240 underlying22 HI.out HZ0.out HZ1.out HZ2.out rfl (by omega) (.slice Aox Qx.length cox) Qx.length (Qx.flatMap REn.enc) rfl (.inl HOA.out) (·=V15.heap.size) _ 1 [.int .i64 n1,.string n2,.string ⟨#[]⟩,.slice none 0 0,.slice none 0 0,.slice none 0 0,.slice none 0 0,.int .i64 n3,.string n5,.string n6,.string cn,.int .i64 ck,.bool cb,.int .i64 dk,.int .i64 di,.string dt] rfl HNEW.out (fun u hu=>by simp only [List.mem_cons,List.not_mem_nil,or_false] at hu;rcases hu with rfl|rfl|rfl|rfl|rfl|rfl|rfl|rfl|rfl|rfl|rfl|rfl|rfl|rfl|rfl|rfl<;>rfl) (by unfold maxLen;omega) (by omega) (by simp;omega) ?_;intro v3 w3 _ hO3 hg3 hb3 hv3))
   have HL2:=hI0 ((HI_x.out.step (x:=(⟨n1,n2,RTab.none_,⟨n3,n5,n6,cn,ck,cb,⟨dk,di,dt⟩⟩⟩:REn)) isK_En HK.out HIX.out (hO3 (.inl (by omega))) hg3 hv3).take 2)
 clear hO3 hg3 hb3 hv3
 go_wp2_with fail
 go_roundw
 first
  |guard_hyp zT1:Tg 1
   case rel=>exact ⟨Qx++[(⟨y1,y2,y3,y4,y5,y6⟩:Hld)],st',h3n,(h3g.wp (y5,y6)),by simp,hI0 HL2.out,hI0 (HPx.out.step mon_Hld ⟨hgo.1,rfl⟩ HX1.out rfl)⟩
  |case rel=>exact ⟨Qx++[(⟨n1,n2,RTab.none_,⟨n3,n5,n6,cn,ck,cb,⟨dk,di,dt⟩⟩⟩:REn)],st',m8,(g8.wv ⟨dk,di,dt⟩),by simp,hI0 HL2.out,hI0 (HPx.out.step mon_Ent ⟨hgo.1,rfl⟩ HX1.out rfl)⟩
 case measure=>have:=hgo.1;simp [intOf];omega) : P := h ⟨⟩
theorem sz_rcol (w:World):(Go.sizeOf 77).run prog w=.ok 3 w:=by simp [go_sem]
theorem ag_rcol (w:World):(isAgg 77).run prog w=.ok true w:=by simp [isAgg,go_sem]
theorem colC (b:Value) (s:Int×Int) (n:Int) (g:InR) (l:List UInt8) (w:World) (hv:RdB w (ltw w) b l):Calls prog 173 #[.agg (inC b s n g)] w (RIx b (fun x:RCol=>.agg x.enc.toArray) isT id (rdCol l s) w):=by
 obtain ⟨bA,bc,rfl,y1,y2,y3⟩:=Rd.open_ hv
 obtain ⟨W,hW⟩:=eN0 ((((w.alloc (.cells (inC (.slice bA l.length bc) s n g) 152)).alloc (.cells #[.slice none 0 0,.int .i64 0,.int .i64 0,.int .i64 0,.string ⟨#[]⟩,.int .i64 0,.int .i64 0,.string ⟨#[]⟩,.slice none 0 0,.int .i64 0,.int .i64 0,.slice none 0 0] 152)).alloc (.cells #[.string ⟨#[]⟩,.int .i64 0,.bool false] 77)).alloc (.cells #[.string ⟨#[]⟩,.int .i64 0,.bool false] 77))
 have hi:=FR.init w (inC (.slice bA l.length bc) s n g) inZ 152
 have hj:=(hi.1.init_more (by simp) #[.string ⟨#[]⟩,.int .i64 0,.bool false] 77).init_more (by simp) #[.string ⟨#[]⟩,.int .i64 0,.bool false] 77
 have h:FR w.heap.size (Sv w.heap.size 4) W [(w.heap.size,(inC (.slice bA l.length bc) s n g),152),(w.heap.size+1,inZ,152),(w.heap.size+2,#[.string ⟨#[]⟩,.int .i64 0,.bool false],77),(w.heap.size+3,#[.string ⟨#[]⟩,.int .i64 0,.bool false],77)] W:=by rw [hW];exact hj
 have hbW:Bl w W:=by rw [hW];exact (hi.2.alloc (by simp;omega) _).alloc (by simp;omega) _
 clear hi hj
 have KV:∀V,Bl w V→RdB V (ltw V) (.slice bA l.length bc) l:=fun V hb=>hv.below hb
 have HB:=hI0 hbW
 clear hv hbW
 rcases h1:rdT l s with ⟨x1,s1⟩
 rcases h2:rdI l s1 with ⟨x2,s2⟩
 rcases h3:flagF l s2 with ⟨x3,s3⟩
 have hd:rdCol l s=(⟨x1,x2,x3==1⟩,s3):=by
  have k:=flagF_bool l s2
  rw [h3] at k
  have e:(x3==1)=decide (x3=1):=rfl
  simp only [rdCol,h1,h2,k.1,k.2,e]
 rw [hd]
 have K1:=fun V (hV:RdB V (ltw V) (.slice bA l.length bc) l)=>textC (.slice bA l.length bc) s n g l V hV
 have K2:=fun n g V (hV:RdB V (ltw V) (.slice bA l.length bc) l)=>numC (.slice bA l.length bc) s1 n g l V hV
 have K3:=fun n g V (hV:RdB V (ltw V) (.slice bA l.length bc) l)=>flagC (.slice bA l.length bc) s2 n g l V hV
 rw [h1] at K1
 rw [h2] at K2
 rw [h3] at K3
 clear hd h1 h2 h3
 go_in
 go_upto_region 2 with (fail)
 rw [←hW]
 clear hW
 go_wp2_with (refine ldR 1 sz_in ag_in (h.get 0) ?_)
 (with_reducible refine (K1 W (KV _ (h.below HB.out))).mono ?_)
 rintro _ U1 ⟨n1,g1,rfl,hb1⟩
 have hc1:=h.call hb1
 go_upto_region 3 with (refine stU 1 7 sz_in (hc1.get 0) rfl ?_;intro V1 hV1 cV1)
 have h1:=hc1.store 0 rfl cV1 hV1
 clear h hc1 hb1 cV1 hV1
 have pp0:=cW1 (v:=.string x1) 4 (h1.get 0) rfl
 have xx0:=cW1 (v:=.string ⟨#[]⟩) 0 (h1.get 3) rfl
 have ff0:=fW0 V1 _ 0 _ _ (h1.get 3)
 go_upto_region 4 with (fail)
 have h1p:=h1.put 3 0 (.string x1)
 have h2:=h1p
 clear pp0 xx0 ff0 h1 h1p
 generalize (V1.setCell ⟨w.heap.size+3,0,none⟩ (.string x1))=V2 at *
 go_wp2_with (refine ldR 1 sz_in ag_in (h2.get 0) ?_)
 (with_reducible refine (K2 n1 (g1.ws x1) V2 (KV _ (h2.below HB.out))).mono ?_)
 rintro _ U3 ⟨g2,rfl,hb3⟩
 have hc3:=h2.call hb3
 go_upto_region 5 with (refine stU 1 12 sz_in (hc3.get 0) rfl ?_;intro V3 hV3 cV3)
 have h3:=hc3.store 0 rfl cV3 hV3
 clear h2 hc3 hb3 cV3 hV3
 have pp0:=cW1 (v:=.int .i64 x2) 3 (h3.get 0) rfl
 have xx0:=cW1 (v:=.int .i64 0) 1 (h3.get 3) rfl
 have ff0:=fW0 V3 _ 1 _ _ (h3.get 3)
 go_upto_region 6 with (fail)
 have h3p:=h3.put 3 1 (.int .i64 x2)
 have h4:=h3p
 clear pp0 xx0 ff0 h3 h3p
 generalize (V3.setCell ⟨w.heap.size+3,1,none⟩ (.int .i64 x2))=V4 at *
 go_wp2_with (refine ldR 1 sz_in ag_in (h4.get 0) ?_)
 (with_reducible refine (K3 x2 g2 V4 (KV _ (h4.below HB.out))).mono ?_)
 rintro _ U5 ⟨g3,rfl,hb5⟩
 have hc5:=h4.call hb5
 go_upto_region 7 with (refine stU 1 17 sz_in (hc5.get 0) rfl ?_;intro V5 hV5 cV5)
 have h5:=hc5.store 0 rfl cV5 hV5
 clear h4 hc5 hb5 cV5 hV5
 have pp0:=cW1 (v:=.int .i64 x3) 3 (h5.get 0) rfl
 have xx0:=cW1 (v:=.bool false) 2 (h5.get 3) rfl
 have ff0:=fW0 V5 _ 2 _ _ (h5.get 3)
 go_upto_region 8 with (fail)
 have h5p:=h5.put 3 2 (.bool (x3==1))
 have h6:=h5p
 clear pp0 xx0 ff0 h5 h5p
 generalize (V5.setCell ⟨w.heap.size+3,2,none⟩ (.bool (x3==1)))=V6 at *
 have H0:=hI0 h6
 have hq0:=(h6.get 0)
 have hq1:=h6.get 1
 have hq2:=h6.get 2
 have hq3:=h6.get 3
 obtain ⟨Y1,hY1⟩:=eN0 (V6.drew.setRow (w.heap.size+1) (inC (.slice bA l.length bc) s3 x3 g3))
 have cY1:Chg (·=w.heap.size+1) V6 Y1:=by rw [hY1];exact (Chg.refl (·=w.heap.size+1) V6).drew.trans (chg_setRow _ _ _) (fun _ _ h=>h)
 have hY11:Y1.heap[w.heap.size+1]? =some (.cells (inC (.slice bA l.length bc) s3 x3 g3) 152 (0,0)):=by rw [hY1];exact setRow_heap _ _ _ _ _ _ hq1
 have k1:=h6.store 1 rfl cY1 hY11
 obtain ⟨Y2,hY2⟩:=eN0 (Y1.setRow (w.heap.size+2) #[.string x1,.int .i64 x2,.bool (x3==1)])
 have cY2:Chg (·=w.heap.size+2) Y1 Y2:=by rw [hY2];exact chg_setRow _ _ _
 have hY22:Y2.heap[w.heap.size+2]? =some (.cells #[.string x1,.int .i64 x2,.bool (x3==1)] 77 (0,0)):=by rw [hY2];exact setRow_heap _ _ _ _ _ _ (k1.get 2)
 have k2:=k1.store 2 rfl cY2 hY22
 have HY1:=hI0 hY1
 have HY2:=hI0 hY2
 clear hY1 hY2
 refine wp_region_noPanic ?_
 refine wp_region_held_drew (S:=(fun Y=>Y.heap[w.heap.size]? =some (.cells (inC (.slice bA l.length bc) s3 x3 g3) 152 (0,0))∧Y.heap[w.heap.size+3]? =some (.cells #[.string x1,.int .i64 x2,.bool (x3==1)] 77 (0,0)))) (by kernel_rfl) ?_ (fun zh=>?_)
 ·exact ⟨hq0,hq3⟩
 refine heldTake 0 (some 22) (v:=.agg (inC (.slice bA l.length bc) s3 x3 g3)) rfl rfl (by kernel_rfl) (by kernel_rfl) (by kernel_rfl) (by rfl) zh (fun _ _ _ h=>h) (fun w' hSw=>exec_loadRow (cs:=(inC (.slice bA l.length bc) s3 x3 g3)) (T:=w.heap.size) (t:=152) (.tmp 1) rfl rfl sz_in ag_in hSw.1) ?_
 simp only [aP]
 refine heldTake 1 (some 23) (v:=.agg #[.string x1,.int .i64 x2,.bool (x3==1)]) rfl rfl (by kernel_rfl) (by kernel_rfl) (by kernel_rfl) (by rfl) zh (fun _ _ _ h=>h) (fun w' hSw=>exec_loadRow (cs:=#[.string x1,.int .i64 x2,.bool (x3==1)]) (T:=w.heap.size+3) (t:=77) (.tmp 4) rfl rfl sz_rcol ag_rcol hSw.2) ?_
 simp only [aP]
 refine heldSkipRun 2 none (w':=Y1) rfl rfl (by kernel_rfl) (by rfl) (by rw [HY1.out];exact exec_storeRow (cur:=inZ) (vs:=(inC (.slice bA l.length bc) s3 x3 g3)) (t:=152) (H:=w.heap.size+1) (.tmp 2) (.tmp 22) rfl rfl rfl sz_in rfl rfl hq1) ⟨k1.get 0,k1.get 3⟩ ?_
 simp only [Act.put]
 refine heldSkipRun 3 none (w':=Y2) rfl rfl (by kernel_rfl) (by rfl) (by rw [HY2.out];exact exec_storeRow (cur:=#[.string ⟨#[]⟩,.int .i64 0,.bool false]) (vs:=#[.string x1,.int .i64 x2,.bool (x3==1)]) (t:=77) (H:=w.heap.size+2) (.tmp 3) (.tmp 23) rfl rfl rfl sz_rcol rfl rfl (k1.get 2)) ⟨k2.get 0,k2.get 3⟩ ?_
 simp only [Act.put]
 refine rD0 ?_
 go_wp2_with fail
 exact bodyPost_ret (v:=.tuple #[.agg (inC (.slice bA l.length bc) s3 x3 g3),.agg #[.string x1,.int .i64 x2,.bool (x3==1)]]) (res_two results173 rfl rfl (run_varRow sz_in ag_in (k2.get 1)) (run_varRow sz_rcol ag_rcol (k2.get 2))) rfl ⟨x3,g3,⟨x1,x2,x3==1⟩,rfl,trivial,rfl,k2.below HB.out⟩
theorem sz_rexp (w:World):(Go.sizeOf 212).run prog w=.ok 7 w:=by simp [go_sem]
theorem ag_rexp (w:World):(isAgg 212).run prog w=.ok true w:=by simp [isAgg,go_sem]
theorem exprC0 (b:Value) (s:Int×Int) (n:Int) (g:InR) (l:List UInt8) (w:World) (hv:RdB w (ltw w) b l) (hs:s.2=0):Calls prog 223 #[.agg (inC b s n g),.int .i64 0] w (RIx b (fun x:RE=>.agg x.enc.toArray) exAll RE.er (rdX l 0 s) w):=by
 obtain ⟨bA,bc,rfl,y1,y2,y3⟩:=Rd.open_ hv
 obtain ⟨W,hW⟩:=eN0 (((w.alloc (.cells (inC (.slice bA l.length bc) s n g) 152)).alloc (.cells #[.slice none 0 0,.int .i64 0,.int .i64 0,.int .i64 0,.string ⟨#[]⟩,.int .i64 0,.int .i64 0,.string ⟨#[]⟩,.slice none 0 0,.int .i64 0,.int .i64 0,.slice none 0 0] 152)).alloc (.cells #[.int .i64 0,.int .i64 0,.int .i64 0,.int .i64 0,.string ⟨#[]⟩,.string ⟨#[]⟩,.slice none 0 0] 212))
 have hi:=FR.init w (inC (.slice bA l.length bc) s n g) inZ 152
 have hj:=hi.1.init_more (by simp) #[.int .i64 0,.int .i64 0,.int .i64 0,.int .i64 0,.string ⟨#[]⟩,.string ⟨#[]⟩,.slice none 0 0] 212
 have h:FR w.heap.size (Sv w.heap.size 3) W [(w.heap.size,(inC (.slice bA l.length bc) s n g),152),(w.heap.size+1,inZ,152),(w.heap.size+2,#[.int .i64 0,.int .i64 0,.int .i64 0,.int .i64 0,.string ⟨#[]⟩,.string ⟨#[]⟩,.slice none 0 0],212)] W:=by rw [hW];exact hj
 have hbW:Bl w W:=by rw [hW];exact hi.2.alloc (by simp;omega) _
 clear hi hj
 go_in
 go_upto_region 1 with (fail)
 rw [←hW]
 clear hW
 go_upto_region 2 with (fail)
 go_wp2_with (refine ldR 2 sz_in ag_in (h.get 0) ?_)
 (with_reducible refine (failC (.slice bA l.length bc) s n g 26 26 _ ⟨_,_,_,rfl⟩ (by rw [if_pos hs])).mono ?_)
 rintro _ V9 ⟨rfl,hb9⟩
 have h9:=h.call hb9
 have q0:∀j v,#[.int .i64 0,.int .i64 0,.int .i64 0,.int .i64 0,.string ⟨#[]⟩,.string ⟨#[]⟩,.slice none 0 0][j]? =some v→V9.cell? ⟨w.heap.size+2,j,none⟩=some v:=fun j v hj=>(cW0 V9 _ j _ _ _ (h9.get 2)).trans hj
 go_wp2_with (first|(refine stU 4 14 sz_in (h9.get 1) rfl ?_;intro E hE cE)|(refine stU (vs:=#[.int .i64 0,.int .i64 0,.int .i64 0,.int .i64 0,.string ⟨#[]⟩,.string ⟨#[]⟩,.slice none 0 0]) 5 15 sz_rexp ((h9.store 1 rfl cE hE).get 2) rfl ?_;intro G hG cG))
 have k2:=(h9.store 1 rfl cE hE).store 2 rfl cG hG
 exact bodyPost_ret (v:=.tuple #[.agg (inC (.slice bA l.length bc) (s.1,26) 0 InR.zero),.agg #[.int .i64 0,.int .i64 0,.int .i64 0,.int .i64 0,.string ⟨#[]⟩,.string ⟨#[]⟩,.slice none 0 0]]) (res_two results223 rfl rfl (run_varRow sz_in ag_in (k2.get 1)) (run_varRow sz_rexp ag_rexp (k2.get 2))) rfl ⟨0,InR.zero,.mk 0 0 zeroV ⟨#[]⟩ none 0 [],rfl,exAll_mk (Rd.nil _ _ _) goV_zero (by decide) (fun e he=>by cases he),rfl,k2.below hbW⟩
theorem exprC1 (d:Nat) (hd9:d+1≤1000) (b:Value) (s:Int×Int) (n lv:Int) (hlv:lv=(d:Int)+1) (g:InR) (l:List UInt8) (w:World) (hv:RdB w (ltw w) b l) (hl:l.length≤1048576)
  (IH:∀(s:Int×Int) (n:Int) (g:InR) (V:World),RdB V (ltw V) b l→s.2=0→Calls prog 223 #[.agg (inC b s n g),.int .i64 (lv-1)] V (RIx b (fun x:RE=>.agg x.enc.toArray) exAll RE.er (rdX l d s) V)):Calls prog 223 #[.agg (inC b s n g),.int .i64 lv] w (RIx b (fun x:RE=>.agg x.enc.toArray) exAll RE.er (rdX l (d+1) s) w):=by
 obtain ⟨bA,bc,rfl,y1,y2,y3⟩:=Rd.open_ hv
 obtain ⟨W,hW⟩:=eN0 ((((w.alloc (.cells (inC (.slice bA l.length bc) s n g) 152)).alloc (.cells #[.slice none 0 0,.int .i64 0,.int .i64 0,.int .i64 0,.string ⟨#[]⟩,.int .i64 0,.int .i64 0,.string ⟨#[]⟩,.slice none 0 0,.int .i64 0,.int .i64 0,.slice none 0 0] 152)).alloc (.cells #[.int .i64 0,.int .i64 0,.int .i64 0,.int .i64 0,.string ⟨#[]⟩,.string ⟨#[]⟩,.slice none 0 0] 212)).alloc (.cells #[.int .i64 0,.int .i64 0,.int .i64 0,.int .i64 0,.string ⟨#[]⟩,.string ⟨#[]⟩,.slice none 0 0] 212))
 have hi:=FR.init w (inC (.slice bA l.length bc) s n g) inZ 152
 have hj:=(hi.1.init_more (by simp) #[.int .i64 0,.int .i64 0,.int .i64 0,.int .i64 0,.string ⟨#[]⟩,.string ⟨#[]⟩,.slice none 0 0] 212).init_more (by simp) #[.int .i64 0,.int .i64 0,.int .i64 0,.int .i64 0,.string ⟨#[]⟩,.string ⟨#[]⟩,.slice none 0 0] 212
 have h:FR w.heap.size (Sv w.heap.size 4) W [(w.heap.size,(inC (.slice bA l.length bc) s n g),152),(w.heap.size+1,inZ,152),(w.heap.size+2,#[.int .i64 0,.int .i64 0,.int .i64 0,.int .i64 0,.string ⟨#[]⟩,.string ⟨#[]⟩,.slice none 0 0],212),(w.heap.size+3,#[.int .i64 0,.int .i64 0,.int .i64 0,.int .i64 0,.string ⟨#[]⟩,.string ⟨#[]⟩,.slice none 0 0],212)] W:=by rw [hW];exact hj
 have hbW:Bl w W:=by rw [hW];exact (hi.2.alloc (by simp;omega) _).alloc (by simp;omega) _
 clear hi hj
 have KV:∀V,Bl w V→RdB V (ltw V) (.slice bA l.length bc) l:=fun V hb=>hv.below hb
 have HB:=hI0 hbW
 clear hv hbW
 rcases h1:rdI l s with ⟨x1,s1⟩
 rcases h2:rdI l s1 with ⟨x2,s2⟩
 rcases h3:rdV l s2 with ⟨⟨v1,v2,v3⟩,s3⟩
 rcases h4:rdT l s3 with ⟨x4,s4⟩
 have hg3:goV ⟨v1,v2,v3⟩:=by have k:=rdV_goV l s2;rw [h3] at k;exact k
 have hg4:x4.size≤maxLen:=by have k:=rdT_size l s3;rw [h4] at k;exact k
 rcases hd:mnyF l s4 with ⟨mN,k1,e1⟩
 have hbdN:=mny_bd l s4
 have hpsN:=mnyF_pos l s4
 rw [hd] at hbdN hpsN
 obtain ⟨N,rfl⟩:=Int.eq_ofNat_of_zero_le hpsN
 have hN:(N:Int)≤9223372036854775807:=hbdN.1
 have HBDN:=hI0 hbdN.2
 clear hbdN hpsN
 obtain ⟨res,hres⟩:=eN0 (getS (rdX l d) N (k1,e1))
 have hdd:rdX l (d+1) s=(.mk x1 x2 ⟨v1,v2,v3⟩ x4 none 0 res.1,res.2):=by
  have k:=rdL_many l (rdX l d) s4
  rw [hd] at k
  have k2:rdL l (rdX l d) s4=res:=by rw [k,hres];rfl
  simp only [rdX,h1,h2,h3,h4,k2]
 rw [hdd]
 have K1:=fun V (hV:RdB V (ltw V) (.slice bA l.length bc) l)=>numC (.slice bA l.length bc) s n g l V hV
 have K2:=fun n g V (hV:RdB V (ltw V) (.slice bA l.length bc) l)=>numC (.slice bA l.length bc) s1 n g l V hV
 have K3:=fun n g V (hV:RdB V (ltw V) (.slice bA l.length bc) l)=>valueC (.slice bA l.length bc) s2 n g l V hV
 have K4:=fun n g V (hV:RdB V (ltw V) (.slice bA l.length bc) l)=>textC (.slice bA l.length bc) s3 n g l V hV
 have K5:=fun n g V (hV:RdB V (ltw V) (.slice bA l.length bc) l)=>manyC (.slice bA l.length bc) s4 n g l V hV
 rw [h1] at K1
 rw [h2] at K2
 rw [h3] at K3
 rw [h4] at K4
 rw [hd] at K5
 have HRES:=hI0 hres
 have HG:=hI0 (And.intro hg3 hg4)
 have HIH:=hI0 IH
 have HLV:=hI0 hlv
 have hl1:1≤lv:=by omega
 have hl2:lv≤1000:=by omega
 have hl3:¬lv<1:=by omega
 obtain ⟨i0,hi,hz0,hz1,hz2⟩:=info_parts info_Exp
 have HI:=hI0 hi
 have HZ0:=hI0 hz0
 have HZ1:=hI0 hz1
 have HZ2:=hI0 hz2
 clear hi hz0 hz1 hz2
 clear hd hdd h1 h2 h3 h4 hres hg3 hg4 IH hlv hd9
 go_in
 go_upto_region 4 with (fail)
 rw [←hW]
 clear hW
 go_wp2_with (refine ldR 2 sz_in ag_in (h.get 0) ?_)
 (with_reducible refine (K1 W (KV _ (h.below HB.out))).mono ?_)
 rintro _ U1 ⟨g1,rfl,hb1⟩
 have hc1:=h.call hb1
 go_upto_region 5 with (refine stU 2 18 sz_in (hc1.get 0) rfl ?_;intro V1 hV1 cV1)
 have h1:=hc1.store 0 rfl cV1 hV1
 clear h hc1 hb1 cV1 hV1
 have pp0:=cW1 (v:=.int .i64 x1) 3 (h1.get 0) rfl
 have xx0:=cW1 (v:=.int .i64 0) 0 (h1.get 3) rfl
 have ff0:=fW0 V1 _ 0 _ _ (h1.get 3)
 go_upto_region 6 with (fail)
 have h1p:=h1.put 3 0 (.int .i64 x1)
 have h2:=h1p
 clear pp0 xx0 ff0 h1 h1p
 generalize (V1.setCell ⟨w.heap.size+3,0,none⟩ (.int .i64 x1))=V2 at *
 go_wp2_with (refine ldR 2 sz_in ag_in (h2.get 0) ?_)
 (with_reducible refine (K2 x1 g1 V2 (KV _ (h2.below HB.out))).mono ?_)
 rintro _ U3 ⟨g2,rfl,hb3⟩
 have hc3:=h2.call hb3
 go_upto_region 7 with (refine stU 2 23 sz_in (hc3.get 0) rfl ?_;intro V3 hV3 cV3)
 have h3:=hc3.store 0 rfl cV3 hV3
 clear h2 hc3 hb3 cV3 hV3
 have pp0:=cW1 (v:=.int .i64 x2) 3 (h3.get 0) rfl
 have xx0:=cW1 (v:=.int .i64 0) 1 (h3.get 3) rfl
 have ff0:=fW0 V3 _ 1 _ _ (h3.get 3)
 go_upto_region 8 with (fail)
 have h3p:=h3.put 3 1 (.int .i64 x2)
 have h4:=h3p
 clear pp0 xx0 ff0 h3 h3p
 generalize (V3.setCell ⟨w.heap.size+3,1,none⟩ (.int .i64 x2))=V4 at *
 go_wp2_with (refine ldR 2 sz_in ag_in (h4.get 0) ?_)
 (with_reducible refine (K3 x2 g2 V4 (KV _ (h4.below HB.out))).mono ?_)
 rintro _ U5 ⟨n3,g3,rfl,hb5⟩
 have hc5:=h4.call hb5
 go_upto_region 9 with (refine stU 2 28 sz_in (hc5.get 0) rfl ?_;intro V5 hV5 cV5)
 have h5:=hc5.store 0 rfl cV5 hV5
 clear h4 hc5 hb5 cV5 hV5
 have pp0:=cW1 (v:=.int .i64 v1) 5 (h5.get 0) rfl
 have pp1:=cW1 (v:=.int .i64 v2) 6 (h5.get 0) rfl
 have pp2:=cW1 (v:=.string v3) 7 (h5.get 0) rfl
 have xx0:=cW1 (v:=.int .i64 0) 2 (h5.get 3) rfl
 have ff0:=fW0 V5 _ 2 _ _ (h5.get 3)
 have xx1:=cW1 (v:=.int .i64 0) 3 (h5.get 3) rfl
 have ff1:=fW0 V5 _ 3 _ _ (h5.get 3)
 have xx2:=cW1 (v:=.string ⟨#[]⟩) 4 (h5.get 3) rfl
 have ff2:=fW0 V5 _ 4 _ _ (h5.get 3)
 go_upto_region 10 with (fail)
 have h5p:=h5.put 3 2 (.int .i64 v1)
 have h5pp:=h5p.put 3 3 (.int .i64 v2)
 have h5ppp:=h5pp.put 3 4 (.string v3)
 have h6:=h5ppp
 clear pp0 pp1 pp2 xx0 ff0 xx1 ff1 xx2 ff2 h5 h5p h5pp h5ppp
 generalize (((V5.setCell ⟨w.heap.size+3,2,none⟩ (.int .i64 v1)).setCell ⟨w.heap.size+3,3,none⟩ (.int .i64 v2)).setCell ⟨w.heap.size+3,4,none⟩ (.string v3))=V6 at *
 go_wp2_with (refine ldR 2 sz_in ag_in (h6.get 0) ?_)
 (with_reducible refine (K4 n3 (g3.wv ⟨v1,v2,v3⟩) V6 (KV _ (h6.below HB.out))).mono ?_)
 rintro _ U7 ⟨n4,g4,rfl,hb7⟩
 have hc7:=h6.call hb7
 go_upto_region 11 with (refine stU 2 33 sz_in (hc7.get 0) rfl ?_;intro V7 hV7 cV7)
 have h7:=hc7.store 0 rfl cV7 hV7
 clear h6 hc7 hb7 cV7 hV7
 have pp0:=cW1 (v:=.string x4) 4 (h7.get 0) rfl
 have xx0:=cW1 (v:=.string ⟨#[]⟩) 5 (h7.get 3) rfl
 have ff0:=fW0 V7 _ 5 _ _ (h7.get 3)
 go_upto_region 12 with (fail)
 have h7p:=h7.put 3 5 (.string x4)
 have h8:=h7p
 clear pp0 xx0 ff0 h7 h7p
 generalize (V7.setCell ⟨w.heap.size+3,5,none⟩ (.string x4))=V8 at *
 go_wp2_with (refine ldR 2 sz_in ag_in (h8.get 0) ?_)
 (with_reducible refine (K5 n4 (g4.ws x4) V8 (KV _ (h8.below HB.out))).mono ?_)
 rintro _ U9 ⟨g5,rfl,hb9⟩
 have hc9:=h8.call hb9
 go_upto_region 13 with (refine stU 2 38 sz_in (hc9.get 0) rfl ?_;intro V9 hV9 cV9)
 have h9:=hc9.store 0 rfl cV9 hV9
 clear h8 hc9 hb9 cV9 hV9
 have p3:=cW1 (v:=.int .i64 (N:Int)) 3 (h9.get 0) rfl
 go_wp2_with fail
 clear p3 K1 K2 K3 K4 K5
 have hs:=h9.start (by intro p hp;simp at hp;rcases hp with rfl|rfl|rfl|rfl<;>simp [Sv])
 have HBU:Hid (Bl w V9):=hI0 (h9.below HB.out)
 clear h9
 go_loopw [8] (fun i wr=>∃(Q:List RE) (st:Int×Int) (n':Int) (g':InR) (o:Value),i=.int .i64 (Q.length:Int)∧Hid (LI 212 7 RE.enc exAll w.heap.size (Sv w.heap.size 4) V9 [(w.heap.size,(inC (.slice bA l.length bc) st n' g'),152),(w.heap.size+1,inZ,152),(w.heap.size+2,#[.int .i64 0,.int .i64 0,.int .i64 0,.int .i64 0,.string ⟨#[]⟩,.string ⟨#[]⟩,.slice none 0 0],212),(w.heap.size+3,#[.int .i64 x1,.int .i64 x2,.int .i64 v1,.int .i64 v2,.string v3,.string x4,o],212)] wr o Q)∧Hid (LP (rdX l d) RE.er N l.length Q st res)) (fun i _=>N-(intOf i).toNat)
 case atStart=>exact ⟨[],(k1,e1),_,_,_,rfl,hI0 (LI.init hs),hI0 (by rw [HRES.out];exact LP.init HBDN.out)⟩
 obtain ⟨Q,⟨k,er⟩,n',g',o,rfl,HI_,HP⟩:=hrel
 obtain ⟨wi,rfl⟩:=eN0 wr
 obtain ⟨Ao,co,rfl,o1,o2,o3⟩:=Rd.open_ (Rd.of_own HI_.out.own)
 have hs:=HI_.out.start (by intro p hp;simp at hp;rcases hp with rfl|rfl|rfl|rfl<;>simp [Sv])
 have HBW:Hid (Bl w wi):=hI0 (HI_.out.fr.below HBU.out)
 have c2:=cW1 (v:=.int .i64 er) 2 (hs.get 0) rfl
 clear o2 o3
 by_cases hgo:Q.length<N∧er=0
 case neg=>
  have HF:Hid (res=(Q.map RE.er,(k,er))):=hI0 (HP.out.stop hgo)
  have HLD:Hid (LD 7 RE.enc exAll (Sv w.heap.size 4) w.heap.size wi (.slice Ao Q.length co) Q):=hI0 (HI_.out.ld isK_X HBU.out.size)
  by_cases hlt:Q.length<N
  all_goals first|(have hil2:¬(Q.length:Int)<(N:Int):=by omega)|(have hil2:(Q.length:Int)<(N:Int):=(by omega);have her:¬er=0:=fun g=>hgo ⟨hlt,g⟩)
  all_goals go_upto_region 20 with (fail)
  all_goals clear c2
  all_goals
   have H0:=hI0 hs
   have hq0:=(hs.get 0)
   have hq1:=hs.get 1
   have hq2:=hs.get 2
   have hq3:=hs.get 3
   obtain ⟨Y1,hY1⟩:=eN0 (wi.drew.setRow (w.heap.size+1) (inC (.slice bA l.length bc) (k,er) n' g'))
   have cY1:Chg (·=w.heap.size+1) wi Y1:=by rw [hY1];exact (Chg.refl (·=w.heap.size+1) wi).drew.trans (chg_setRow _ _ _) (fun _ _ h=>h)
   have hY11:Y1.heap[w.heap.size+1]? =some (.cells (inC (.slice bA l.length bc) (k,er) n' g') 152 (0,0)):=by rw [hY1];exact setRow_heap _ _ _ _ _ _ hq1
   have k1:=hs.store 1 rfl cY1 hY11
   obtain ⟨Y2,hY2⟩:=eN0 (Y1.setRow (w.heap.size+2) #[.int .i64 x1,.int .i64 x2,.int .i64 v1,.int .i64 v2,.string v3,.string x4,.slice Ao Q.length co])
   have cY2:Chg (·=w.heap.size+2) Y1 Y2:=by rw [hY2];exact chg_setRow _ _ _
   have hY22:Y2.heap[w.heap.size+2]? =some (.cells #[.int .i64 x1,.int .i64 x2,.int .i64 v1,.int .i64 v2,.string v3,.string x4,.slice Ao Q.length co] 212 (0,0)):=by rw [hY2];exact setRow_heap _ _ _ _ _ _ (k1.get 2)
   have k2:=k1.store 2 rfl cY2 hY22
   have HY1:=hI0 hY1
   have HY2:=hI0 hY2
   clear hY1 hY2
   refine wp_region_noPanic ?_
   refine wp_region_held_drew (S:=(fun Y=>Y.heap[w.heap.size]? =some (.cells (inC (.slice bA l.length bc) (k,er) n' g') 152 (0,0))∧Y.heap[w.heap.size+3]? =some (.cells #[.int .i64 x1,.int .i64 x2,.int .i64 v1,.int .i64 v2,.string v3,.string x4,.slice Ao Q.length co] 212 (0,0)))) (by kernel_rfl) ?_ (fun zh=>?_)
   ·exact ⟨hq0,hq3⟩
   refine heldTake 0 (some 65) (v:=.agg (inC (.slice bA l.length bc) (k,er) n' g')) rfl rfl (by kernel_rfl) (by kernel_rfl) (by kernel_rfl) (by rfl) zh (fun _ _ _ h=>h) (fun w' hSw=>exec_loadRow (cs:=(inC (.slice bA l.length bc) (k,er) n' g')) (T:=w.heap.size) (t:=152) (.tmp 2) rfl rfl sz_in ag_in hSw.1) ?_
   simp only [aP]
   refine heldTake 1 (some 66) (v:=.agg #[.int .i64 x1,.int .i64 x2,.int .i64 v1,.int .i64 v2,.string v3,.string x4,.slice Ao Q.length co]) rfl rfl (by kernel_rfl) (by kernel_rfl) (by kernel_rfl) (by rfl) zh (fun _ _ _ h=>h) (fun w' hSw=>exec_loadRow (cs:=#[.int .i64 x1,.int .i64 x2,.int .i64 v1,.int .i64 v2,.string v3,.string x4,.slice Ao Q.length co]) (T:=w.heap.size+3) (t:=212) (.tmp 6) rfl rfl sz_rexp ag_rexp hSw.2) ?_
   simp only [aP]
   refine heldSkipRun 2 none (w':=Y1) rfl rfl (by kernel_rfl) (by rfl) (by rw [HY1.out];exact exec_storeRow (cur:=inZ) (vs:=(inC (.slice bA l.length bc) (k,er) n' g')) (t:=152) (H:=w.heap.size+1) (.tmp 4) (.tmp 65) rfl rfl rfl sz_in rfl rfl hq1) ⟨k1.get 0,k1.get 3⟩ ?_
   simp only [Act.put]
   refine heldSkipRun 3 none (w':=Y2) rfl rfl (by kernel_rfl) (by rfl) (by rw [HY2.out];exact exec_storeRow (cur:=#[.int .i64 0,.int .i64 0,.int .i64 0,.int .i64 0,.string ⟨#[]⟩,.string ⟨#[]⟩,.slice none 0 0]) (vs:=#[.int .i64 x1,.int .i64 x2,.int .i64 v1,.int .i64 v2,.string v3,.string x4,.slice Ao Q.length co]) (t:=212) (H:=w.heap.size+2) (.tmp 5) (.tmp 66) rfl rfl rfl sz_rexp rfl rfl (k1.get 2)) ⟨k2.get 0,k2.get 3⟩ ?_
   simp only [Act.put]
   refine rD0 ?_
   go_wp2_with fail
   rw [HF.out]
   exact bodyPost_ret (v:=.tuple #[.agg (inC (.slice bA l.length bc) (k,er) n' g'),.agg #[.int .i64 x1,.int .i64 x2,.int .i64 v1,.int .i64 v2,.string v3,.string x4,.slice Ao Q.length co]]) (res_two results223 rfl rfl (run_varRow sz_in ag_in (k2.get 1)) (run_varRow sz_rexp ag_rexp (k2.get 2))) rfl ⟨n',g',.mk x1 x2 ⟨v1,v2,v3⟩ x4 Ao co Q,rfl,exAll_mk (LD.fin (HLD.out.carry isK_X k2.chg) isK_X (Nat.le_refl _)).1 HG.out.1 HG.out.2 (LD.fin (HLD.out.carry isK_X k2.chg) isK_X (Nat.le_refl _)).2,by rw [RE.er_mk],k2.below HBW.out⟩
 obtain rfl:er=0:=hgo.2
 have hil2:(Q.length:Int)<(N:Int):=by have:=hgo.1;omega
 rcases hx:rdX l d (k,0) with ⟨x0,st'⟩
 have KN:=fun V (hV:RdB V (ltw V) (.slice bA l.length bc) l)=>HIH.out (k,0) n' g' V hV rfl
 rw [hx] at KN
 have HX1:=hI0 hx
 clear hx
 go_upto_region 17 with (fail)
 go_wp2_with (refine ldR 2 sz_in ag_in (hs.get 0) ?_)
 (with_reducible refine (KN wi (KV _ (hs.below HBW.out))).mono ?_)
 rintro _ V2 ⟨n2,g2,x,rfl,hX,hxe,hb2⟩
 obtain ⟨z1,z2,⟨z3,z4,z5⟩,z6,zA,zc,zq⟩:=x
 have hc:=hs.call hb2
 have hpre:=hI0 hc
 have hst:=hc.start (by intro p hp;simp at hp;rcases hp with rfl|rfl|rfl|rfl<;>simp [Sv])
 have ha:=hst.alloc2 inZ #[.int .i64 0,.int .i64 0,.int .i64 0,.int .i64 0,.string ⟨#[]⟩,.string ⟨#[]⟩,.slice none 0 0] 152 212
 have HX:=hI0 hX
 have HXE:=hI0 hxe
 clear hX hxe hb2 hc hst
 go_upto_region 18 with (first|(refine stU 9 56 sz_in (ha.get 4) rfl ?_;intro Va hVa cVa)|(refine stU (vs:=#[.int .i64 z1,.int .i64 z2,.int .i64 z3,.int .i64 z4,.string z5,.string z6,.slice zA zq.length zc]) 10 57 sz_rexp ((ha.store 4 rfl cVa hVa).get 5) rfl ?_;intro Vb hVb cVb))
 have hb:=(ha.store 4 rfl cVa hVa).store 5 rfl cVb hVb
 clear ha cVa hVa cVb hVb
 go_upto_region 19 with (first|(refine ldR 9 sz_in ag_in (hb.get 4) ?_)|(refine stU 2 58 sz_in (hb.get 0) rfl ?_;intro Vc hVc cVc))
 have hd:=hb.store 0 rfl cVc hVc
 clear hb cVc hVc hs
 have HK:=hI0 (hpre.out.trans hd)
 have HOA:=hI0 (HI_.out.row (O:=(.cells #[.int .i64 z1,.int .i64 z2,.int .i64 z3,.int .i64 z4,.string z5,.string z6,.slice zA zq.length zc] 212)) HK.out)
 have HNEW:=hI0 (Rd.new' Vc Vc.heap.size rfl [.int .i64 z1,.int .i64 z2,.int .i64 z3,.int .i64 z4,.string z5,.string z6,.slice zA zq.length zc] 212 7 1 rfl (by decide))
 have hz9:V9.heap.size≤Vc.heap.size:=Nat.le_trans HI_.out.fr.chg.size HK.out.chg.size
 have hi5:Q.length≤1048577:=by have:=HP.out.lenb;omega
 have xo:=cW1 (v:=.slice Ao Q.length co) 6 (hd.get 3) rfl
 have HIX:=hI0 (FR.isK (x:=(RE.mk z1 z2 ⟨z3,z4,z5⟩ z6 zA zc zq)) hd isK_X HX.out (Nat.le_refl _) (fun i hi=>(hpre.out.le.1 i hi).2))
 go_wp2_with (first|(refine ldR 10 sz_rexp ag_rexp (hd.get 5) ?_)|(at_builtin;refine wpList_append_app (Vc.alloc (.cells #[.int .i64 z1,.int .i64 z2,.int .i64 z3,.int .i64 z4,.string z5,.string z6,.slice zA zq.length zc] 212)) rfl (.tmp 60) (.tmp 62) 73 rfl V9.heap.size 212 i0 _ 7 88 underlying73 HI.out HZ0.out HZ1.out HZ2.out rfl (by omega) (.slice Ao Q.length co) Q.length (Q.flatMap RE.enc) rfl (.inl HOA.out) (·=Vc.heap.size) _ 1 [.int .i64 z1,.int .i64 z2,.int .i64 z3,.int .i64 z4,.string z5,.string z6,.slice zA zq.length zc] rfl HNEW.out (fun u hu=>by simp only [List.mem_cons,List.not_mem_nil,or_false] at hu;rcases hu with rfl|rfl|rfl|rfl|rfl|rfl|rfl<;>rfl) (by unfold maxLen;omega) (by omega) (by simp;omega) ?_;intro v3 w3 _ hO3 hg3 hb3 hv3;have HLI:=HI_.out.step (x:=(RE.mk z1 z2 ⟨z3,z4,z5⟩ z6 zA zc zq)) isK_X HK.out HIX.out (hO3 (.inl (by omega))) hg3 hv3;obtain ⟨A3,c3,h3e,_,_,_⟩:=Rd.open_ (Rd.of_own HLI.own);rw [List.length_append,List.length_singleton] at h3e;subst h3e;have y3:w3.cell? ⟨w.heap.size+3,6,none⟩=some (.slice Ao Q.length co):=cW0 w3 _ 6 _ _ _ (HLI.fr.get 3);have f3:=fW0 w3 _ 6 _ _ (HLI.fr.get 3)))
 have HL2:=hI0 ((HLI.take 4).put (X:=w.heap.size+3) isK_X 3 6 (.slice A3 (Q.length+1) c3) (by simp [Sv]))
 clear hO3 hg3 hb3 hv3 HLI y3 f3 xo
 go_wp2_with fail
 go_roundw
 case rel=>exact ⟨Q++[(RE.mk z1 z2 ⟨z3,z4,z5⟩ z6 zA zc zq)],st',n2,g2,.slice A3 (Q.length+1) c3,by simp,hI0 HL2.out,hI0 (HP.out.step (mon_X d) ⟨hgo.1,rfl⟩ HX1.out HXE.out)⟩
 case measure=>have:=hgo.1;simp [intOf];omega
theorem exprC:∀(d:Nat) (lv:Int) (s:Int×Int) (n:Int) (g:InR) (b:Value) (l:List UInt8) (w:World),RdB w (ltw w) b l→l.length≤1048576→lv=(d:Int)→d≤1000→(d=0→s.2=0)→
  Calls prog 223 #[.agg (inC b s n g),.int .i64 lv] w (RIx b (fun x:RE=>.agg x.enc.toArray) exAll RE.er (rdX l d s) w):=by
 intro d
 induction d with
 |zero=>
  intro lv s n g b l w hv hl hlv _ hs
  subst hlv
  exact exprC0 b s n g l w hv (hs rfl)
 |succ d ih=>
  intro lv s n g b l w hv hl hlv h1 _
  exact exprC1 d h1 b s n lv (by rw [hlv];simp) g l w hv hl (fun s n g V hV hs=>ih (lv-1) s n g b l V hV hl (by rw [hlv];simp) (by omega) (fun _=>hs))
theorem sz_rhld (w:World):(Go.sizeOf 109).run prog w=.ok 6 w:=by simp [go_sem]
theorem ag_rhld (w:World):(isAgg 109).run prog w=.ok true w:=by simp [isAgg,go_sem]
theorem holdsC (b:Value) (s:Int×Int) (n:Int) (g:InR) (l:List UInt8) (w:World) (hv:RdB w (ltw w) b l) (hl:l.length≤1048576):Calls prog 81 #[.agg (inC b s n g)] w (RIl b 6 Hld.enc isT id (rdL l (rdHld l) s) w):=by
 exact zq1 1
theorem sz_rpol (w:World):(Go.sizeOf 117).run prog w=.ok 2 w:=by simp [go_sem]
theorem ag_rpol (w:World):(isAgg 117).run prog w=.ok true w:=by simp [isAgg,go_sem]
theorem sz_rhor (w:World):(Go.sizeOf 122).run prog w=.ok 2 w:=by simp [go_sem]
theorem ag_rhor (w:World):(isAgg 122).run prog w=.ok true w:=by simp [isAgg,go_sem]
theorem rulesC (b:Value) (s:Int×Int) (n:Int) (g:InR) (l:List UInt8) (w:World) (hv:RdB w (ltw w) b l) (hl:l.length≤1048576):Calls prog 82 #[.agg (inC b s n g)] w fun x w'=>∃n g A1 c1 Q1 A2 c2 Q2,x=.returned (.tuple #[.agg (inC b (rdL l (rdHor l) (rdL l (rdPol l) s).2).2 n g),.slice A1 (List.length Q1) c1,.slice A2 (List.length Q2) c2])∧RdE 2 Pol.enc w' (fun b=>w.heap.size≤b∧b<w'.heap.size) (.slice A1 (List.length Q1) c1) Q1∧Q1=(rdL l (rdPol l) s).1∧RdE 2 Hor.enc w' (fun b=>w.heap.size≤b∧b<w'.heap.size) (.slice A2 (List.length Q2) c2) Q2∧Q2=(rdL l (rdHor l) (rdL l (rdPol l) s).2).1∧Bl w w':=by
 obtain ⟨bA,bc,rfl,y1,y2,y3⟩:=Rd.open_ hv
 obtain ⟨W,hW⟩:=eN0 ((w.alloc (.cells (inC (.slice bA l.length bc) s n g) 152)).alloc (.cells #[.slice none 0 0,.int .i64 0,.int .i64 0,.int .i64 0,.string ⟨#[]⟩,.int .i64 0,.int .i64 0,.string ⟨#[]⟩,.slice none 0 0,.int .i64 0,.int .i64 0,.slice none 0 0] 152))
 have hi:=FR.init w (inC (.slice bA l.length bc) s n g) inZ 152
 have h:FR w.heap.size (Sv w.heap.size 2) W [(w.heap.size,inC (.slice bA l.length bc) s n g,152),(w.heap.size+1,inZ,152)] W:=by rw [hW];exact hi.1
 have hbW:Bl w W:=by rw [hW];exact hi.2
 clear hi
 have KV:∀V,Bl w V→RdB V (ltw V) (.slice bA l.length bc) l:=fun V hb=>hv.below hb
 have HB:=hI0 hbW
 clear hv hbW
 rcases hda:mnyF l s with ⟨mNa,ka1,ea1⟩
 have hbdNa:=mny_bd l s
 have hpsNa:=mnyF_pos l s
 rw [hda] at hbdNa hpsNa
 obtain ⟨Na,rfl⟩:=Int.eq_ofNat_of_zero_le hpsNa
 have hNa:(Na:Int)≤9223372036854775807:=hbdNa.1
 have HBDNa:=hI0 hbdNa.2
 clear hbdNa hpsNa
 obtain ⟨resa,hresa⟩:=eN0 (getS (rdPol l) Na (ka1,ea1))
 have qresa:rdL l (rdPol l) s=resa:=by rw [rdL_many,hda,hresa];rfl
 have Hresa:=hI0 hresa
 clear hresa
 rw [qresa]
 rcases hdb:mnyF l resa.2 with ⟨mNb,kb1,eb1⟩
 have hbdNb:=mny_bd l resa.2
 have hpsNb:=mnyF_pos l resa.2
 rw [hdb] at hbdNb hpsNb
 obtain ⟨Nb,rfl⟩:=Int.eq_ofNat_of_zero_le hpsNb
 have hNb:(Nb:Int)≤9223372036854775807:=hbdNb.1
 have HBDNb:=hI0 hbdNb.2
 clear hbdNb hpsNb
 obtain ⟨resb,hresb⟩:=eN0 (getS (rdHor l) Nb (kb1,eb1))
 have qresb:rdL l (rdHor l) resa.2=resb:=by rw [rdL_many,hdb,hresb];rfl
 have Hresb:=hI0 hresb
 clear hresb
 rw [qresb]
 have KM:=fun V (hV:RdB V (ltw V) (.slice bA l.length bc) l)=>manyC (.slice bA l.length bc) s n g l V hV
 rw [hda] at KM
 have KN:=hI0 (fun n g V (hV:RdB V (ltw V) (.slice bA l.length bc) l)=>manyC (.slice bA l.length bc) resa.2 n g l V hV)
 rw [hdb] at KN
 obtain ⟨i0a,hi,hz0,hz1,hz2⟩:=info_parts info_Pol
 have HIa:=hI0 hi
 have HZ0a:=hI0 hz0
 have HZ1a:=hI0 hz1
 have HZ2a:=hI0 hz2
 clear hi hz0 hz1 hz2
 obtain ⟨i0b,hi,hz0,hz1,hz2⟩:=info_parts info_Hor
 have HIb:=hI0 hi
 have HZ0b:=hI0 hz0
 have HZ1b:=hI0 hz1
 have HZ2b:=hI0 hz2
 clear hi hz0 hz1 hz2
 clear qresa hda qresb hdb
 go_in
 go_upto_region 1 with (fail)
 rw [←hW]
 clear hW
 go_wp2_with (refine ldR 1 sz_in ag_in (h.get 0) ?_)
 (with_reducible refine (KM W (KV _ (h.below HB.out))).mono ?_)
 rintro _ U1 ⟨g2,rfl,hb1⟩
 have hc1:=h.call hb1
 go_upto_region 2 with (refine stU 1 13 sz_in (hc1.get 0) rfl ?_;intro V1 hV1 cV1)
 have h1:=hc1.store 0 rfl cV1 hV1
 clear h hc1 hb1 cV1 hV1
 have p3:=cW1 (v:=.int .i64 (Na:Int)) 3 (h1.get 0) rfl
 go_wp2_with fail
 clear p3 KM
 have hs:=h1.start (by intro p hp;simp at hp;rcases hp with rfl|rfl<;>simp [Sv])
 have HBUa:Hid (Bl w V1):=hI0 (h1.below HB.out)
 clear h1
 go_loopw [6,7] (fun o i wr=>∃(Q:List Pol) (st:Int×Int) (n':Int) (g':InR),i=.int .i64 (Q.length:Int)∧Hid (LI 117 2 Pol.enc isT w.heap.size (Sv w.heap.size 2) V1 [(w.heap.size,(inC (.slice bA l.length bc) st n' g'),152),(w.heap.size+1,inZ,152)] wr o Q)∧Hid (LP (rdPol l) id Na l.length Q st resa)) (fun _ i _=>Na-(intOf i).toNat)
 case atStart=>exact ⟨[],(ka1,ea1),_,_,rfl,hI0 (LI.init hs),hI0 (by rw [Hresa.out];exact LP.init HBDNa.out)⟩
 obtain ⟨Qa,⟨ka,era⟩,n'a,g'a,rfl,HI_a,HPa⟩:=hrel
 obtain ⟨wia,rfl⟩:=eN0 wr
 obtain ⟨Aoa,coa,rfl,o1,o2,o3⟩:=Rd.open_ (Rd.of_own HI_a.out.own)
 have hs:=HI_a.out.start (by intro p hp;simp at hp;rcases hp with rfl|rfl<;>simp [Sv])
 have HBWa:Hid (Bl w wia):=hI0 (HI_a.out.fr.below HBUa.out)
 have c2:=cW1 (v:=.int .i64 era) 2 (hs.get 0) rfl
 have o1a:=o1
 clear o1 o2 o3
 by_cases hgo:Qa.length<Na∧era=0
 case neg=>
  have HFa:Hid (resa=(Qa.map id,(ka,era))):=hI0 (HPa.out.stop hgo)
  have HLDa:Hid (LD 2 Pol.enc isT (Sv w.heap.size 2) w.heap.size wia (.slice Aoa Qa.length coa) Qa):=hI0 (HI_a.out.ld isK_T HBUa.out.size)
  by_cases hlt:Qa.length<Na
  all_goals first|(have hil2:¬(Qa.length:Int)<(Na:Int):=by omega)|(have hil2:(Qa.length:Int)<(Na:Int):=(by omega);have her:¬era=0:=fun g=>hgo ⟨hlt,g⟩)
  all_goals go_upto_region 13 with (fail)
  all_goals clear c2 hgo hlt hil2
  all_goals try clear her
  all_goals
   have KN:=KN.out
   rw [HFa.out] at KN
   go_wp2_with (refine ldR 1 sz_in ag_in (hs.get 0) ?_)
   (with_reducible refine (KN n'a g'a wia (KV _ (hs.below HBWa.out))).mono ?_)
   rintro _ U2 ⟨g4,rfl,hb2⟩
   have hc2:=hs.call hb2
   go_upto_region 14 with (refine stU 1 42 sz_in (hc2.get 0) rfl ?_;intro V2 hV2 cV2)
   have h2:=hc2.store 0 rfl cV2 hV2
   clear hs hc2 hb2 cV2 hV2
   have p3:=cW1 (v:=.int .i64 (Nb:Int)) 3 (h2.get 0) rfl
   go_wp2_with fail
   clear p3 KN
   have hs:=h2.start (by intro p hp;simp at hp;rcases hp with rfl|rfl<;>simp [Sv])
   have HBUb:Hid (Bl w V2):=hI0 (h2.below HBWa.out)
   have HLDau:=hI0 (HLDa.out.carry isK_T h2.chg)
   clear h2
   go_loopw [9,10] (fun o i wr=>∃(Q:List Hor) (st:Int×Int) (n':Int) (g':InR),i=.int .i64 (Q.length:Int)∧Hid (LI 122 2 Hor.enc isT w.heap.size (Sv w.heap.size 2) V2 [(w.heap.size,(inC (.slice bA l.length bc) st n' g'),152),(w.heap.size+1,inZ,152)] wr o Q)∧Hid (LP (rdHor l) id Nb l.length Q st resb)) (fun _ i _=>Nb-(intOf i).toNat)
   case atStart=>exact ⟨[],(kb1,eb1),_,_,rfl,hI0 (LI.init hs),hI0 (by rw [Hresb.out];exact LP.init HBDNb.out)⟩
   obtain ⟨Qb,⟨kb,erb⟩,n'b,g'b,rfl,HI_b,HPb⟩:=hrel
   obtain ⟨wib,rfl⟩:=eN0 wr
   obtain ⟨Aob,cob,rfl,o1,o2,o3⟩:=Rd.open_ (Rd.of_own HI_b.out.own)
   have hs:=HI_b.out.start (by intro p hp;simp at hp;rcases hp with rfl|rfl<;>simp [Sv])
   have HBWb:Hid (Bl w wib):=hI0 (HI_b.out.fr.below HBUb.out)
   have c2:=cW1 (v:=.int .i64 erb) 2 (hs.get 0) rfl
   have o1b:=o1
   clear o1 o2 o3
   by_cases hgo:Qb.length<Nb∧erb=0
   case neg=>
    have HFb:Hid (resb=(Qb.map id,(kb,erb))):=hI0 (HPb.out.stop hgo)
    have HLDb:Hid (LD 2 Hor.enc isT (Sv w.heap.size 2) w.heap.size wib (.slice Aob Qb.length cob) Qb):=hI0 (HI_b.out.ld isK_T HBUb.out.size)
    have HLDauw:=hI0 (HLDau.out.carry isK_T HI_b.out.fr.chg)
    by_cases hlt:Qb.length<Nb
    all_goals first|(have hil2:¬(Qb.length:Int)<(Nb:Int):=by omega)|(have hil2:(Qb.length:Int)<(Nb:Int):=(by omega);have her:¬erb=0:=fun g=>hgo ⟨hlt,g⟩)
    all_goals go_upto_region 25 with (fail)
    all_goals clear c2 hgo hlt hil2
    all_goals try clear her
    all_goals
     go_wp2_with (first|(refine ldR 1 sz_in ag_in (hs.get 0) ?_)|(refine stU 2 70 sz_in (hs.get 1) rfl ?_;intro E hE cE))
     have hE2:=hs.store 1 rfl cE hE
     rw [HFb.out]
     have hfa:=LD.fin (HLDauw.out.carry isK_T hE2.chg) isK_T (Nat.le_refl _)
     have hfb:=LD.fin (HLDb.out.carry isK_T hE2.chg) isK_T (Nat.le_refl _)
     exact bodyPost_ret (v:=.tuple #[.agg (inC (.slice bA l.length bc) (kb,erb) n'b g'b),.slice Aoa Qa.length coa,.slice Aob Qb.length cob]) (res_ctt results82 rfl rfl rfl (run_varRow sz_in ag_in (hE2.get 1))) rfl ⟨n'b,g'b,Aoa,coa,Qa,Aob,cob,Qb,rfl,hfa.1,by rw [HFa.out];simp,hfb.1,by simp,hE2.below HBWb.out⟩
   obtain rfl:erb=0:=hgo.2
   have hil2:(Qb.length:Int)<(Nb:Int):=by have:=hgo.1;omega
   rcases h1:rdT l (kb,0) with ⟨y1,s1⟩
   rcases h2:rdI l s1 with ⟨y2,st'⟩
   have HX1:Hid (rdHor l (kb,0)=(⟨y1,y2⟩,st')):=hI0 (by simp only [rdHor,h1,h2])
   have K1:=fun n g V (hV:RdB V (ltw V) (.slice bA l.length bc) l)=>textC (.slice bA l.length bc) (kb,0) n g l V hV
   have K2:=fun n g V (hV:RdB V (ltw V) (.slice bA l.length bc) l)=>numC (.slice bA l.length bc) s1 n g l V hV
   rw [h1] at K1
   rw [h2] at K2
   clear h1 h2
   go_upto_region 19 with (fail)
   clear c2
   obtain ⟨X,hX⟩:=eN0 wib.heap.size
   obtain ⟨V3,hV3⟩:=eN0 (wib.alloc (.cells #[.string ⟨#[]⟩,.int .i64 0] 122))
   have hw3:=hs.alloc #[.string ⟨#[]⟩,.int .i64 0] 122
   have h3:=hs.more (by intro p hp;simp at hp;rcases hp with rfl|rfl<;>simp [Sv]) #[.string ⟨#[]⟩,.int .i64 0] 122
   have hxlX:wib.heap.size≤X:=by rw [hX];exact hs.chg.size
   rw [←hV3,←hX] at hw3 h3
   go_upto_region 20 with (fail)
   rw [←hV3,←hX]
   have HWX:=hI0 hw3
   have HXLX:=hI0 hxlX
   have HB3:Hid (Bl w V3):=hI0 (hw3.below HBWb.out)
   clear hV3 hX hw3 hxlX hs
   go_wp2_with (refine ldR 1 sz_in ag_in (h3.get 0) ?_)
   (with_reducible refine (K1 n'b g'b V3 (KV _ (h3.below HB3.out))).mono ?_)
   rintro _ U4 ⟨h0n,h0g,rfl,hb4⟩
   have hc4:=h3.call hb4
   go_upto_region 21 with (refine stU 1 57 sz_in (hc4.get 0) rfl ?_;intro V4 hV4 cV4)
   have h4:=hc4.store 0 rfl cV4 hV4
   clear h3 hc4 hb4 cV4 hV4
   have pp0:=cW1 (v:=.string y1) 4 (h4.get 0) rfl
   have xx0:=cW1 (v:=.string ⟨#[]⟩) 0 (h4.get 2) rfl
   have ff0:=fW0 V4 _ 0 _ _ (h4.get 2)
   go_upto_region 22 with (fail)
   have h4p:=h4.put 2 0 (.string y1)
   have h5:=h4p
   clear pp0 xx0 ff0 h4 h4p
   generalize (V4.setCell ⟨X,0,none⟩ (.string y1))=V5 at *
   go_wp2_with (refine ldR 1 sz_in ag_in (h5.get 0) ?_)
   (with_reducible refine (K2 h0n (h0g.ws y1) V5 (KV _ (h5.below HB3.out))).mono ?_)
   rintro _ U6 ⟨h1g,rfl,hb6⟩
   have hc6:=h5.call hb6
   go_upto_region 23 with (refine stU 1 62 sz_in (hc6.get 0) rfl ?_;intro V6 hV6 cV6)
   have h6:=hc6.store 0 rfl cV6 hV6
   clear h5 hc6 hb6 cV6 hV6
   have pp0:=cW1 (v:=.int .i64 y2) 3 (h6.get 0) rfl
   have xx0:=cW1 (v:=.int .i64 0) 1 (h6.get 2) rfl
   have ff0:=fW0 V6 _ 1 _ _ (h6.get 2)
   go_upto_region 24 with (fail)
   have h6p:=h6.put 2 1 (.int .i64 y2)
   have h7:=h6p
   clear pp0 xx0 ff0 h6 h6p
   generalize (V6.setCell ⟨X,1,none⟩ (.int .i64 y2))=V7 at *
   have HK:=hI0 (HWX.out.outer h7 (fun i hi hs=>hs.elim id (fun e=>by have:=HXLX.out;omega)))
   have HOA:=hI0 (HI_b.out.row (O:=(.cells #[.string y1,.int .i64 y2] 122)) HK.out)
   have HNEW:=hI0 (Rd.new' V7 V7.heap.size rfl [.string y1,.int .i64 y2] 122 2 1 rfl (by decide))
   have hz9:V2.heap.size≤V7.heap.size:=Nat.le_trans HI_b.out.fr.chg.size HK.out.chg.size
   have hi5:Qb.length≤1048577:=by have:=HPb.out.lenb;omega
   have HIX:=hI0 trivial
   go_wp2_with (first|(refine ldR 11 sz_rhor ag_rhor (h7.get 2) ?_)|(at_builtin;refine wpList_append_app (V7.alloc (.cells #[.string y1,.int .i64 y2] 122)) rfl (.tmp 66) (.tmp 68) 27 rfl V2.heap.size 122 i0b _ 2 24 underlying27 HIb.out HZ0b.out HZ1b.out HZ2b.out rfl (by omega) (.slice Aob Qb.length cob) Qb.length (Qb.flatMap Hor.enc) rfl (.inl HOA.out) (·=V7.heap.size) _ 1 [.string y1,.int .i64 y2] rfl HNEW.out (fun u hu=>by simp only [List.mem_cons,List.not_mem_nil,or_false] at hu;rcases hu with rfl|rfl<;>rfl) (by unfold maxLen;omega) (by omega) (by simp;omega) ?_;intro v3 w3 _ hO3 hg3 hb3 hv3))
   have HL2:=hI0 ((HI_b.out.step (x:=(⟨y1,y2⟩:Hor)) isK_T HK.out HIX.out (hO3 (.inl (by omega))) hg3 hv3).take 2)
   clear hO3 hg3 hb3 hv3
   go_wp2_with fail
   go_roundw
   case rel=>exact ⟨Qb++[(⟨y1,y2⟩:Hor)],st',y2,h1g,by simp,hI0 HL2.out,hI0 (HPb.out.step mon_Hor ⟨hgo.1,rfl⟩ HX1.out rfl)⟩
   case measure=>have:=hgo.1;simp [intOf];omega
 obtain rfl:era=0:=hgo.2
 have hil2:(Qa.length:Int)<(Na:Int):=by have:=hgo.1;omega
 rcases h1:rdT l (ka,0) with ⟨y1,s1⟩
 rcases h2:rdI l s1 with ⟨y2,st'⟩
 have HX1:Hid (rdPol l (ka,0)=(⟨y1,y2⟩,st')):=hI0 (by simp only [rdPol,h1,h2])
 have K1:=fun n g V (hV:RdB V (ltw V) (.slice bA l.length bc) l)=>textC (.slice bA l.length bc) (ka,0) n g l V hV
 have K2:=fun n g V (hV:RdB V (ltw V) (.slice bA l.length bc) l)=>numC (.slice bA l.length bc) s1 n g l V hV
 rw [h1] at K1
 rw [h2] at K2
 clear h1 h2
 go_upto_region 7 with (fail)
 clear c2
 obtain ⟨X,hX⟩:=eN0 wia.heap.size
 obtain ⟨V2,hV2⟩:=eN0 (wia.alloc (.cells #[.string ⟨#[]⟩,.int .i64 0] 117))
 have hw2:=hs.alloc #[.string ⟨#[]⟩,.int .i64 0] 117
 have h2:=hs.more (by intro p hp;simp at hp;rcases hp with rfl|rfl<;>simp [Sv]) #[.string ⟨#[]⟩,.int .i64 0] 117
 have hxlX:wia.heap.size≤X:=by rw [hX];exact hs.chg.size
 rw [←hV2,←hX] at hw2 h2
 go_upto_region 8 with (fail)
 rw [←hV2,←hX]
 have HWX:=hI0 hw2
 have HXLX:=hI0 hxlX
 have HB2:Hid (Bl w V2):=hI0 (hw2.below HBWa.out)
 clear hV2 hX hw2 hxlX hs
 go_wp2_with (refine ldR 1 sz_in ag_in (h2.get 0) ?_)
 (with_reducible refine (K1 n'a g'a V2 (KV _ (h2.below HB2.out))).mono ?_)
 rintro _ U3 ⟨h0n,h0g,rfl,hb3⟩
 have hc3:=h2.call hb3
 go_upto_region 9 with (refine stU 1 28 sz_in (hc3.get 0) rfl ?_;intro V3 hV3 cV3)
 have h3:=hc3.store 0 rfl cV3 hV3
 clear h2 hc3 hb3 cV3 hV3
 have pp0:=cW1 (v:=.string y1) 4 (h3.get 0) rfl
 have xx0:=cW1 (v:=.string ⟨#[]⟩) 0 (h3.get 2) rfl
 have ff0:=fW0 V3 _ 0 _ _ (h3.get 2)
 go_upto_region 10 with (fail)
 have h3p:=h3.put 2 0 (.string y1)
 have h4:=h3p
 clear pp0 xx0 ff0 h3 h3p
 generalize (V3.setCell ⟨X,0,none⟩ (.string y1))=V4 at *
 go_wp2_with (refine ldR 1 sz_in ag_in (h4.get 0) ?_)
 (with_reducible refine (K2 h0n (h0g.ws y1) V4 (KV _ (h4.below HB2.out))).mono ?_)
 rintro _ U5 ⟨h1g,rfl,hb5⟩
 have hc5:=h4.call hb5
 go_upto_region 11 with (refine stU 1 33 sz_in (hc5.get 0) rfl ?_;intro V5 hV5 cV5)
 have h5:=hc5.store 0 rfl cV5 hV5
 clear h4 hc5 hb5 cV5 hV5
 have pp0:=cW1 (v:=.int .i64 y2) 3 (h5.get 0) rfl
 have xx0:=cW1 (v:=.int .i64 0) 1 (h5.get 2) rfl
 have ff0:=fW0 V5 _ 1 _ _ (h5.get 2)
 go_upto_region 12 with (fail)
 have h5p:=h5.put 2 1 (.int .i64 y2)
 have h6:=h5p
 clear pp0 xx0 ff0 h5 h5p
 generalize (V5.setCell ⟨X,1,none⟩ (.int .i64 y2))=V6 at *
 have HK:=hI0 (HWX.out.outer h6 (fun i hi hs=>hs.elim id (fun e=>by have:=HXLX.out;omega)))
 have HOA:=hI0 (HI_a.out.row (O:=(.cells #[.string y1,.int .i64 y2] 117)) HK.out)
 have HNEW:=hI0 (Rd.new' V6 V6.heap.size rfl [.string y1,.int .i64 y2] 117 2 1 rfl (by decide))
 have hz9:V1.heap.size≤V6.heap.size:=Nat.le_trans HI_a.out.fr.chg.size HK.out.chg.size
 have hi5:Qa.length≤1048577:=by have:=HPa.out.lenb;omega
 have HIX:=hI0 trivial
 go_wp2_with (first|(refine ldR 8 sz_rpol ag_rpol (h6.get 2) ?_)|(at_builtin;refine wpList_append_app (V6.alloc (.cells #[.string y1,.int .i64 y2] 117)) rfl (.tmp 37) (.tmp 39) 26 rfl V1.heap.size 117 i0a _ 2 24 underlying26 HIa.out HZ0a.out HZ1a.out HZ2a.out rfl (by omega) (.slice Aoa Qa.length coa) Qa.length (Qa.flatMap Pol.enc) rfl (.inl HOA.out) (·=V6.heap.size) _ 1 [.string y1,.int .i64 y2] rfl HNEW.out (fun u hu=>by simp only [List.mem_cons,List.not_mem_nil,or_false] at hu;rcases hu with rfl|rfl<;>rfl) (by unfold maxLen;omega) (by omega) (by simp;omega) ?_;intro v3 w3 _ hO3 hg3 hb3 hv3))
 have HL2:=hI0 ((HI_a.out.step (x:=(⟨y1,y2⟩:Pol)) isK_T HK.out HIX.out (hO3 (.inl (by omega))) hg3 hv3).take 2)
 clear hO3 hg3 hb3 hv3
 go_wp2_with fail
 go_roundw
 case rel=>exact ⟨Qa++[(⟨y1,y2⟩:Pol)],st',y2,h1g,by simp,hI0 HL2.out,hI0 (HPa.out.step mon_Pol ⟨hgo.1,rfl⟩ HX1.out rfl)⟩
 case measure=>have:=hgo.1;simp [intOf];omega
end Go.Proofs.YtbfdegkickjbpaaGreat
