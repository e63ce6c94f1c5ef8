/-
 SsC
-/
import Derived.Test.YtbfdegkickjbpaaGreatVRr2
import Derived.Test.YtbfdegkickjbpaaGreatVRr3
import Derived.Test.YtbfdegkickjbpaaGreatVSt1
import Derived.Test.YtbfdegkickjbpaaGreatVDc5
import Derived.Test.YtbfdegkickjbpaaGreatVSeg1
import Derived.Test.YtbfdegkickjbpaaGreatVSsA
namespace Go.Proofs.YtbfdegkickjbpaaGreat
open Go.Proofs.Tryz
set_option maxRecDepth 99999
set_option maxHeartbeats 0
open Go.RowKit Go.Lib Go.IntWalk Go.Sort Go.Shelf
theorem rdR_goV2 (l:List UInt8) (s:Int×Int):∀v∈(rdR l s).1,goV v:=by
 unfold rdR rdS
 split
 ·intro v hv;cases hv
 ·split<;>exact decR_ok l s.1
theorem doneC2 (b:Value) (s:Int×Int) (n:Int) (g:InR) (l:List UInt8) (w:World) (hb:∃A k,b=.slice A l.length k):Calls prog 83 #[.agg (inC b s n g)] w fun x w'=>x=.returned (.int .i64 (endE s l.length))∧Bl w w':=by
 obtain ⟨A,k,rfl⟩:=hb
 exact done_any A k s.1 s.2 n g l w
theorem sz_rver (w:World):(Go.sizeOf 167).run prog w=.ok 9 w:=by simp [go_sem]
theorem ag_rver (w:World):(isAgg 167).run prog w=.ok true w:=by simp [isAgg,go_sem]
theorem versC (b:Value) (s:Int×Int) (n:Int) (g:InR) (l:List UInt8) (w:World) (hv:RdB w (ltw w) b l) (hl:l.length≤1048576):Calls prog 125 #[.agg (inC b s n g)] w (RIl b 9 encVP verIs verEr (rdL l (rdVerP l) s) w):=by
 obtain ⟨bA,bc,rfl,y1,y2,y3⟩:=Rd.open_ hv
 obtain ⟨W,hW⟩:=eN0 ((w.alloc (.cells (inC (.slice bA l.length bc) s n g) 152)).alloc (.cells #[.slice none 0 0,.int .i64 0,.int .i64 0,.int .i64 0,.string ⟨#[]⟩,.int .i64 0,.int .i64 0,.string ⟨#[]⟩,.slice none 0 0,.int .i64 0,.int .i64 0,.slice none 0 0] 152))
 have hi:=FR.init w (inC (.slice bA l.length bc) s n g) inZ 152
 have h:FR w.heap.size (Sv w.heap.size 2) W [(w.heap.size,inC (.slice bA l.length bc) s n g,152),(w.heap.size+1,inZ,152)] W:=by rw [hW];exact hi.1
 have hbW:Bl w W:=by rw [hW];exact hi.2
 clear hi
 have KV:∀V,Bl w V→RdB V (ltw V) (.slice bA l.length bc) l:=fun V hb=>hv.below hb
 have HB:=hI0 hbW
 clear hv hbW
 rcases hd:mnyF l s with ⟨mN,k1,e1⟩
 have hbdN:=mny_bd l s
 have hpsN:=mnyF_pos l s
 rw [hd] at hbdN hpsN
 obtain ⟨N,rfl⟩:=Int.eq_ofNat_of_zero_le hpsN
 have hN:(N:Int)≤9223372036854775807:=hbdN.1
 have HBDN:=hI0 hbdN.2
 clear hbdN hpsN
 obtain ⟨res,hres⟩:=eN0 (getS (rdVerP l) N (k1,e1))
 have qres:rdL l (rdVerP l) s=res:=by rw [rdL_many,hd,hres];rfl
 have Hres:=hI0 hres
 clear hres
 rw [qres]
 have KM:=fun V (hV:RdB V (ltw V) (.slice bA l.length bc) l)=>manyC (.slice bA l.length bc) s n g l V hV
 rw [hd] at KM
 obtain ⟨i0,hi,hz0,hz1,hz2⟩:=info_parts info_Ver
 have HI:=hI0 hi
 have HZ0:=hI0 hz0
 have HZ1:=hI0 hz1
 have HZ2:=hI0 hz2
 clear hi hz0 hz1 hz2
 clear qres hd
 go_in
 go_upto_region 1 with (fail)
 rw [←hW]
 clear hW
 go_wp2_with (refine ldR 1 sz_in ag_in (h.get 0) ?_)
 (with_reducible refine (KM W (KV _ (h.below HB.out))).mono ?_)
 rintro _ U1 ⟨g2,rfl,hb1⟩
 have hc1:=h.call hb1
 go_upto_region 2 with (refine stU 1 9 sz_in (hc1.get 0) rfl ?_;intro V1 hV1 cV1)
 have h1:=hc1.store 0 rfl cV1 hV1
 clear h hc1 hb1 cV1 hV1
 have p3:=cW1 (v:=.int .i64 (N:Int)) 3 (h1.get 0) rfl
 go_wp2_with fail
 clear p3 KM
 have hs:=h1.start (by intro p hp;simp at hp;rcases hp with rfl|rfl<;>simp [Sv])
 have HBUx:Hid (Bl w V1):=hI0 (h1.below HB.out)
 clear h1
 go_loopw [5,6] (fun o i wr=>∃(Q:List VP) (st:Int×Int) (n':Int) (g':InR),i=.int .i64 (Q.length:Int)∧Hid (LI 167 9 encVP verIs w.heap.size (Sv w.heap.size 2) V1 [(w.heap.size,(inC (.slice bA l.length bc) st n' g'),152),(w.heap.size+1,inZ,152)] wr o Q)∧Hid (LP (rdVerP l) verEr N l.length Q st res)) (fun _ i _=>N-(intOf i).toNat)
 case atStart=>exact ⟨[],(k1,e1),_,_,rfl,hI0 (LI.init hs),hI0 (by rw [Hres.out];exact LP.init HBDN.out)⟩
 obtain ⟨Qx,⟨kx,erx⟩,n'x,g'x,rfl,HI_x,HPx⟩:=hrel
 obtain ⟨wix,rfl⟩:=eN0 wr
 obtain ⟨Aox,cox,rfl,o1,o2,o3⟩:=Rd.open_ (Rd.of_own HI_x.out.own)
 have hs:=HI_x.out.start (by intro p hp;simp at hp;rcases hp with rfl|rfl<;>simp [Sv])
 have HBWx:Hid (Bl w wix):=hI0 (HI_x.out.fr.below HBUx.out)
 have c2:=cW1 (v:=.int .i64 erx) 2 (hs.get 0) rfl
 have o1x:=o1
 clear o1 o2 o3
 by_cases hgo:Qx.length<N∧erx=0
 case neg=>
  have HFx:Hid (res=(Qx.map verEr,(kx,erx))):=hI0 (HPx.out.stop hgo)
  have HLDx:Hid (LD 9 encVP verIs (Sv w.heap.size 2) w.heap.size wix (.slice Aox Qx.length cox) Qx):=hI0 (HI_x.out.ld isK_V HBUx.out.size)
  by_cases hlt:Qx.length<N
  all_goals first|(have hil2:¬(Qx.length:Int)<(N:Int):=by omega)|(have hil2:(Qx.length:Int)<(N:Int):=(by omega);have her:¬erx=0:=fun g=>hgo ⟨hlt,g⟩)
  all_goals go_upto_region 23 with (fail)
  all_goals clear c2 hgo hlt hil2
  all_goals try clear her
  all_goals
   go_wp2_with (first|(refine ldR 1 sz_in ag_in (hs.get 0) ?_)|(refine stU 2 62 sz_in (hs.get 1) rfl ?_;intro E hE cE))
   have hE2:=hs.store 1 rfl cE hE
   rw [HFx.out]
   have hfin:=LD.fin (HLDx.out.carry isK_V hE2.chg) isK_V (Nat.le_refl _)
   exact bodyPost_ret (v:=.tuple #[.agg (inC (.slice bA l.length bc) (kx,erx) n'x g'x),.slice Aox Qx.length cox]) (res_ct results125 rfl rfl (run_varRow sz_in ag_in (hE2.get 1))) rfl ⟨n'x,g'x,Aox,cox,Qx,rfl,hfin.1,hfin.2,rfl,hE2.below HBWx.out⟩
 obtain rfl:erx=0:=hgo.2
 have hil2:(Qx.length:Int)<(N:Int):=by have:=hgo.1;omega
 rcases h1:rdI l (kx,0) with ⟨y1,s1⟩
 rcases h2:rdI l s1 with ⟨y2,s2⟩
 rcases h3:rdR l s2 with ⟨yr,s3⟩
 rcases h4:rdP l s3 with ⟨⟨y3,y4⟩,s4⟩
 rcases h5:rdP l s4 with ⟨⟨y5,y6⟩,s5⟩
 rcases h6:rdI l s5 with ⟨y7,s6⟩
 rcases h7:rdI l s6 with ⟨y8,st'⟩
 have HX1:Hid (rdVerP l (kx,0)=(rvP ⟨y1,y2,yr,y3,y4,y5,y6,y7,y8⟩,st')):=hI0 (by simp only [rdVerP,rdVer,h1,h2,h3,h4,h5,h6,h7])
 have HGR:Hid (∀v∈yr,goV v):=hI0 (by have k:=rdR_goV2 l s2;rw [h3] at k;exact k)
 have K1:=fun V (hV:RdB V (ltw V) (.slice bA l.length bc) l)=>numC (.slice bA l.length bc) (kx,0) n'x g'x l V hV
 have K2:=fun n g V (hV:RdB V (ltw V) (.slice bA l.length bc) l)=>numC (.slice bA l.length bc) s1 n g l V hV
 have K3:=fun n g V (hV:RdB V (ltw V) (.slice bA l.length bc) l)=>rowC (.slice bA l.length bc) s2 n g l V hV
 have K4:=fun n g V (hV:RdB V (ltw V) (.slice bA l.length bc) l)=>perC (.slice bA l.length bc) s3 n g l V hV
 have K5:=fun n g V (hV:RdB V (ltw V) (.slice bA l.length bc) l)=>perC (.slice bA l.length bc) s4 n g l V hV
 have K6:=fun n g V (hV:RdB V (ltw V) (.slice bA l.length bc) l)=>numC (.slice bA l.length bc) s5 n g l V hV
 have K7:=fun n g V (hV:RdB V (ltw V) (.slice bA l.length bc) l)=>numC (.slice bA l.length bc) s6 n g l V hV
 rw [h1] at K1
 rw [h2] at K2
 rw [h3] at K3
 rw [h4] at K4
 rw [h5] at K5
 rw [h6] at K6
 rw [h7] at K7
 clear h1 h2 h3 h4 h5 h6 h7
 go_upto_region 7 with (fail)
 clear c2
 obtain ⟨X,hX⟩:=eN0 wix.heap.size
 obtain ⟨V2,hV2⟩:=eN0 (wix.alloc (.cells #[.int .i64 0,.int .i64 0,.slice none 0 0,.int .i64 0,.int .i64 0,.int .i64 0,.int .i64 0,.int .i64 0,.int .i64 0] 167))
 have hw2:=hs.alloc #[.int .i64 0,.int .i64 0,.slice none 0 0,.int .i64 0,.int .i64 0,.int .i64 0,.int .i64 0,.int .i64 0,.int .i64 0] 167
 have h2:=hs.more (by intro p hp;simp at hp;rcases hp with rfl|rfl<;>simp [Sv]) #[.int .i64 0,.int .i64 0,.slice none 0 0,.int .i64 0,.int .i64 0,.int .i64 0,.int .i64 0,.int .i64 0,.int .i64 0] 167
 have hxlX:wix.heap.size≤X:=by rw [hX];exact hs.chg.size
 rw [←hV2,←hX] at hw2 h2
 go_upto_region 8 with (fail)
 rw [←hV2,←hX]
 have HWX:=hI0 hw2
 have HXLX:=hI0 hxlX
 have HB2:Hid (Bl w V2):=hI0 (hw2.below HBWx.out)
 clear hV2 hX hw2 hxlX hs
 go_wp2_with (refine ldR 1 sz_in ag_in (h2.get 0) ?_)
 (with_reducible refine (K1 V2 (KV _ (h2.below HB2.out))).mono ?_)
 rintro _ U3 ⟨g1,rfl,hb3⟩
 have hc3:=h2.call hb3
 go_upto_region 9 with (refine stU 1 24 sz_in (hc3.get 0) rfl ?_;intro V3 hV3 cV3)
 have h3:=hc3.store 0 rfl cV3 hV3
 clear h2 hc3 hb3 cV3 hV3
 have pp0:=cW1 (v:=.int .i64 y1) 3 (h3.get 0) rfl
 have xx0:=cW1 (v:=.int .i64 0) 0 (h3.get 2) rfl
 have ff0:=fW0 V3 _ 0 _ _ (h3.get 2)
 go_upto_region 10 with (fail)
 have h3p:=h3.put 2 0 (.int .i64 y1)
 have h4:=h3p
 clear pp0 xx0 ff0 h3 h3p
 generalize (V3.setCell ⟨X,0,none⟩ (.int .i64 y1))=V4 at *
 go_wp2_with (refine ldR 1 sz_in ag_in (h4.get 0) ?_)
 (with_reducible refine (K2 y1 g1 V4 (KV _ (h4.below HB2.out))).mono ?_)
 rintro _ U5 ⟨g2,rfl,hb5⟩
 have hc5:=h4.call hb5
 go_upto_region 11 with (refine stU 1 29 sz_in (hc5.get 0) rfl ?_;intro V5 hV5 cV5)
 have h5:=hc5.store 0 rfl cV5 hV5
 clear h4 hc5 hb5 cV5 hV5
 have pp0:=cW1 (v:=.int .i64 y2) 3 (h5.get 0) rfl
 have xx0:=cW1 (v:=.int .i64 0) 1 (h5.get 2) rfl
 have ff0:=fW0 V5 _ 1 _ _ (h5.get 2)
 go_upto_region 12 with (fail)
 have h5p:=h5.put 2 1 (.int .i64 y2)
 have h6:=h5p
 clear pp0 xx0 ff0 h5 h5p
 generalize (V5.setCell ⟨X,1,none⟩ (.int .i64 y2))=V6 at *
 go_wp2_with (refine ldR 1 sz_in ag_in (h6.get 0) ?_)
 (with_reducible refine (K3 y2 g2 V6 (KV _ (h6.below HB2.out))).mono ?_)
 rintro _ U7 ⟨q4,j4,rfl,hkr,hb7⟩
 have hc7:=h6.call hb7
 have HKR:=hI0 hkr
 have HSK:=hI0 (fun i hi=>(h6.lts.1 i hi).2)
 have HSZ:=hI0 (Nat.le_trans HWX.out.chg.size h6.chg.size)
 clear hkr
 have HB7:=hI0 (hc7.below HB2.out)
 have hs7:=hc7.start (by intro p hp;simp at hp;rcases hp with rfl|rfl|rfl<;>simp [Sv,Sx])
 have HPC:=hI0 hc7
 go_upto_region 13 with (refine stU 1 34 sz_in (hs7.get 0) rfl ?_;intro V7 hV7 cV7)
 have h7:=hs7.store 0 rfl cV7 hV7
 clear h6 hc7 hs7 hb7 cV7 hV7
 have pp0:=cW1 (v:=.slice j4.rA j4.rn j4.rc) 8 (h7.get 0) rfl
 have xx0:=cW1 (v:=.slice none 0 0) 2 (h7.get 2) rfl
 have ff0:=fW0 V7 _ 2 _ _ (h7.get 2)
 go_upto_region 14 with (fail)
 have h7p:=h7.put 2 2 (.slice j4.rA j4.rn j4.rc)
 have h8:=h7p
 clear pp0 xx0 ff0 h7 h7p
 generalize (V7.setCell ⟨X,2,none⟩ (.slice j4.rA j4.rn j4.rc))=V8 at *
 go_wp2_with (refine ldR 1 sz_in ag_in (h8.get 0) ?_)
 (with_reducible refine (K4 q4 j4 V8 (KV _ (h8.below HB7.out))).mono ?_)
 rintro _ U9 ⟨q5,j5,rfl,hb9⟩
 have hc9:=h8.call hb9
 go_upto_region 15 with (refine stU 1 39 sz_in (hc9.get 0) rfl ?_;intro V9 hV9 cV9)
 have h9:=hc9.store 0 rfl cV9 hV9
 clear h8 hc9 hb9 cV9 hV9
 have pp0:=cW1 (v:=.int .i64 y3) 9 (h9.get 0) rfl
 have pp1:=cW1 (v:=.int .i64 y4) 10 (h9.get 0) rfl
 have xx0:=cW1 (v:=.int .i64 0) 3 (h9.get 2) rfl
 have ff0:=fW0 V9 _ 3 _ _ (h9.get 2)
 have xx1:=cW1 (v:=.int .i64 0) 4 (h9.get 2) rfl
 have ff1:=fW0 V9 _ 4 _ _ (h9.get 2)
 go_upto_region 16 with (fail)
 have h9p:=h9.put 2 3 (.int .i64 y3)
 have h9pp:=h9p.put 2 4 (.int .i64 y4)
 have h10:=h9pp
 clear pp0 pp1 xx0 ff0 xx1 ff1 h9 h9p h9pp
 generalize ((V9.setCell ⟨X,3,none⟩ (.int .i64 y3)).setCell ⟨X,4,none⟩ (.int .i64 y4))=V10 at *
 go_wp2_with (refine ldR 1 sz_in ag_in (h10.get 0) ?_)
 (with_reducible refine (K5 q5 (j5.wp (y3,y4)) V10 (KV _ (h10.below HB7.out))).mono ?_)
 rintro _ U11 ⟨q6,j6,rfl,hb11⟩
 have hc11:=h10.call hb11
 go_upto_region 17 with (refine stU 1 44 sz_in (hc11.get 0) rfl ?_;intro V11 hV11 cV11)
 have h11:=hc11.store 0 rfl cV11 hV11
 clear h10 hc11 hb11 cV11 hV11
 have pp0:=cW1 (v:=.int .i64 y5) 9 (h11.get 0) rfl
 have pp1:=cW1 (v:=.int .i64 y6) 10 (h11.get 0) rfl
 have xx0:=cW1 (v:=.int .i64 0) 5 (h11.get 2) rfl
 have ff0:=fW0 V11 _ 5 _ _ (h11.get 2)
 have xx1:=cW1 (v:=.int .i64 0) 6 (h11.get 2) rfl
 have ff1:=fW0 V11 _ 6 _ _ (h11.get 2)
 go_upto_region 18 with (fail)
 have h11p:=h11.put 2 5 (.int .i64 y5)
 have h11pp:=h11p.put 2 6 (.int .i64 y6)
 have h12:=h11pp
 clear pp0 pp1 xx0 ff0 xx1 ff1 h11 h11p h11pp
 generalize ((V11.setCell ⟨X,5,none⟩ (.int .i64 y5)).setCell ⟨X,6,none⟩ (.int .i64 y6))=V12 at *
 go_wp2_with (refine ldR 1 sz_in ag_in (h12.get 0) ?_)
 (with_reducible refine (K6 q6 (j6.wp (y5,y6)) V12 (KV _ (h12.below HB7.out))).mono ?_)
 rintro _ U13 ⟨j7,rfl,hb13⟩
 have hc13:=h12.call hb13
 go_upto_region 19 with (refine stU 1 49 sz_in (hc13.get 0) rfl ?_;intro V13 hV13 cV13)
 have h13:=hc13.store 0 rfl cV13 hV13
 clear h12 hc13 hb13 cV13 hV13
 have pp0:=cW1 (v:=.int .i64 y7) 3 (h13.get 0) rfl
 have xx0:=cW1 (v:=.int .i64 0) 7 (h13.get 2) rfl
 have ff0:=fW0 V13 _ 7 _ _ (h13.get 2)
 go_upto_region 20 with (fail)
 have h13p:=h13.put 2 7 (.int .i64 y7)
 have h14:=h13p
 clear pp0 xx0 ff0 h13 h13p
 generalize (V13.setCell ⟨X,7,none⟩ (.int .i64 y7))=V14 at *
 go_wp2_with (refine ldR 1 sz_in ag_in (h14.get 0) ?_)
 (with_reducible refine (K7 y7 j7 V14 (KV _ (h14.below HB7.out))).mono ?_)
 rintro _ U15 ⟨j8,rfl,hb15⟩
 have hc15:=h14.call hb15
 go_upto_region 21 with (refine stU 1 54 sz_in (hc15.get 0) rfl ?_;intro V15 hV15 cV15)
 have h15:=hc15.store 0 rfl cV15 hV15
 clear h14 hc15 hb15 cV15 hV15
 have pp0:=cW1 (v:=.int .i64 y8) 3 (h15.get 0) rfl
 have xx0:=cW1 (v:=.int .i64 0) 8 (h15.get 2) rfl
 have ff0:=fW0 V15 _ 8 _ _ (h15.get 2)
 go_upto_region 22 with (fail)
 have h15p:=h15.put 2 8 (.int .i64 y8)
 have h16:=h15p
 clear pp0 xx0 ff0 h15 h15p
 generalize (V15.setCell ⟨X,8,none⟩ (.int .i64 y8))=V16 at *
 have HK:=hI0 (HWX.out.outer (HPC.out.trans h16) (fun i hi hs=>hs.elim id (fun e=>by have:=HXLX.out;omega)))
 have HOA:=hI0 (HI_x.out.row (O:=(.cells #[.int .i64 y1,.int .i64 y2,.slice j4.rA j4.rn j4.rc,.int .i64 y3,.int .i64 y4,.int .i64 y5,.int .i64 y6,.int .i64 y7,.int .i64 y8] 167)) HK.out)
 have HNEW:=hI0 (Rd.new' V16 V16.heap.size rfl [.int .i64 y1,.int .i64 y2,.slice j4.rA j4.rn j4.rc,.int .i64 y3,.int .i64 y4,.int .i64 y5,.int .i64 y6,.int .i64 y7,.int .i64 y8] 167 9 1 rfl (by decide))
 have hz9:V1.heap.size≤V16.heap.size:=Nat.le_trans HI_x.out.fr.chg.size HK.out.chg.size
 have hi5:Qx.length≤1048577:=by have:=HPx.out.lenb;omega
 have HIX:=hI0 (FR.isK (IS:=verIs) (d':=wix.heap.size) (x:=((⟨y1,y2,j4.rA,j4.rn,j4.rc,y3,y4,y5,y6,y7,y8⟩,⟨y1,y2,yr,y3,y4,y5,y6,y7,y8⟩):VP)) h16 isK_V ⟨rfl,rfl,rfl,rfl,rfl,rfl,rfl,rfl,HKR.out,HGR.out⟩ HSZ.out HSK.out)
 go_wp2_with (first|(refine ldR 7 sz_rver ag_rver (h16.get 2) ?_)|(at_builtin;refine wpList_append_app (V16.alloc (.cells #[.int .i64 y1,.int .i64 y2,.slice j4.rA j4.rn j4.rc,.int .i64 y3,.int .i64 y4,.int .i64 y5,.int .i64 y6,.int .i64 y7,.int .i64 y8] 167)) rfl (.tmp 58) (.tmp 60) 55 rfl V1.heap.size 167 i0 _ 9 88 underlying55 HI.out HZ0.out HZ1.out HZ2.out rfl (by omega) (.slice Aox Qx.length cox) Qx.length (Qx.flatMap encVP) rfl (.inl HOA.out) (·=V16.heap.size) _ 1 [.int .i64 y1,.int .i64 y2,.slice j4.rA j4.rn j4.rc,.int .i64 y3,.int .i64 y4,.int .i64 y5,.int .i64 y6,.int .i64 y7,.int .i64 y8] rfl HNEW.out (fun u hu=>by simp only [List.mem_cons,List.not_mem_nil,or_false] at hu;rcases hu with rfl|rfl|rfl|rfl|rfl|rfl|rfl|rfl|rfl<;>rfl) (by unfold maxLen;omega) (by omega) (by simp;omega) ?_;intro v3 w3 _ hO3 hg3 hb3 hv3))
 have HL2:=hI0 ((HI_x.out.step (x:=((⟨y1,y2,j4.rA,j4.rn,j4.rc,y3,y4,y5,y6,y7,y8⟩,⟨y1,y2,yr,y3,y4,y5,y6,y7,y8⟩):VP)) isK_V HK.out HIX.out (hO3 (.inl (by omega))) hg3 hv3).take 2)
 clear hO3 hg3 hb3 hv3
 go_wp2_with fail
 go_roundw
 case rel=>exact ⟨Qx++[((⟨y1,y2,j4.rA,j4.rn,j4.rc,y3,y4,y5,y6,y7,y8⟩,⟨y1,y2,yr,y3,y4,y5,y6,y7,y8⟩):VP)],st',y8,j8,by simp,hI0 HL2.out,hI0 (HPx.out.step mon_VerP ⟨hgo.1,rfl⟩ HX1.out rfl)⟩
 case measure=>have:=hgo.1;simp [intOf];omega
theorem few_entsS {l:List UInt8} (hl:l.length≤1048576):∀x∈(rdSt l (0,0)).1.ents,x.create.few:=fun x hx=>
 rdL_all (p:=fun y:REn=>y.create.few) (l:=l) (one:=rdEnt l) (rdEnt_few (by omega)) _ x hx
theorem sz_rstm (w:World):(Go.sizeOf 180).run prog w=.ok 2 w:=by simp [go_sem]
theorem ag_rstm (w:World):(isAgg 180).run prog w=.ok true w:=by simp [isAgg,go_sem]
theorem sz_rtvs (w:World):(Go.sizeOf 165).run prog w=.ok 2 w:=by simp [go_sem]
theorem ag_rtvs (w:World):(isAgg 165).run prog w=.ok true w:=by simp [isAgg,go_sem]
theorem rdecodeState_any (v:Value) (l:List UInt8) (w:World) (hv:RdB w (ltw w) v l) (hl:l.length≤1048576)
  (HL:∀(V:World) (C:RSt),C.er=(rdSt l (0,0)).1→(rdSt l (0,0)).2.2=0→C.is V (ltw V)→(∀x∈C.ents,∀e∈x.create.chks,exAll V (ltw V) e)→C.lim V):Calls prog 27 #[v] w (DecSO l w):=by
 obtain ⟨bA,bc,rfl,y1,y2,y3⟩:=Rd.open_ hv
 obtain ⟨W,hW⟩:=eN0 (((w.alloc (.cells cZ0 47)).alloc (.cells cZ0 47)).alloc (.cells #[.slice bA l.length bc,.int .i64 0,.int .i64 0,.int .i64 0,.string ⟨#[]⟩,.int .i64 0,.int .i64 0,.string ⟨#[]⟩,.slice none 0 0,.int .i64 0,.int .i64 0,.slice none 0 0] 152))
 have hi:=(((FR.init0 w).init_more (by simp) cZ0 47).init_more (by simp) cZ0 47).init_more (by simp) (inC (.slice bA l.length bc) (0,0) 0 InR.zero) 152
 have h:FR w.heap.size (Sv w.heap.size 3) W [(w.heap.size+2,(inC (.slice bA l.length bc) (0,0) 0 InR.zero),152),(w.heap.size,cZ0,47),(w.heap.size+1,cZ0,47)] W:=by rw [hW];exact hi.perm (by intro p hp;simp at hp;rcases hp with rfl|rfl|rfl<;>simp [inC,InR.zero]) (by simp)
 have hbW:Bl w W:=by rw [hW];exact (((Below.of_alloc _).alloc (by simp) _).alloc (by simp;omega) _)
 clear hi
 have KV:∀V,Bl w V→RdB V (ltw V) (.slice bA l.length bc) l:=fun V hb=>hv.below hb
 have HB:=hI0 hbW
 clear hv hbW
 rcases h1:rdI l (0,0) with ⟨x1,s1⟩
 rcases h2:rdI l s1 with ⟨x2,s2⟩
 rcases h3:rdI l s2 with ⟨x3,s3⟩
 rcases h4:rdI l s3 with ⟨x4,s4⟩
 rcases h5:rdL l (rdEnt l) s4 with ⟨x5,s5⟩
 rcases hda:mnyF l s5 with ⟨mNa,ka1,ea1⟩
 have hbdNa:=mny_bd l s5
 have hpsNa:=mnyF_pos l s5
 rw [hda] at hbdNa hpsNa
 obtain ⟨Na,rfl⟩:=Int.eq_ofNat_of_zero_le hpsNa
 have hNa:(Na:Int)≤9223372036854775807:=hbdNa.1
 have HBDNa:=hI0 hbdNa.2
 clear hbdNa hpsNa
 obtain ⟨resa,hresa⟩:=eN0 (getS (rdStm l) Na (ka1,ea1))
 have qresa:rdL l (rdStm l) s5=resa:=by rw [rdL_many,hda,hresa];rfl
 have Hresa:=hI0 hresa
 clear hresa
 rcases hdb:mnyF l resa.2 with ⟨mNb,kb1,eb1⟩
 have hbdNb:=mny_bd l resa.2
 have hpsNb:=mnyF_pos l resa.2
 rw [hdb] at hbdNb hpsNb
 obtain ⟨Nb,rfl⟩:=Int.eq_ofNat_of_zero_le hpsNb
 have hNb:(Nb:Int)≤9223372036854775807:=hbdNb.1
 have HBDNb:=hI0 hbdNb.2
 clear hbdNb hpsNb
 obtain ⟨resb,hresb⟩:=eN0 (getS (rdTv l) Nb (kb1,eb1))
 have qresb:rdL l (rdTv l) resa.2=resb:=by rw [rdL_many,hdb,hresb];rfl
 have Hresb:=hI0 hresb
 clear hresb
 rcases h8:rdL l (rdHld l) resb.2 with ⟨x8,s8⟩
 rcases h9:rdL l (rdPol l) s8 with ⟨x9,s9⟩
 rcases h10:rdL l (rdHor l) s9 with ⟨x10,s10⟩
 have hrd:rdSt l (0,0)=(⟨x1,x2,x3,x4,none,0,x5,none,0,resa.1,none,0,resb.1,none,0,x8,none,0,x9,none,0,x10⟩,s10):=by simp only [rdSt,h1,h2,h3,h4,h5,qresa,qresb,h8,h9,h10]
 have HRD:=hI0 hrd
 have HLM:=hI0 HL
 have K1:=fun V (hV:RdB V (ltw V) (.slice bA l.length bc) l)=>numC (.slice bA l.length bc) (0,0) 0 InR.zero l V hV
 have K2:=fun n g V (hV:RdB V (ltw V) (.slice bA l.length bc) l)=>numC (.slice bA l.length bc) s1 n g l V hV
 have K3:=fun n g V (hV:RdB V (ltw V) (.slice bA l.length bc) l)=>numC (.slice bA l.length bc) s2 n g l V hV
 have K4:=fun n g V (hV:RdB V (ltw V) (.slice bA l.length bc) l)=>numC (.slice bA l.length bc) s3 n g l V hV
 have K5:=fun n g V (hV:RdB V (ltw V) (.slice bA l.length bc) l)=>entriesC (.slice bA l.length bc) s4 n g l V hV hl
 have K6:=fun n g V (hV:RdB V (ltw V) (.slice bA l.length bc) l)=>manyC (.slice bA l.length bc) s5 n g l V hV
 have K7:=hI0 (fun n g V (hV:RdB V (ltw V) (.slice bA l.length bc) l)=>manyC (.slice bA l.length bc) resa.2 n g l V hV)
 have K8:=hI0 (fun n g V (hV:RdB V (ltw V) (.slice bA l.length bc) l)=>holdsC (.slice bA l.length bc) resb.2 n g l V hV hl)
 have K9:=hI0 (fun n g V (hV:RdB V (ltw V) (.slice bA l.length bc) l)=>rulesC (.slice bA l.length bc) s8 n g l V hV hl)
 have KVR:=hI0 (fun s n g V (hV:RdB V (ltw V) (.slice bA l.length bc) l)=>versC (.slice bA l.length bc) s n g l V hV hl)
 rw [h1] at K1
 rw [h2] at K2
 rw [h3] at K3
 rw [h4] at K4
 rw [h5] at K5
 rw [hda] at K6
 rw [hdb] at K7
 rw [h8] at K8
 rw [h9,h10] at K9
 obtain ⟨i0a,hi,hz0,hz1,hz2⟩:=info_parts info_Stm
 have HIa:=hI0 hi
 have HZ0a:=hI0 hz0
 have HZ1a:=hI0 hz1
 have HZ2a:=hI0 hz2
 clear hi hz0 hz1 hz2
 obtain ⟨i0b,hi,hz0,hz1,hz2⟩:=info_parts info_Tv
 have HIb:=hI0 hi
 have HZ0b:=hI0 hz0
 have HZ1b:=hI0 hz1
 have HZ2b:=hI0 hz2
 clear hi hz0 hz1 hz2
 clear hrd HL h1 h2 h3 h4 h5 hda qresa hdb qresb h8 h9 h10
 go_in
 go_upto_region 3 with (fail)
 rw [←hW]
 clear hW
 go_wp2_with (refine ldR 5 sz_in ag_in (h.get 0) ?_)
 (with_reducible refine (K1 W (KV _ (h.below HB.out))).mono ?_)
 rintro _ U1 ⟨g1,rfl,hb1⟩
 have hc1:=h.call hb1
 go_upto_region 4 with (refine stU 5 26 sz_in (hc1.get 0) rfl ?_;intro V1 hV1 cV1)
 have h1:=hc1.store 0 rfl cV1 hV1
 clear h hc1 hb1 cV1 hV1
 have pp0:=cW1 (v:=.int .i64 x1) 3 (h1.get 0) rfl
 have xx0:=cW1 (v:=.int .i64 0) 0 (h1.get 2) rfl
 have ff0:=fW0 V1 _ 0 _ _ (h1.get 2)
 go_upto_region 5 with (fail)
 have h1p:=h1.put 2 0 (.int .i64 x1)
 have h2:=h1p
 clear pp0 xx0 ff0 h1 h1p
 generalize (V1.setCell ⟨w.heap.size+1,0,none⟩ (.int .i64 x1))=V2 at *
 go_wp2_with (refine ldR 5 sz_in ag_in (h2.get 0) ?_)
 (with_reducible refine (K2 x1 g1 V2 (KV _ (h2.below HB.out))).mono ?_)
 rintro _ U3 ⟨g2,rfl,hb3⟩
 have hc3:=h2.call hb3
 go_upto_region 6 with (refine stU 5 31 sz_in (hc3.get 0) rfl ?_;intro V3 hV3 cV3)
 have h3:=hc3.store 0 rfl cV3 hV3
 clear h2 hc3 hb3 cV3 hV3
 have pp0:=cW1 (v:=.int .i64 x2) 3 (h3.get 0) rfl
 have xx0:=cW1 (v:=.int .i64 0) 1 (h3.get 2) rfl
 have ff0:=fW0 V3 _ 1 _ _ (h3.get 2)
 go_upto_region 7 with (fail)
 have h3p:=h3.put 2 1 (.int .i64 x2)
 have h4:=h3p
 clear pp0 xx0 ff0 h3 h3p
 generalize (V3.setCell ⟨w.heap.size+1,1,none⟩ (.int .i64 x2))=V4 at *
 go_wp2_with (refine ldR 5 sz_in ag_in (h4.get 0) ?_)
 (with_reducible refine (K3 x2 g2 V4 (KV _ (h4.below HB.out))).mono ?_)
 rintro _ U5 ⟨g3,rfl,hb5⟩
 have hc5:=h4.call hb5
 go_upto_region 8 with (refine stU 5 36 sz_in (hc5.get 0) rfl ?_;intro V5 hV5 cV5)
 have h5:=hc5.store 0 rfl cV5 hV5
 clear h4 hc5 hb5 cV5 hV5
 have pp0:=cW1 (v:=.int .i64 x3) 3 (h5.get 0) rfl
 have xx0:=cW1 (v:=.int .i64 0) 2 (h5.get 2) rfl
 have ff0:=fW0 V5 _ 2 _ _ (h5.get 2)
 go_upto_region 9 with (fail)
 have h5p:=h5.put 2 2 (.int .i64 x3)
 have h6:=h5p
 clear pp0 xx0 ff0 h5 h5p
 generalize (V5.setCell ⟨w.heap.size+1,2,none⟩ (.int .i64 x3))=V6 at *
 go_wp2_with (refine ldR 5 sz_in ag_in (h6.get 0) ?_)
 (with_reducible refine (K4 x3 g3 V6 (KV _ (h6.below HB.out))).mono ?_)
 rintro _ U7 ⟨g4,rfl,hb7⟩
 have hc7:=h6.call hb7
 go_upto_region 10 with (refine stU 5 41 sz_in (hc7.get 0) rfl ?_;intro V7 hV7 cV7)
 have h7:=hc7.store 0 rfl cV7 hV7
 clear h6 hc7 hb7 cV7 hV7
 have pp0:=cW1 (v:=.int .i64 x4) 3 (h7.get 0) rfl
 have xx0:=cW1 (v:=.int .i64 0) 3 (h7.get 2) rfl
 have ff0:=fW0 V7 _ 3 _ _ (h7.get 2)
 go_upto_region 11 with (fail)
 have h7p:=h7.put 2 3 (.int .i64 x4)
 have h8:=h7p
 clear pp0 xx0 ff0 h7 h7p
 generalize (V7.setCell ⟨w.heap.size+1,3,none⟩ (.int .i64 x4))=V8 at *
 go_wp2_with (refine ldR 5 sz_in ag_in (h8.get 0) ?_)
 (with_reducible refine (K5 x4 g4 V8 (KV _ (h8.below HB.out))).mono ?_)
 rintro _ U9 ⟨m5,g5,eA,eC,eQ,rfl,hR,hI,heE,hb2⟩
 have hc:=h8.call hb2
 have HSC:=hI0 (h8.below HB.out).size
 have HSL:=hI0 (fun i hi=>(h8.lts.1 i hi).2)
 have HB9:=hI0 (hc.below HB.out)
 have HLE:Hid (LD 16 REn.enc enIs (Sv w.heap.size 3) w.heap.size U9 (.slice eA eQ.length eC) eQ):=hI0 (LD.mk isK_En hR hI HSC.out HSL.out)
 have HEE:=hI0 heE
 clear hR hI heE
 have hst:=hc.start (by intro p hp;simp at hp;rcases hp with rfl|rfl|rfl<;>simp [Sv])
 have ha:=hst.alloc inZ 152
 clear hc hb2 h8
 go_upto_region 12 with (refine stU 6 48 sz_in (ha.get 3) rfl ?_;intro Va hVa cVa)
 have hb:=ha.store 3 rfl cVa hVa
 clear ha cVa hVa
 go_upto_region 13 with (first|(refine ldR 6 sz_in ag_in (hb.get 3) ?_)|(refine stU 5 50 sz_in (hb.get 0) rfl ?_;intro Vc hVc cVc))
 have hd9:=(hb.store 0 rfl cVc hVc).take 3
 clear hb cVc hVc
 have xx0:=cW1 (v:=.slice none 0 0) 4 (hd9.get 2) rfl
 have ff0:=fW0 Vc _ 4 _ _ (hd9.get 2)
 go_upto_region 14 with (fail)
 have hd9p:=hd9.put 2 4 (.slice eA eQ.length eC)
 have h10:=hd9p
 clear xx0 ff0 hd9 hd9p
 generalize (Vc.setCell ⟨w.heap.size+1,4,none⟩ (.slice eA eQ.length eC))=V10 at *
 go_wp2_with (refine ldR 5 sz_in ag_in (h10.get 0) ?_)
 (with_reducible refine (K6 m5 g5 V10 (KV _ (h10.below HB9.out))).mono ?_)
 rintro _ U11 ⟨g6,rfl,hb11⟩
 have hc11:=h10.call hb11
 go_upto_region 15 with (refine stU 5 54 sz_in (hc11.get 0) rfl ?_;intro V11 hV11 cV11)
 have h11:=hc11.store 0 rfl cV11 hV11
 clear h10 hc11 hb11 cV11 hV11
 have p3:=cW1 (v:=.int .i64 (Na:Int)) 3 (h11.get 0) rfl
 go_wp2_with fail
 clear p3 K1 K2 K3 K4 K5 K6
 have hs:=h11.start (by intro p hp;simp at hp;rcases hp with rfl|rfl|rfl<;>simp [Sv])
 have HBUa:Hid (Bl w V11):=hI0 (h11.below HB9.out)
 have HLEu:=hI0 (HLE.out.carry isK_En h11.chg)
 clear h11
 go_loopw [9] (fun i wr=>∃(Q:List Stm) (st:Int×Int) (n':Int) (g':InR) (o:Value),i=.int .i64 (Q.length:Int)∧Hid (LI 180 2 Stm.enc isT w.heap.size (Sv w.heap.size 3) V11 [(w.heap.size+2,(inC (.slice bA l.length bc) st n' g'),152),(w.heap.size,cZ0,47),(w.heap.size+1,#[.int .i64 x1,.int .i64 x2,.int .i64 x3,.int .i64 x4,.slice eA eQ.length eC,o,.slice none 0 0,.slice none 0 0,.slice none 0 0,.slice none 0 0],47)] wr o Q)∧Hid (LP (rdStm l) id Na l.length Q st resa)) (fun i _=>Na-(intOf i).toNat)
 case atStart=>exact ⟨[],(ka1,ea1),_,_,_,rfl,hI0 (LI.init hs),hI0 (by rw [Hresa.out];exact LP.init HBDNa.out)⟩
 obtain ⟨Qa,⟨ka,era⟩,n'a,g'a,o,rfl,HI_a,HPa⟩:=hrel
 obtain ⟨wia,rfl⟩:=eN0 wr
 obtain ⟨Aoa,coa,rfl,o1,o2,o3⟩:=Rd.open_ (Rd.of_own HI_a.out.own)
 have hs:=HI_a.out.start (by intro p hp;simp at hp;rcases hp with rfl|rfl|rfl<;>simp [Sv])
 have HBWa:Hid (Bl w wia):=hI0 (HI_a.out.fr.below HBUa.out)
 have c2:=cW1 (v:=.int .i64 era) 2 (hs.get 0) rfl
 have o1a:=o1
 clear o1 o2 o3
 by_cases hgo:Qa.length<Na∧era=0
 case neg=>
  have HFa:Hid (resa=(Qa.map id,(ka,era))):=hI0 (HPa.out.stop hgo)
  have HLDa:Hid (LD 2 Stm.enc isT (Sv w.heap.size 3) w.heap.size wia (.slice Aoa Qa.length coa) Qa):=hI0 (HI_a.out.ld isK_T HBUa.out.size)
  have HLEuw:=hI0 (HLEu.out.carry isK_En HI_a.out.fr.chg)
  by_cases hlt:Qa.length<Na
  all_goals first|(have hil2:¬(Qa.length:Int)<(Na:Int):=by omega)|(have hil2:(Qa.length:Int)<(Na:Int):=(by omega);have her:¬era=0:=fun g=>hgo ⟨hlt,g⟩)
  all_goals go_upto_region 25 with (fail)
  all_goals clear c2 hgo hlt hil2
  all_goals try clear her
  all_goals
   have K7:=K7.out
   rw [HFa.out] at K7
   go_wp2_with (refine ldR 5 sz_in ag_in (hs.get 0) ?_)
   (with_reducible refine (K7 n'a g'a wia (KV _ (hs.below HBWa.out))).mono ?_)
   rintro _ U12 ⟨g7,rfl,hb12⟩
   have hc12:=hs.call hb12
   go_upto_region 26 with (refine stU 5 85 sz_in (hc12.get 0) rfl ?_;intro V12 hV12 cV12)
   have h12:=hc12.store 0 rfl cV12 hV12
   clear hs hc12 hb12 cV12 hV12
   have p3:=cW1 (v:=.int .i64 (Nb:Int)) 3 (h12.get 0) rfl
   go_wp2_with fail
   clear p3 K7
   have hs:=h12.start (by intro p hp;simp at hp;rcases hp with rfl|rfl|rfl<;>simp [Sv])
   have HBUb:Hid (Bl w V12):=hI0 (h12.below HBWa.out)
   have HLEuwu:=hI0 (HLEuw.out.carry isK_En h12.chg)
   have HLDau:=hI0 (HLDa.out.carry isK_T h12.chg)
   clear h12
   go_loopw [11] (fun i wr=>∃(Q:List RTv) (st:Int×Int) (n':Int) (g':InR) (o:Value),i=.int .i64 (Q.length:Int)∧Hid (LI 165 2 RTv.enc tvIs w.heap.size (Sv w.heap.size 3) V12 [(w.heap.size+2,(inC (.slice bA l.length bc) st n' g'),152),(w.heap.size,cZ0,47),(w.heap.size+1,#[.int .i64 x1,.int .i64 x2,.int .i64 x3,.int .i64 x4,.slice eA eQ.length eC,.slice Aoa Qa.length coa,o,.slice none 0 0,.slice none 0 0,.slice none 0 0],47)] wr o Q)∧Hid (LP (rdTv l) RTv.er Nb l.length Q st resb)) (fun i _=>Nb-(intOf i).toNat)
   case atStart=>exact ⟨[],(kb1,eb1),_,_,_,rfl,hI0 (LI.init hs),hI0 (by rw [Hresb.out];exact LP.init HBDNb.out)⟩
   obtain ⟨Qb,⟨kb,erb⟩,n'b,g'b,o,rfl,HI_b,HPb⟩:=hrel
   obtain ⟨wib,rfl⟩:=eN0 wr
   obtain ⟨Aob,cob,rfl,o1,o2,o3⟩:=Rd.open_ (Rd.of_own HI_b.out.own)
   have hs:=HI_b.out.start (by intro p hp;simp at hp;rcases hp with rfl|rfl|rfl<;>simp [Sv])
   have HBWb:Hid (Bl w wib):=hI0 (HI_b.out.fr.below HBUb.out)
   have c2:=cW1 (v:=.int .i64 erb) 2 (hs.get 0) rfl
   have o1b:=o1
   clear o1 o2 o3
   by_cases hgo:Qb.length<Nb∧erb=0
   case neg=>
    have HFb:Hid (resb=(Qb.map RTv.er,(kb,erb))):=hI0 (HPb.out.stop hgo)
    have HLDb:Hid (LD 2 RTv.enc tvIs (Sv w.heap.size 3) w.heap.size wib (.slice Aob Qb.length cob) Qb):=hI0 (HI_b.out.ld isK_Tv HBUb.out.size)
    have HLEuwuw:=hI0 (HLEuwu.out.carry isK_En HI_b.out.fr.chg)
    have HLDauw:=hI0 (HLDau.out.carry isK_T HI_b.out.fr.chg)
    by_cases hlt:Qb.length<Nb
    all_goals first|(have hil2:¬(Qb.length:Int)<(Nb:Int):=by omega)|(have hil2:(Qb.length:Int)<(Nb:Int):=(by omega);have her:¬erb=0:=fun g=>hgo ⟨hlt,g⟩)
    all_goals go_upto_region 37 with (fail)
    all_goals clear c2 hgo hlt hil2
    all_goals try clear her
    all_goals
     have K8:=K8.out
     rw [HFb.out] at K8
     go_wp2_with (refine ldR 5 sz_in ag_in (hs.get 0) ?_)
     (with_reducible refine (K8 n'b g'b wib (KV _ (hs.below HBWb.out))).mono ?_)
     rintro _ U13 ⟨m7,g7,hA,hC,hQ,rfl,hR,hI,heH,hb2⟩
     have hc:=hs.call hb2
     have HSC:=hI0 (hs.below HBWb.out).size
     have HSL:=hI0 (fun i hi=>(hs.lts.1 i hi).2)
     have HB13:=hI0 (hc.below HBWb.out)
     obtain rfl:hQ=x8:=by simpa using heH
     have HLH:Hid (LD 6 Hld.enc isT (Sv w.heap.size 3) w.heap.size U13 (.slice hA hQ.length hC) hQ):=hI0 (LD.mk isK_T hR hI HSC.out HSL.out)
     clear hR hI heH
     have HLEuwuwd:=hI0 (HLEuwuw.out.carry isK_En hc.chg)
     have HLDauwd:=hI0 (HLDauw.out.carry isK_T hc.chg)
     have HLDbd:=hI0 (HLDb.out.carry isK_Tv hc.chg)
     have hst:=hc.start (by intro p hp;simp at hp;rcases hp with rfl|rfl|rfl<;>simp [Sv])
     have ha:=hst.alloc inZ 152
     clear hc hb2 hs
     go_upto_region 38 with (refine stU 15 121 sz_in (ha.get 3) rfl ?_;intro Va hVa cVa)
     have hb:=ha.store 3 rfl cVa hVa
     clear ha cVa hVa
     go_upto_region 39 with (first|(refine ldR 15 sz_in ag_in (hb.get 3) ?_)|(refine stU 5 123 sz_in (hb.get 0) rfl ?_;intro Vc hVc cVc))
     have hd13:=(hb.store 0 rfl cVc hVc).take 3
     clear hb cVc hVc
     have xx0:=cW1 (v:=.slice none 0 0) 7 (hd13.get 2) rfl
     have ff0:=fW0 Vc _ 7 _ _ (hd13.get 2)
     go_upto_region 40 with (fail)
     have hd13p:=hd13.put 2 7 (.slice hA hQ.length hC)
     have h14:=hd13p
     clear xx0 ff0 hd13 hd13p
     generalize (Vc.setCell ⟨w.heap.size+1,7,none⟩ (.slice hA hQ.length hC))=V14 at *
     have K9:=K9.out
     go_wp2_with (refine ldR 5 sz_in ag_in (h14.get 0) ?_)
     (with_reducible refine (K9 m7 g7 V14 (KV _ (h14.below HB13.out))).mono ?_)
     rintro _ U15 ⟨m9,g9,qA,qC,qQ,zA,zC,zQ,rfl,hR,heP,hR2,heZ,hb2⟩
     have hc:=h14.call hb2
     have HSC:=hI0 (h14.below HB13.out).size
     have HSL:=hI0 (fun i hi=>(h14.lts.1 i hi).2)
     have HB15:=hI0 (hc.below HB13.out)
     subst heP heZ
     have HLP:Hid (LD 2 Pol.enc isT (Sv w.heap.size 3) w.heap.size U15 (.slice qA qQ.length qC) qQ):=hI0 (LD.mk isK_T hR (fun _ _=>trivial) HSC.out HSL.out)
     have HLZ:Hid (LD 2 Hor.enc isT (Sv w.heap.size 3) w.heap.size U15 (.slice zA zQ.length zC) zQ):=hI0 (LD.mk isK_T hR2 (fun _ _=>trivial) HSC.out HSL.out)
     clear hR hR2
     have HLEuwuwdd:=hI0 (HLEuwuwd.out.carry isK_En hc.chg)
     have HLDauwdd:=hI0 (HLDauwd.out.carry isK_T hc.chg)
     have HLDbdd:=hI0 (HLDbd.out.carry isK_Tv hc.chg)
     have HLHd:=hI0 (HLH.out.carry isK_T hc.chg)
     have hst:=hc.start (by intro p hp;simp at hp;rcases hp with rfl|rfl|rfl<;>simp [Sv])
     have ha:=hst.alloc inZ 152
     clear hc hb2 h14
     go_upto_region 41 with (refine stU 17 129 sz_in (ha.get 3) rfl ?_;intro Va hVa cVa)
     have hb:=ha.store 3 rfl cVa hVa
     clear ha cVa hVa
     go_upto_region 42 with (first|(refine ldR 17 sz_in ag_in (hb.get 3) ?_)|(refine stU 5 132 sz_in (hb.get 0) rfl ?_;intro Vc hVc cVc))
     have hd15:=(hb.store 0 rfl cVc hVc).take 3
     clear hb cVc hVc
     have xx0:=cW1 (v:=.slice none 0 0) 8 (hd15.get 2) rfl
     have ff0:=fW0 Vc _ 8 _ _ (hd15.get 2)
     go_upto_region 43 with (fail)
     have hd15p:=hd15.put 2 8 (.slice qA qQ.length qC)
     have h16:=hd15p
     clear xx0 ff0 hd15 hd15p
     generalize (Vc.setCell ⟨w.heap.size+1,8,none⟩ (.slice qA qQ.length qC))=V16 at *
     have xx0:=cW1 (v:=.slice none 0 0) 9 (h16.get 2) rfl
     have ff0:=fW0 V16 _ 9 _ _ (h16.get 2)
     go_upto_region 44 with (fail)
     have h16p:=h16.put 2 9 (.slice zA zQ.length zC)
     have h17:=h16p
     clear xx0 ff0 h16 h16p
     generalize (V16.setCell ⟨w.heap.size+1,9,none⟩ (.slice zA zQ.length zC))=V17 at *
     obtain ⟨C,hC0⟩:=eN0 (⟨x1,x2,x3,x4,eA,eC,eQ,Aoa,coa,Qa,Aob,cob,Qb,hA,hC,hQ,qA,qC,qQ,zA,zC,zQ⟩:RSt)
     have hCe:C.enc.toArray=#[.int .i64 x1,.int .i64 x2,.int .i64 x3,.int .i64 x4,.slice eA eQ.length eC,.slice Aoa Qa.length coa,.slice Aob Qb.length cob,.slice hA hQ.length hC,.slice qA qQ.length qC,.slice zA zQ.length zC]:=by rw [hC0];rfl
     have hCr:C.er=(rdSt l (0,0)).1:=by rw [HRD.out,hC0];simp [RSt.er,HEE.out,HFa.out,HFb.out]
     have hCI:∀(V:World),Chg (Sv w.heap.size 3) U15 V→C.is V (fun b=>w.heap.size≤b∧b<V.heap.size)∧∀x∈C.ents,∀e∈x.create.chks,exAll V (fun b=>w.heap.size≤b∧b<V.heap.size) e:=fun V hV=>by
      have e1:=LD.fin (HLEuwuwdd.out.carry isK_En hV) isK_En (Nat.le_refl _)
      have e2:=LD.fin (HLDauwdd.out.carry isK_T hV) isK_T (Nat.le_refl _)
      have e3:=LD.fin (HLDbdd.out.carry isK_Tv hV) isK_Tv (Nat.le_refl _)
      have e4:=LD.fin (HLHd.out.carry isK_T hV) isK_T (Nat.le_refl _)
      have e5:=LD.fin (HLP.out.carry isK_T hV) isK_T (Nat.le_refl _)
      have e6:=LD.fin (HLZ.out.carry isK_T hV) isK_T (Nat.le_refl _)
      have f1:∀x∈eQ,x.er.create.few:=fun x hx=>by
       have g:=(few_entsS hl) x.er
       rw [HRD.out] at g
       exact g (by simp only;rw [←HEE.out];exact List.mem_map_of_mem hx)
      rw [hC0]
      exact ⟨⟨e1.1,fun x hx=>en_is (e1.2 x hx) (f1 x hx),e2.1,e3.1,fun x hx=>(e3.2 x hx),e4.1,e5.1,e6.1⟩,fun x hx e he=>(e1.2 x hx).1.2.2.2.2.2 e he⟩
     have HCE:=hI0 hCe
     have HCR:=hI0 hCr
     have HCI:=hI0 hCI
     clear hCe hCr hCI hC0 K9
     have KD:=doneC2 (.slice bA l.length bc) s10 m9 g9 l V17 ⟨_,_,rfl⟩
     go_wp2_with (refine ldR 5 sz_in ag_in (h17.get 0) ?_)
     (with_reducible refine KD.mono ?_)
     rintro _ D1 ⟨rfl,hb3⟩
     have h6:=h17.call hb3
     clear h17 hb3 KD
     obtain ⟨ee,hee⟩:=eN0 (endE s10 l.length)
     rw [←hee]
     have HEN:Hid (ee=endE (rdSt l (0,0)).2 l.length):=hI0 (by rw [HRD.out];exact hee)
     clear hee
     by_cases hen:ee=0
     case neg=>
      have hen2:(ee != 0)=true:=by simpa using hen
      have HDC:=hI0 (decSt_end (show rdSt l (0,0)=((rdSt l (0,0)).1,(rdSt l (0,0)).2) from rfl) (by rw [←HEN.out];exact hen):decSt l=(RSt.none_,endE (rdSt l (0,0)).2 l.length))
      go_upto_region 46 with (fail)
      go_wp2_with (refine stU (vs:=cZ0) 2 141 sz_sta (h6.get 1) rfl ?_;intro E hE cE)
      have k2:=h6.store 1 rfl cE hE
      exact bodyPost_ret (v:=.tuple #[.agg cZ0,.int .i64 ee]) (res_ct results27 rfl rfl (run_varRow sz_sta ag_sta (k2.get 1))) rfl ⟨RSt.none_,by rw [HDC.out,HEN.out];rfl,by rw [HDC.out];rfl,noneS_is _ _,(fun x hx=>nomatch hx),k2.below HB15.out⟩
     subst hen
     have he0:(rdSt l (0,0)).2.2=0:=by
      have g:=HEN.out
      unfold endE at g
      by_cases e0:(rdSt l (0,0)).2.2=0
      ·exact e0
      ·simp [e0] at g;exact absurd g.symm e0
     have hci:=HCI.out D1 h6.chg
     have hiw:C.is D1 (ltw D1):=RSt.is_kw hci.1 (fun _ _=>rfl) (fun b hb=>hb.2)
     have KC:=kstate_any C D1 hiw (HLM.out D1 C HCR.out he0 hiw (fun x hx e he=>isK_X.wide (hci.2 x hx e he) (fun b hb=>hb.2)))
     rw [HCE.out] at KC
     clear hci hiw
     go_upto_region 47 with (fail)
     go_wp2_with (refine ldR 4 sz_sta ag_sta (h6.get 2) ?_)
     (with_reducible refine KC.mono ?_)
     rintro _ D2 ⟨rfl,hb4⟩
     have h7:=h6.call hb4
     clear hb4 KC
     obtain ⟨ce,hce⟩:=eN0 (stateF C)
     rw [←hce]
     have HCK:Hid (ce=stateF (rdSt l (0,0)).1):=hI0 (by rw [hce,←HCR.out,stateF_er])
     clear hce
     by_cases hcn:ce=0
     case neg=>
      have hcn2:(ce != 0)=true:=by simpa using hcn
      have HDC:=hI0 (decSt_chk (show rdSt l (0,0)=((rdSt l (0,0)).1,(rdSt l (0,0)).2) from rfl) HEN.out.symm (by rw [←HCK.out];exact hcn):decSt l=(RSt.none_,stateF (rdSt l (0,0)).1))
      go_upto_region 49 with (fail)
      go_wp2_with (refine stU (vs:=cZ0) 2 147 sz_sta (h7.get 1) rfl ?_;intro E hE cE)
      have k2:=h7.store 1 rfl cE hE
      exact bodyPost_ret (v:=.tuple #[.agg cZ0,.int .i64 ce]) (res_ct results27 rfl rfl (run_varRow sz_sta ag_sta (k2.get 1))) rfl ⟨RSt.none_,by rw [HDC.out,HCK.out];rfl,by rw [HDC.out];rfl,noneS_is _ _,(fun x hx=>nomatch hx),k2.below HB15.out⟩
     subst hcn
     have HDC:=hI0 (decSt_ok (show rdSt l (0,0)=((rdSt l (0,0)).1,(rdSt l (0,0)).2) from rfl) HEN.out.symm HCK.out.symm:decSt l=((rdSt l (0,0)).1,0))
     go_upto_region 50 with (fail)
     go_wp2_with (first|(refine ldR 4 sz_sta ag_sta (h7.get 2) ?_)|(refine stU (vs:=#[.int .i64 x1,.int .i64 x2,.int .i64 x3,.int .i64 x4,.slice eA eQ.length eC,.slice Aoa Qa.length coa,.slice Aob Qb.length cob,.slice hA hQ.length hC,.slice qA qQ.length qC,.slice zA zQ.length zC]) 2 149 sz_sta (h7.get 1) rfl ?_;intro E hE cE))
     have k2:=h7.store 1 rfl cE hE
     have hci:=HCI.out E k2.chg
     exact bodyPost_ret (v:=.tuple #[.agg #[.int .i64 x1,.int .i64 x2,.int .i64 x3,.int .i64 x4,.slice eA eQ.length eC,.slice Aoa Qa.length coa,.slice Aob Qb.length cob,.slice hA hQ.length hC,.slice qA qQ.length qC,.slice zA zQ.length zC],.int .i64 0]) (res_ct results27 rfl rfl (run_varRow sz_sta ag_sta (k2.get 1))) rfl ⟨C,by rw [HDC.out,HCE.out],by rw [HDC.out];exact HCR.out,hci.1,hci.2,k2.below HB15.out⟩
   obtain rfl:erb=0:=hgo.2
   have hil2:(Qb.length:Int)<(Nb:Int):=by have:=hgo.1;omega
   rcases hi1:rdT l (kb,0) with ⟨yn,t1⟩
   rcases hi2:rdL l (rdVerP l) t1 with ⟨yv,st'⟩
   have HX1:Hid (rdTv l (kb,0)=(⟨yn,none,0,yv⟩,st')):=hI0 (by simp only [rdTv,hi1,hi2])
   have KA:=fun V (hV:RdB V (ltw V) (.slice bA l.length bc) l)=>textC (.slice bA l.length bc) (kb,0) n'b g'b l V hV
   have KB:=KVR.out t1
   rw [hi1] at KA
   rw [hi2] at KB
   clear hi1 hi2
   go_upto_region 30 with (fail)
   clear c2
   obtain ⟨X,hX⟩:=eN0 wib.heap.size
   obtain ⟨V13,hV13⟩:=eN0 (wib.alloc (.cells #[.string ⟨#[]⟩,.slice none 0 0] 165))
   have hw13:=hs.alloc #[.string ⟨#[]⟩,.slice none 0 0] 165
   have h13:=hs.more (by intro p hp;simp at hp;rcases hp with rfl|rfl|rfl<;>simp [Sv]) #[.string ⟨#[]⟩,.slice none 0 0] 165
   have hxlX:wib.heap.size≤X:=by rw [hX];exact hs.chg.size
   rw [←hV13,←hX] at hw13 h13
   go_upto_region 31 with (fail)
   rw [←hV13,←hX]
   have HWX:=hI0 hw13
   have HXLX:=hI0 hxlX
   have HB13:Hid (Bl w V13):=hI0 (hw13.below HBWb.out)
   clear hV13 hX hw13 hxlX hs
   go_wp2_with (refine ldR 5 sz_in ag_in (h13.get 0) ?_)
   (with_reducible refine (KA V13 (KV _ (h13.below HB13.out))).mono ?_)
   rintro _ U14 ⟨q1,j1,rfl,hb14⟩
   have hc14:=h13.call hb14
   go_upto_region 32 with (refine stU 5 100 sz_in (hc14.get 0) rfl ?_;intro V14 hV14 cV14)
   have h14:=hc14.store 0 rfl cV14 hV14
   clear h13 hc14 hb14 cV14 hV14
   have pp0:=cW1 (v:=.string yn) 4 (h14.get 0) rfl
   have xx0:=cW1 (v:=.string ⟨#[]⟩) 0 (h14.get 3) rfl
   have ff0:=fW0 V14 _ 0 _ _ (h14.get 3)
   go_upto_region 33 with (fail)
   have h14p:=h14.put 3 0 (.string yn)
   have h15:=h14p
   clear pp0 xx0 ff0 h14 h14p
   generalize (V14.setCell ⟨X,0,none⟩ (.string yn))=V15 at *
   have HSD:=hI0 (Nat.le_trans HWX.out.chg.size h15.chg.size)
   go_wp2_with (refine ldR 5 sz_in ag_in (h15.get 0) ?_)
   (with_reducible refine (KB q1 (j1.ws yn) V15 (KV _ (h15.below HB13.out))).mono ?_)
   rintro _ U16 ⟨q2,j2,vA,vC,vQ,rfl,hR,hI,heV,hb2⟩
   have hc:=h15.call hb2
   have HSC:=hI0 (h15.below HB13.out).size
   have HSL:=hI0 (fun i hi=>(h15.lts.1 i hi).2)
   have HB16:=hI0 (hc.below HB13.out)
   have HLV:Hid (LD 9 encVP verIs (Sx (Sv w.heap.size 3) X) wib.heap.size U16 (.slice vA vQ.length vC) vQ):=hI0 (LD.mk isK_V hR hI HSD.out HSL.out)
   have HVE:=hI0 heV
   clear hR hI heV
   have HPC:=hI0 hc
   have hst:=hc.start (by intro p hp;simp at hp;rcases hp with rfl|rfl|rfl|rfl<;>simp [Sv,Sx])
   have ha:=hst.alloc inZ 152
   clear hc hb2 h15
   go_upto_region 34 with (refine stU 13 107 sz_in (ha.get 4) rfl ?_;intro Va hVa cVa)
   have hb:=ha.store 4 rfl cVa hVa
   clear ha cVa hVa
   go_upto_region 35 with (first|(refine ldR 13 sz_in ag_in (hb.get 4) ?_)|(refine stU 5 109 sz_in (hb.get 0) rfl ?_;intro Vc hVc cVc))
   have hd16:=(hb.store 0 rfl cVc hVc).take 4
   clear hb cVc hVc
   have xx0:=cW1 (v:=.slice none 0 0) 1 (hd16.get 3) rfl
   have ff0:=fW0 Vc _ 1 _ _ (hd16.get 3)
   go_upto_region 36 with (fail)
   have hd16p:=hd16.put 3 1 (.slice vA vQ.length vC)
   have h17:=hd16p
   clear xx0 ff0 hd16 hd16p
   generalize (Vc.setCell ⟨X,1,none⟩ (.slice vA vQ.length vC))=V17 at *
   have HK:=hI0 (HWX.out.outer (HPC.out.trans h17) (fun i hi hs=>hs.elim id (fun e=>by have:=HXLX.out;omega)))
   have HOA:=hI0 (HI_b.out.row (O:=(.cells #[.string yn,.slice vA vQ.length vC] 165)) HK.out)
   have HNEW:=hI0 (Rd.new' V17 V17.heap.size rfl [.string yn,.slice vA vQ.length vC] 165 2 1 rfl (by decide))
   have hz9:V12.heap.size≤V17.heap.size:=Nat.le_trans HI_b.out.fr.chg.size HK.out.chg.size
   have hi5:Qb.length≤1048577:=by have:=HPb.out.lenb;omega
   have xo:=cW1 (v:=.slice Aob Qb.length cob) 6 (h17.get 2) rfl
   have HIX:=hI0 (show tvIs V17 (fun b=>wib.heap.size≤b∧b<V17.heap.size) (⟨yn,vA,vC,vQ⟩:RTv) from LD.fin (HLV.out.carry isK_V h17.chg) isK_V (Nat.le_refl _))
   go_wp2_with (first|(refine ldR 12 sz_rtvs ag_rtvs (h17.get 3) ?_)|(at_builtin;refine wpList_append_app (V17.alloc (.cells #[.string yn,.slice vA vQ.length vC] 165)) rfl (.tmp 113) (.tmp 115) 45 rfl V12.heap.size 165 i0b _ 2 40 underlying45 HIb.out HZ0b.out HZ1b.out HZ2b.out rfl (by omega) (.slice Aob Qb.length cob) Qb.length (Qb.flatMap RTv.enc) rfl (.inl HOA.out) (·=V17.heap.size) _ 1 [.string yn,.slice vA vQ.length vC] rfl HNEW.out (fun u hu=>by simp only [List.mem_cons,List.not_mem_nil,or_false] at hu;rcases hu with rfl|rfl<;>rfl) (by unfold maxLen;omega) (by omega) (by simp;omega) ?_;intro v3 w3 _ hO3 hg3 hb3 hv3;have HLI:=HI_b.out.step (x:=(⟨yn,vA,vC,vQ⟩:RTv)) isK_Tv HK.out HIX.out (hO3 (.inl (by omega))) hg3 hv3;obtain ⟨A3,c3,h3e,_,_,_⟩:=Rd.open_ (Rd.of_own HLI.own);rw [List.length_append,List.length_singleton] at h3e;subst h3e;have y3:w3.cell? ⟨w.heap.size+1,6,none⟩=some (.slice Aob Qb.length cob):=cW0 w3 _ 6 _ _ _ (HLI.fr.get 2);have f3:=fW0 w3 _ 6 _ _ (HLI.fr.get 2)))
   have HL2:=hI0 ((HLI.take 3).put (X:=w.heap.size+1) isK_Tv 2 6 (.slice A3 (Qb.length+1) c3) (by simp [Sv]))
   clear hO3 hg3 hb3 hv3 HLI y3 f3 xo
   go_wp2_with fail
   go_roundw
   case rel=>exact ⟨Qb++[(⟨yn,vA,vC,vQ⟩:RTv)],st',q2,j2,.slice A3 (Qb.length+1) c3,by simp,hI0 HL2.out,hI0 (HPb.out.step mon_Tv ⟨hgo.1,rfl⟩ HX1.out (by have h:=HVE.out;simp only [RTv.er,h]))⟩
   case measure=>have:=hgo.1;simp [intOf];omega
 obtain rfl:era=0:=hgo.2
 have hil2:(Qa.length:Int)<(Na:Int):=by have:=hgo.1;omega
 rcases hi1:rdI l (ka,0) with ⟨y1',t1⟩
 rcases hi2:rdI l t1 with ⟨y2',st'⟩
 have HX1:Hid (rdStm l (ka,0)=(⟨y1',y2'⟩,st')):=hI0 (by simp only [rdStm,hi1,hi2])
 have KA:=fun n g V (hV:RdB V (ltw V) (.slice bA l.length bc) l)=>numC (.slice bA l.length bc) (ka,0) n g l V hV
 have KB:=fun n g V (hV:RdB V (ltw V) (.slice bA l.length bc) l)=>numC (.slice bA l.length bc) t1 n g l V hV
 rw [hi1] at KA
 rw [hi2] at KB
 clear hi1 hi2
 go_upto_region 19 with (fail)
 clear c2
 obtain ⟨X,hX⟩:=eN0 wia.heap.size
 obtain ⟨V12,hV12⟩:=eN0 (wia.alloc (.cells #[.int .i64 0,.int .i64 0] 180))
 have hw12:=hs.alloc #[.int .i64 0,.int .i64 0] 180
 have h12:=hs.more (by intro p hp;simp at hp;rcases hp with rfl|rfl|rfl<;>simp [Sv]) #[.int .i64 0,.int .i64 0] 180
 have hxlX:wia.heap.size≤X:=by rw [hX];exact hs.chg.size
 rw [←hV12,←hX] at hw12 h12
 go_upto_region 20 with (fail)
 rw [←hV12,←hX]
 have HWX:=hI0 hw12
 have HXLX:=hI0 hxlX
 have HB12:Hid (Bl w V12):=hI0 (hw12.below HBWa.out)
 clear hV12 hX hw12 hxlX hs
 go_wp2_with (refine ldR 5 sz_in ag_in (h12.get 0) ?_)
 (with_reducible refine (KA n'a g'a V12 (KV _ (h12.below HB12.out))).mono ?_)
 rintro _ U13 ⟨j1,rfl,hb13⟩
 have hc13:=h12.call hb13
 go_upto_region 21 with (refine stU 5 69 sz_in (hc13.get 0) rfl ?_;intro V13 hV13 cV13)
 have h13:=hc13.store 0 rfl cV13 hV13
 clear h12 hc13 hb13 cV13 hV13
 have pp0:=cW1 (v:=.int .i64 y1') 3 (h13.get 0) rfl
 have xx0:=cW1 (v:=.int .i64 0) 0 (h13.get 3) rfl
 have ff0:=fW0 V13 _ 0 _ _ (h13.get 3)
 go_upto_region 22 with (fail)
 have h13p:=h13.put 3 0 (.int .i64 y1')
 have h14:=h13p
 clear pp0 xx0 ff0 h13 h13p
 generalize (V13.setCell ⟨X,0,none⟩ (.int .i64 y1'))=V14 at *
 go_wp2_with (refine ldR 5 sz_in ag_in (h14.get 0) ?_)
 (with_reducible refine (KB y1' j1 V14 (KV _ (h14.below HB12.out))).mono ?_)
 rintro _ U15 ⟨j2,rfl,hb15⟩
 have hc15:=h14.call hb15
 go_upto_region 23 with (refine stU 5 74 sz_in (hc15.get 0) rfl ?_;intro V15 hV15 cV15)
 have h15:=hc15.store 0 rfl cV15 hV15
 clear h14 hc15 hb15 cV15 hV15
 have pp0:=cW1 (v:=.int .i64 y2') 3 (h15.get 0) rfl
 have xx0:=cW1 (v:=.int .i64 0) 1 (h15.get 3) rfl
 have ff0:=fW0 V15 _ 1 _ _ (h15.get 3)
 go_upto_region 24 with (fail)
 have h15p:=h15.put 3 1 (.int .i64 y2')
 have h16:=h15p
 clear pp0 xx0 ff0 h15 h15p
 generalize (V15.setCell ⟨X,1,none⟩ (.int .i64 y2'))=V16 at *
 have HK:=hI0 (HWX.out.outer h16 (fun i hi hs=>hs.elim id (fun e=>by have:=HXLX.out;omega)))
 have HOA:=hI0 (HI_a.out.row (O:=(.cells #[.int .i64 y1',.int .i64 y2'] 180)) HK.out)
 have HNEW:=hI0 (Rd.new' V16 V16.heap.size rfl [.int .i64 y1',.int .i64 y2'] 180 2 1 rfl (by decide))
 have hz9:V11.heap.size≤V16.heap.size:=Nat.le_trans HI_a.out.fr.chg.size HK.out.chg.size
 have hi5:Qa.length≤1048577:=by have:=HPa.out.lenb;omega
 have xo:=cW1 (v:=.slice Aoa Qa.length coa) 5 (h16.get 2) rfl
 have HIX:=hI0 trivial
 go_wp2_with (first|(refine ldR 10 sz_rstm ag_rstm (h16.get 3) ?_)|(at_builtin;refine wpList_append_app (V16.alloc (.cells #[.int .i64 y1',.int .i64 y2'] 180)) rfl (.tmp 79) (.tmp 81) 44 rfl V11.heap.size 180 i0a _ 2 16 underlying44 HIa.out HZ0a.out HZ1a.out HZ2a.out rfl (by omega) (.slice Aoa Qa.length coa) Qa.length (Qa.flatMap Stm.enc) rfl (.inl HOA.out) (·=V16.heap.size) _ 1 [.int .i64 y1',.int .i64 y2'] rfl HNEW.out (fun u hu=>by simp only [List.mem_cons,List.not_mem_nil,or_false] at hu;rcases hu with rfl|rfl<;>rfl) (by unfold maxLen;omega) (by omega) (by simp;omega) ?_;intro v3 w3 _ hO3 hg3 hb3 hv3;have HLI:=HI_a.out.step (x:=(⟨y1',y2'⟩:Stm)) isK_T HK.out HIX.out (hO3 (.inl (by omega))) hg3 hv3;obtain ⟨A3,c3,h3e,_,_,_⟩:=Rd.open_ (Rd.of_own HLI.own);rw [List.length_append,List.length_singleton] at h3e;subst h3e;have y3:w3.cell? ⟨w.heap.size+1,5,none⟩=some (.slice Aoa Qa.length coa):=cW0 w3 _ 5 _ _ _ (HLI.fr.get 2);have f3:=fW0 w3 _ 5 _ _ (HLI.fr.get 2)))
 have HL2:=hI0 ((HLI.take 3).put (X:=w.heap.size+1) isK_T 2 5 (.slice A3 (Qa.length+1) c3) (by simp [Sv]))
 clear hO3 hg3 hb3 hv3 HLI y3 f3 xo
 go_wp2_with fail
 go_roundw
 case rel=>exact ⟨Qa++[(⟨y1',y2'⟩:Stm)],st',y2',j2,.slice A3 (Qa.length+1) c3,by simp,hI0 HL2.out,hI0 (HPa.out.step mon_Stm ⟨hgo.1,rfl⟩ HX1.out rfl)⟩
 case measure=>have:=hgo.1;simp [intOf];omega
end Go.Proofs.YtbfdegkickjbpaaGreat
