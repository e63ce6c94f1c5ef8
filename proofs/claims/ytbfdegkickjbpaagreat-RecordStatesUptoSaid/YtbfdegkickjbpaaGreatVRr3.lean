/-
 Rr3
-/
import Derived.Test.YtbfdegkickjbpaaGreatVRr2
import Derived.Test.YtbfdegkickjbpaaGreatVDc4
namespace Go.Proofs.YtbfdegkickjbpaaGreat
open Go.Proofs.Tryz
set_option maxRecDepth 99999
set_option maxHeartbeats 0
open Go.RowKit Go.Lib Go.IntWalk Go.Sort Go.Shelf
theorem sz_rtab (w:World):(Go.sizeOf 75).run prog w=.ok 5 w:=by simp [go_sem]
theorem ag_rtab (w:World):(isAgg 75).run prog w=.ok true w:=by simp [isAgg,go_sem]
theorem sz_rfor (w:World):(Go.sizeOf 278).run prog w=.ok 2 w:=by simp [go_sem]
theorem ag_rfor (w:World):(isAgg 278).run prog w=.ok true w:=by simp [isAgg,go_sem]
theorem tabC (b:Value) (s:Int×Int) (n:Int) (g:InR) (l:List UInt8) (w:World) (hv:RdB w (ltw w) b l) (hl:l.length≤1048576):Calls prog 172 #[.agg (inC b s n g)] w (RIx b (fun t:RTab=>.agg t.enc.toArray) tabIs RTab.er (rdTab l s) w):=by
 obtain ⟨bA,bc,rfl,y1,y2,y3⟩:=Rd.open_ hv
 obtain ⟨W,hW⟩:=eN0 ((((w.alloc (.cells (inC (.slice bA l.length bc) s n g) 152)).alloc (.cells #[.slice none 0 0,.int .i64 0,.int .i64 0,.int .i64 0,.string ⟨#[]⟩,.int .i64 0,.int .i64 0,.string ⟨#[]⟩,.slice none 0 0,.int .i64 0,.int .i64 0,.slice none 0 0] 152)).alloc (.cells #[.string ⟨#[]⟩,.slice none 0 0,.slice none 0 0,.slice none 0 0,.slice none 0 0] 75)).alloc (.cells #[.string ⟨#[]⟩,.slice none 0 0,.slice none 0 0,.slice none 0 0,.slice none 0 0] 75))
 have hi:=FR.init w (inC (.slice bA l.length bc) s n g) inZ 152
 have hj:=(hi.1.init_more (by simp) #[.string ⟨#[]⟩,.slice none 0 0,.slice none 0 0,.slice none 0 0,.slice none 0 0] 75).init_more (by simp) #[.string ⟨#[]⟩,.slice none 0 0,.slice none 0 0,.slice none 0 0,.slice none 0 0] 75
 have h:FR w.heap.size (Sv w.heap.size 4) W [(w.heap.size,(inC (.slice bA l.length bc) s n g),152),(w.heap.size+1,inZ,152),(w.heap.size+2,#[.string ⟨#[]⟩,.slice none 0 0,.slice none 0 0,.slice none 0 0,.slice none 0 0],75),(w.heap.size+3,#[.string ⟨#[]⟩,.slice none 0 0,.slice none 0 0,.slice none 0 0,.slice none 0 0],75)] W:=by rw [hW];exact hj
 have hbW:Bl w W:=by rw [hW];exact (hi.2.alloc (by simp;omega) _).alloc (by simp;omega) _
 clear hi hj
 have KV:∀V,Bl w V→RdB V (ltw V) (.slice bA l.length bc) l:=fun V hb=>hv.below hb
 have HB:=hI0 hbW
 clear hv hbW
 rcases h1:rdT l s with ⟨x1,s1⟩
 rcases hda:mnyF l s1 with ⟨mNa,ka1,ea1⟩
 have hbdNa:=mny_bd l s1
 have hpsNa:=mnyF_pos l s1
 rw [hda] at hbdNa hpsNa
 obtain ⟨Na,rfl⟩:=Int.eq_ofNat_of_zero_le hpsNa
 have hNa:(Na:Int)≤9223372036854775807:=hbdNa.1
 have HBDNa:=hI0 hbdNa.2
 clear hbdNa hpsNa
 obtain ⟨resa,hresa⟩:=eN0 (getS (rdCol l) Na (ka1,ea1))
 have qresa:rdL l (rdCol l) s1=resa:=by rw [rdL_many,hda,hresa];rfl
 have Hresa:=hI0 hresa
 clear hresa
 rcases h3:rdL l (rdI l) resa.2 with ⟨xs3,s3⟩
 rcases hdb:mnyF l s3 with ⟨mNb,kb1,eb1⟩
 have hbdNb:=mny_bd l s3
 have hpsNb:=mnyF_pos l s3
 rw [hdb] at hbdNb hpsNb
 obtain ⟨Nb,rfl⟩:=Int.eq_ofNat_of_zero_le hpsNb
 have hNb:(Nb:Int)≤9223372036854775807:=hbdNb.1
 have HBDNb:=hI0 hbdNb.2
 clear hbdNb hpsNb
 obtain ⟨resb,hresb⟩:=eN0 (getS (rdFor l) Nb (kb1,eb1))
 have qresb:rdL l (rdFor l) s3=resb:=by rw [rdL_many,hdb,hresb];rfl
 have Hresb:=hI0 hresb
 clear hresb
 rcases hdc:mnyF l resb.2 with ⟨mNc,kc1,ec1⟩
 have hbdNc:=mny_bd l resb.2
 have hpsNc:=mnyF_pos l resb.2
 rw [hdc] at hbdNc hpsNc
 obtain ⟨Nc,rfl⟩:=Int.eq_ofNat_of_zero_le hpsNc
 have hNc:(Nc:Int)≤9223372036854775807:=hbdNc.1
 have HBDNc:=hI0 hbdNc.2
 clear hbdNc hpsNc
 obtain ⟨resc,hresc⟩:=eN0 (getS (rdX l 24) Nc (kc1,ec1))
 have qresc:rdL l (rdX l 24) resb.2=resc:=by rw [rdL_many,hdc,hresc];rfl
 have Hresc:=hI0 hresc
 clear hresc
 have hdd:rdTab l s=(⟨x1,none,0,resa.1,none,0,xs3,none,0,resb.1,none,0,resc.1⟩,resc.2):=by simp only [rdTab,h1,qresa,h3,qresb,qresc]
 rw [hdd]
 have K1:=fun V (hV:RdB V (ltw V) (.slice bA l.length bc) l)=>textC (.slice bA l.length bc) s n g l V hV
 have K2:=fun n g V (hV:RdB V (ltw V) (.slice bA l.length bc) l)=>manyC (.slice bA l.length bc) s1 n g l V hV
 have K3:=hI0 (fun n g V (hV:RdB V (ltw V) (.slice bA l.length bc) l)=>intsC (.slice bA l.length bc) resa.2 n g l V hV hl)
 have K4:=hI0 (fun n g V (hV:RdB V (ltw V) (.slice bA l.length bc) l)=>manyC (.slice bA l.length bc) s3 n g l V hV)
 have K5:=hI0 (fun n g V (hV:RdB V (ltw V) (.slice bA l.length bc) l)=>manyC (.slice bA l.length bc) resb.2 n g l V hV)
 rw [h1] at K1
 rw [hda] at K2
 rw [h3] at K3
 rw [hdb] at K4
 rw [hdc] at K5
 obtain ⟨i0a,hi,hz0,hz1,hz2⟩:=info_parts info_Col
 have HIa:=hI0 hi
 have HZ0a:=hI0 hz0
 have HZ1a:=hI0 hz1
 have HZ2a:=hI0 hz2
 clear hi hz0 hz1 hz2
 obtain ⟨i0b,hi,hz0,hz1,hz2⟩:=info_parts info_For
 have HIb:=hI0 hi
 have HZ0b:=hI0 hz0
 have HZ1b:=hI0 hz1
 have HZ2b:=hI0 hz2
 clear hi hz0 hz1 hz2
 obtain ⟨i0c,hi,hz0,hz1,hz2⟩:=info_parts info_Exp
 have HIc:=hI0 hi
 have HZ0c:=hI0 hz0
 have HZ1c:=hI0 hz1
 have HZ2c:=hI0 hz2
 clear hi hz0 hz1 hz2
 clear hdd h1 hda qresa h3 hdb qresb hdc qresc
 go_in
 go_upto_region 2 with (fail)
 rw [←hW]
 clear hW
 go_wp2_with (refine ldR 1 sz_in ag_in (h.get 0) ?_)
 (with_reducible refine (K1 W (KV _ (h.below HB.out))).mono ?_)
 rintro _ U1 ⟨n1,g1,rfl,hb1⟩
 have hc1:=h.call hb1
 go_upto_region 3 with (refine stU 1 16 sz_in (hc1.get 0) rfl ?_;intro V1 hV1 cV1)
 have h1:=hc1.store 0 rfl cV1 hV1
 clear h hc1 hb1 cV1 hV1
 have pp0:=cW1 (v:=.string x1) 4 (h1.get 0) rfl
 have xx0:=cW1 (v:=.string ⟨#[]⟩) 0 (h1.get 3) rfl
 have ff0:=fW0 V1 _ 0 _ _ (h1.get 3)
 go_upto_region 4 with (fail)
 have h1p:=h1.put 3 0 (.string x1)
 have h2:=h1p
 clear pp0 xx0 ff0 h1 h1p
 generalize (V1.setCell ⟨w.heap.size+3,0,none⟩ (.string x1))=V2 at *
 go_wp2_with (refine ldR 1 sz_in ag_in (h2.get 0) ?_)
 (with_reducible refine (K2 n1 (g1.ws x1) V2 (KV _ (h2.below HB.out))).mono ?_)
 rintro _ U3 ⟨g2,rfl,hb3⟩
 have hc3:=h2.call hb3
 go_upto_region 5 with (refine stU 1 21 sz_in (hc3.get 0) rfl ?_;intro V3 hV3 cV3)
 have h3:=hc3.store 0 rfl cV3 hV3
 clear h2 hc3 hb3 cV3 hV3
 have p3:=cW1 (v:=.int .i64 (Na:Int)) 3 (h3.get 0) rfl
 go_wp2_with fail
 clear p3 K1 K2
 have hs:=h3.start (by intro p hp;simp at hp;rcases hp with rfl|rfl|rfl|rfl<;>simp [Sv])
 have HBUa:Hid (Bl w V3):=hI0 (h3.below HB.out)
 clear h3
 go_loopw [6] (fun i wr=>∃(Q:List RCol) (st:Int×Int) (n':Int) (g':InR) (o:Value),i=.int .i64 (Q.length:Int)∧Hid (LI 77 3 RCol.enc isT w.heap.size (Sv w.heap.size 4) V3 [(w.heap.size,(inC (.slice bA l.length bc) st n' g'),152),(w.heap.size+1,inZ,152),(w.heap.size+2,#[.string ⟨#[]⟩,.slice none 0 0,.slice none 0 0,.slice none 0 0,.slice none 0 0],75),(w.heap.size+3,#[.string x1,o,.slice none 0 0,.slice none 0 0,.slice none 0 0],75)] wr o Q)∧Hid (LP (rdCol l) id Na l.length Q st resa)) (fun i _=>Na-(intOf i).toNat)
 case atStart=>exact ⟨[],(ka1,ea1),_,_,_,rfl,hI0 (LI.init hs),hI0 (by rw [Hresa.out];exact LP.init HBDNa.out)⟩
 obtain ⟨Qa,⟨ka,era⟩,n'a,g'a,o,rfl,HI_a,HPa⟩:=hrel
 obtain ⟨wia,rfl⟩:=eN0 wr
 obtain ⟨Aoa,coa,rfl,o1,o2,o3⟩:=Rd.open_ (Rd.of_own HI_a.out.own)
 have hs:=HI_a.out.start (by intro p hp;simp at hp;rcases hp with rfl|rfl|rfl|rfl<;>simp [Sv])
 have HBWa:Hid (Bl w wia):=hI0 (HI_a.out.fr.below HBUa.out)
 have c2:=cW1 (v:=.int .i64 era) 2 (hs.get 0) rfl
 have o1a:=o1
 clear o1 o2 o3
 by_cases hgo:Qa.length<Na∧era=0
 case neg=>
  have HFa:Hid (resa=(Qa.map id,(ka,era))):=hI0 (HPa.out.stop hgo)
  have HLDa:Hid (LD 3 RCol.enc isT (Sv w.heap.size 4) w.heap.size wia (.slice Aoa Qa.length coa) Qa):=hI0 (HI_a.out.ld isK_T HBUa.out.size)
  by_cases hlt:Qa.length<Na
  all_goals first|(have hil2:¬(Qa.length:Int)<(Na:Int):=by omega)|(have hil2:(Qa.length:Int)<(Na:Int):=(by omega);have her:¬era=0:=fun g=>hgo ⟨hlt,g⟩)
  all_goals go_upto_region 12 with (fail)
  all_goals clear c2 hgo hlt hil2
  all_goals try clear her
  all_goals
   have K3:=K3.out
   rw [HFa.out] at K3
   go_wp2_with (refine ldR 1 sz_in ag_in (hs.get 0) ?_)
   (with_reducible refine (K3 n'a g'a wia (KV _ (hs.below HBWa.out))).mono ?_)
   rintro _ U4 ⟨nk,gk,jA,jc,jq,rfl,hkr,hke,hb4⟩
   have hc4:=hs.call hb4
   obtain rfl:jq=xs3:=by simpa using hke
   have HLDk:Hid (LD 1 intE isT (Sv w.heap.size 4) w.heap.size U4 (.slice jA jq.length jc) jq):=hI0 (LD.mk isK_T hkr (fun _ _=>trivial) (hs.below HBWa.out).size (fun i hi=>(hs.lts.1 i hi).2))
   clear hkr hke
   have HLDac:=hI0 (HLDa.out.carry isK_T hc4.chg)
   have HB4:=hI0 (hc4.below HBWa.out)
   have hs4:=hc4.start (by intro p hp;simp at hp;rcases hp with rfl|rfl|rfl|rfl<;>simp [Sv])
   go_upto_region 13 with (refine stU 1 47 sz_in (hs4.get 0) rfl ?_;intro V4 hV4 cV4)
   have h4:=hs4.store 0 rfl cV4 hV4
   clear hs hc4 hs4 hb4 cV4 hV4
   have pp0:=cW1 (v:=.slice jA jq.length jc) 11 (h4.get 0) rfl
   have xx0:=cW1 (v:=.slice none 0 0) 2 (h4.get 3) rfl
   have ff0:=fW0 V4 _ 2 _ _ (h4.get 3)
   go_upto_region 14 with (fail)
   have h4p:=h4.put 3 2 (.slice jA jq.length jc)
   have h5:=h4p
   clear pp0 xx0 ff0 h4 h4p
   generalize (V4.setCell ⟨w.heap.size+3,2,none⟩ (.slice jA jq.length jc))=V5 at *
   have K4:=K4.out
   go_wp2_with (refine ldR 1 sz_in ag_in (h5.get 0) ?_)
   (with_reducible refine (K4 nk (gk.wl jA jq.length jc) V5 (KV _ (h5.below HB4.out))).mono ?_)
   rintro _ U6 ⟨g4,rfl,hb6⟩
   have hc6:=h5.call hb6
   go_upto_region 15 with (refine stU 1 52 sz_in (hc6.get 0) rfl ?_;intro V6 hV6 cV6)
   have h6:=hc6.store 0 rfl cV6 hV6
   clear h5 hc6 hb6 cV6 hV6
   have p3:=cW1 (v:=.int .i64 (Nb:Int)) 3 (h6.get 0) rfl
   go_wp2_with fail
   clear p3 K3 K4
   have hs:=h6.start (by intro p hp;simp at hp;rcases hp with rfl|rfl|rfl|rfl<;>simp [Sv])
   have HBUb:Hid (Bl w V6):=hI0 (h6.below HB4.out)
   have HLDacu:=hI0 (HLDac.out.carry isK_T h6.chg)
   have HLDku:=hI0 (HLDk.out.carry isK_T h6.chg)
   clear h6
   go_loopw [9] (fun i wr=>∃(Q:List RFor) (st:Int×Int) (n':Int) (g':InR) (o:Value),i=.int .i64 (Q.length:Int)∧Hid (LI 278 2 RFor.enc RFor.is w.heap.size (Sv w.heap.size 4) V6 [(w.heap.size,(inC (.slice bA l.length bc) st n' g'),152),(w.heap.size+1,inZ,152),(w.heap.size+2,#[.string ⟨#[]⟩,.slice none 0 0,.slice none 0 0,.slice none 0 0,.slice none 0 0],75),(w.heap.size+3,#[.string x1,.slice Aoa Qa.length coa,.slice jA jq.length jc,o,.slice none 0 0],75)] wr o Q)∧Hid (LP (rdFor l) RFor.er Nb l.length Q st resb)) (fun i _=>Nb-(intOf i).toNat)
   case atStart=>exact ⟨[],(kb1,eb1),_,_,_,rfl,hI0 (LI.init hs),hI0 (by rw [Hresb.out];exact LP.init HBDNb.out)⟩
   obtain ⟨Qb,⟨kb,erb⟩,n'b,g'b,o,rfl,HI_b,HPb⟩:=hrel
   obtain ⟨wib,rfl⟩:=eN0 wr
   obtain ⟨Aob,cob,rfl,o1,o2,o3⟩:=Rd.open_ (Rd.of_own HI_b.out.own)
   have hs:=HI_b.out.start (by intro p hp;simp at hp;rcases hp with rfl|rfl|rfl|rfl<;>simp [Sv])
   have HBWb:Hid (Bl w wib):=hI0 (HI_b.out.fr.below HBUb.out)
   have c2:=cW1 (v:=.int .i64 erb) 2 (hs.get 0) rfl
   have o1b:=o1
   clear o1 o2 o3
   by_cases hgo:Qb.length<Nb∧erb=0
   case neg=>
    have HFb:Hid (resb=(Qb.map RFor.er,(kb,erb))):=hI0 (HPb.out.stop hgo)
    have HLDb:Hid (LD 2 RFor.enc RFor.is (Sv w.heap.size 4) w.heap.size wib (.slice Aob Qb.length cob) Qb):=hI0 (HI_b.out.ld isK_For HBUb.out.size)
    have HLDacuw:=hI0 (HLDacu.out.carry isK_T HI_b.out.fr.chg)
    have HLDkuw:=hI0 (HLDku.out.carry isK_T HI_b.out.fr.chg)
    by_cases hlt:Qb.length<Nb
    all_goals first|(have hil2:¬(Qb.length:Int)<(Nb:Int):=by omega)|(have hil2:(Qb.length:Int)<(Nb:Int):=(by omega);have her:¬erb=0:=fun g=>hgo ⟨hlt,g⟩)
    all_goals go_upto_region 25 with (fail)
    all_goals clear c2 hgo hlt hil2
    all_goals try clear her
    all_goals
     have K5:=K5.out
     rw [HFb.out] at K5
     go_wp2_with (refine ldR 1 sz_in ag_in (hs.get 0) ?_)
     (with_reducible refine (K5 n'b g'b wib (KV _ (hs.below HBWb.out))).mono ?_)
     rintro _ U7 ⟨g5,rfl,hb7⟩
     have hc7:=hs.call hb7
     go_upto_region 26 with (refine stU 1 83 sz_in (hc7.get 0) rfl ?_;intro V7 hV7 cV7)
     have h7:=hc7.store 0 rfl cV7 hV7
     clear hs hc7 hb7 cV7 hV7
     have p3:=cW1 (v:=.int .i64 (Nc:Int)) 3 (h7.get 0) rfl
     go_wp2_with fail
     clear p3 K5
     have hs:=h7.start (by intro p hp;simp at hp;rcases hp with rfl|rfl|rfl|rfl<;>simp [Sv])
     have HBUc:Hid (Bl w V7):=hI0 (h7.below HBWb.out)
     have HLDacuwu:=hI0 (HLDacuw.out.carry isK_T h7.chg)
     have HLDkuwu:=hI0 (HLDkuw.out.carry isK_T h7.chg)
     have HLDbu:=hI0 (HLDb.out.carry isK_For h7.chg)
     clear h7
     go_loopw [11] (fun i wr=>∃(Q:List RE) (st:Int×Int) (n':Int) (g':InR) (o:Value),i=.int .i64 (Q.length:Int)∧Hid (LI 212 7 RE.enc exAll w.heap.size (Sv w.heap.size 4) V7 [(w.heap.size,(inC (.slice bA l.length bc) st n' g'),152),(w.heap.size+1,inZ,152),(w.heap.size+2,#[.string ⟨#[]⟩,.slice none 0 0,.slice none 0 0,.slice none 0 0,.slice none 0 0],75),(w.heap.size+3,#[.string x1,.slice Aoa Qa.length coa,.slice jA jq.length jc,.slice Aob Qb.length cob,o],75)] wr o Q)∧Hid (LP (rdX l 24) RE.er Nc l.length Q st resc)) (fun i _=>Nc-(intOf i).toNat)
     case atStart=>exact ⟨[],(kc1,ec1),_,_,_,rfl,hI0 (LI.init hs),hI0 (by rw [Hresc.out];exact LP.init HBDNc.out)⟩
     obtain ⟨Qc,⟨kc,erc⟩,n'c,g'c,o,rfl,HI_c,HPc⟩:=hrel
     obtain ⟨wic,rfl⟩:=eN0 wr
     obtain ⟨Aoc,coc,rfl,o1,o2,o3⟩:=Rd.open_ (Rd.of_own HI_c.out.own)
     have hs:=HI_c.out.start (by intro p hp;simp at hp;rcases hp with rfl|rfl|rfl|rfl<;>simp [Sv])
     have HBWc:Hid (Bl w wic):=hI0 (HI_c.out.fr.below HBUc.out)
     have c2:=cW1 (v:=.int .i64 erc) 2 (hs.get 0) rfl
     have o1c:=o1
     clear o1 o2 o3
     by_cases hgo:Qc.length<Nc∧erc=0
     case neg=>
      have HFc:Hid (resc=(Qc.map RE.er,(kc,erc))):=hI0 (HPc.out.stop hgo)
      have HLDc:Hid (LD 7 RE.enc exAll (Sv w.heap.size 4) w.heap.size wic (.slice Aoc Qc.length coc) Qc):=hI0 (HI_c.out.ld isK_X HBUc.out.size)
      have HLDacuwuw:=hI0 (HLDacuwu.out.carry isK_T HI_c.out.fr.chg)
      have HLDkuwuw:=hI0 (HLDkuwu.out.carry isK_T HI_c.out.fr.chg)
      have HLDbuw:=hI0 (HLDbu.out.carry isK_For HI_c.out.fr.chg)
      by_cases hlt:Qc.length<Nc
      all_goals first|(have hil2:¬(Qc.length:Int)<(Nc:Int):=by omega)|(have hil2:(Qc.length:Int)<(Nc:Int):=(by omega);have her:¬erc=0:=fun g=>hgo ⟨hlt,g⟩)
      all_goals go_upto_region 33 with (fail)
      all_goals clear c2 hgo hlt hil2
      all_goals try clear her
      all_goals
       have H0:=hI0 hs
       have hq0:=(hs.get 0)
       have hq1:=hs.get 1
       have hq2:=hs.get 2
       have hq3:=hs.get 3
       obtain ⟨Y1,hY1⟩:=eN0 (wic.drew.setRow (w.heap.size+1) (inC (.slice bA l.length bc) (kc,erc) n'c g'c))
       have cY1:Chg (·=w.heap.size+1) wic Y1:=by rw [hY1];exact (Chg.refl (·=w.heap.size+1) wic).drew.trans (chg_setRow _ _ _) (fun _ _ h=>h)
       have hY11:Y1.heap[w.heap.size+1]? =some (.cells (inC (.slice bA l.length bc) (kc,erc) n'c g'c) 152 (0,0)):=by rw [hY1];exact setRow_heap _ _ _ _ _ _ hq1
       have k1:=hs.store 1 rfl cY1 hY11
       obtain ⟨Y2,hY2⟩:=eN0 (Y1.setRow (w.heap.size+2) #[.string x1,.slice Aoa Qa.length coa,.slice jA jq.length jc,.slice Aob Qb.length cob,.slice Aoc Qc.length coc])
       have cY2:Chg (·=w.heap.size+2) Y1 Y2:=by rw [hY2];exact chg_setRow _ _ _
       have hY22:Y2.heap[w.heap.size+2]? =some (.cells #[.string x1,.slice Aoa Qa.length coa,.slice jA jq.length jc,.slice Aob Qb.length cob,.slice Aoc Qc.length coc] 75 (0,0)):=by rw [hY2];exact setRow_heap _ _ _ _ _ _ (k1.get 2)
       have k2:=k1.store 2 rfl cY2 hY22
       have HY1:=hI0 hY1
       have HY2:=hI0 hY2
       clear hY1 hY2
       refine wp_region_noPanic ?_
       refine wp_region_held_drew (S:=(fun Y=>Y.heap[w.heap.size]? =some (.cells (inC (.slice bA l.length bc) (kc,erc) n'c g'c) 152 (0,0))∧Y.heap[w.heap.size+3]? =some (.cells #[.string x1,.slice Aoa Qa.length coa,.slice jA jq.length jc,.slice Aob Qb.length cob,.slice Aoc Qc.length coc] 75 (0,0)))) (by kernel_rfl) ?_ (fun zh=>?_)
       ·exact ⟨hq0,hq3⟩
       refine heldTake 0 (some 108) (v:=.agg (inC (.slice bA l.length bc) (kc,erc) n'c g'c)) rfl rfl (by kernel_rfl) (by kernel_rfl) (by kernel_rfl) (by rfl) zh (fun _ _ _ h=>h) (fun w' hSw=>exec_loadRow (cs:=(inC (.slice bA l.length bc) (kc,erc) n'c g'c)) (T:=w.heap.size) (t:=152) (.tmp 1) rfl rfl sz_in ag_in hSw.1) ?_
       simp only [aP]
       refine heldTake 1 (some 109) (v:=.agg #[.string x1,.slice Aoa Qa.length coa,.slice jA jq.length jc,.slice Aob Qb.length cob,.slice Aoc Qc.length coc]) rfl rfl (by kernel_rfl) (by kernel_rfl) (by kernel_rfl) (by rfl) zh (fun _ _ _ h=>h) (fun w' hSw=>exec_loadRow (cs:=#[.string x1,.slice Aoa Qa.length coa,.slice jA jq.length jc,.slice Aob Qb.length cob,.slice Aoc Qc.length coc]) (T:=w.heap.size+3) (t:=75) (.tmp 4) rfl rfl sz_rtab ag_rtab hSw.2) ?_
       simp only [aP]
       refine heldSkipRun 2 none (w':=Y1) rfl rfl (by kernel_rfl) (by rfl) (by rw [HY1.out];exact exec_storeRow (cur:=inZ) (vs:=(inC (.slice bA l.length bc) (kc,erc) n'c g'c)) (t:=152) (H:=w.heap.size+1) (.tmp 2) (.tmp 108) rfl rfl rfl sz_in rfl rfl hq1) ⟨k1.get 0,k1.get 3⟩ ?_
       simp only [Act.put]
       refine heldSkipRun 3 none (w':=Y2) rfl rfl (by kernel_rfl) (by rfl) (by rw [HY2.out];exact exec_storeRow (cur:=#[.string ⟨#[]⟩,.slice none 0 0,.slice none 0 0,.slice none 0 0,.slice none 0 0]) (vs:=#[.string x1,.slice Aoa Qa.length coa,.slice jA jq.length jc,.slice Aob Qb.length cob,.slice Aoc Qc.length coc]) (t:=75) (H:=w.heap.size+2) (.tmp 3) (.tmp 109) rfl rfl rfl sz_rtab rfl rfl (k1.get 2)) ⟨k2.get 0,k2.get 3⟩ ?_
       simp only [Act.put]
       refine rD0 ?_
       go_wp2_with fail
       rw [HFc.out]
       exact bodyPost_ret (v:=.tuple #[.agg (inC (.slice bA l.length bc) (kc,erc) n'c g'c),.agg #[.string x1,.slice Aoa Qa.length coa,.slice jA jq.length jc,.slice Aob Qb.length cob,.slice Aoc Qc.length coc]]) (res_two results172 rfl rfl (run_varRow sz_in ag_in (k2.get 1)) (run_varRow sz_rtab ag_rtab (k2.get 2))) rfl ⟨n'c,g'c,⟨x1,Aoa,coa,Qa,jA,jc,jq,Aob,cob,Qb,Aoc,coc,Qc⟩,rfl,⟨(LD.fin (HLDacuwuw.out.carry isK_T k2.chg) isK_T (Nat.le_refl _)).1,(LD.fin (HLDkuwuw.out.carry isK_T k2.chg) isK_T (Nat.le_refl _)).1,(LD.fin (HLDbuw.out.carry isK_For k2.chg) isK_For (Nat.le_refl _)).1,(LD.fin (HLDbuw.out.carry isK_For k2.chg) isK_For (Nat.le_refl _)).2,(LD.fin (HLDc.out.carry isK_X k2.chg) isK_X (Nat.le_refl _)).1,(LD.fin (HLDc.out.carry isK_X k2.chg) isK_X (Nat.le_refl _)).2⟩,by simp [RTab.er,HFa.out,HFb.out],k2.below HBWc.out⟩
     obtain rfl:erc=0:=hgo.2
     have hil2:(Qc.length:Int)<(Nc:Int):=by have:=hgo.1;omega
     rcases hx:rdX l 24 (kc,0) with ⟨x0,st'⟩
     have KN:=fun V (hV:RdB V (ltw V) (.slice bA l.length bc) l)=>exprC 24 24 (kc,0) n'c g'c (.slice bA l.length bc) l V hV hl rfl (by decide) (fun h=>by cases h)
     rw [hx] at KN
     have HX1:=hI0 hx
     clear hx
     go_upto_region 30 with (fail)
     go_wp2_with (refine ldR 1 sz_in ag_in (hs.get 0) ?_)
     (with_reducible refine (KN wic (KV _ (hs.below HBWc.out))).mono ?_)
     rintro _ V2 ⟨n2,g2,x,rfl,hX,hxe,hb2⟩
     obtain ⟨z1,z2,⟨z3,z4,z5⟩,z6,zA,zc,zq⟩:=x
     have hc:=hs.call hb2
     have hpre:=hI0 hc
     have HSC:=hI0 hs.chg.size
     have HSL:=hI0 (fun i hi=>(hs.lts.1 i hi).2)
     have HBc:=hI0 (hc.below HBWc.out)
     have hst:=hc.start (by intro p hp;simp at hp;rcases hp with rfl|rfl|rfl|rfl<;>simp [Sv])
     have ha:=hst.alloc2 inZ #[.int .i64 0,.int .i64 0,.int .i64 0,.int .i64 0,.string ⟨#[]⟩,.string ⟨#[]⟩,.slice none 0 0] 152 212
     have HX:=hI0 hX
     have HXE:=hI0 hxe
     clear hX hxe hb2 hc hst
     go_upto_region 31 with (first|(refine stU 12 99 sz_in (ha.get 4) rfl ?_;intro Va hVa cVa)|(refine stU (vs:=#[.int .i64 z1,.int .i64 z2,.int .i64 z3,.int .i64 z4,.string z5,.string z6,.slice zA zq.length zc]) 13 100 sz_rexp ((ha.store 4 rfl cVa hVa).get 5) rfl ?_;intro Vb hVb cVb))
     have hb:=(ha.store 4 rfl cVa hVa).store 5 rfl cVb hVb
     clear ha cVa hVa cVb hVb
     go_upto_region 32 with (first|(refine ldR 12 sz_in ag_in (hb.get 4) ?_)|(refine stU 1 101 sz_in (hb.get 0) rfl ?_;intro Vc hVc cVc))
     have hd:=hb.store 0 rfl cVc hVc
     clear hb cVc hVc hs
     have HK:=hI0 (hpre.out.trans hd)
     have HOA:=hI0 (HI_c.out.row (O:=(.cells #[.int .i64 z1,.int .i64 z2,.int .i64 z3,.int .i64 z4,.string z5,.string z6,.slice zA zq.length zc] 212)) HK.out)
     have HNEW:=hI0 (Rd.new' Vc Vc.heap.size rfl [.int .i64 z1,.int .i64 z2,.int .i64 z3,.int .i64 z4,.string z5,.string z6,.slice zA zq.length zc] 212 7 1 rfl (by decide))
     have hz9:V7.heap.size≤Vc.heap.size:=Nat.le_trans HI_c.out.fr.chg.size HK.out.chg.size
     have hi5:Qc.length≤1048577:=by have:=HPc.out.lenb;omega
     have xo:=cW1 (v:=.slice Aoc Qc.length coc) 4 (hd.get 3) rfl
     have HIX:=hI0 (FR.isK (x:=(RE.mk z1 z2 ⟨z3,z4,z5⟩ z6 zA zc zq)) hd isK_X HX.out HSC.out HSL.out)
     go_wp2_with (first|(refine ldR 13 sz_rexp ag_rexp (hd.get 5) ?_)|(at_builtin;refine wpList_append_app (Vc.alloc (.cells #[.int .i64 z1,.int .i64 z2,.int .i64 z3,.int .i64 z4,.string z5,.string z6,.slice zA zq.length zc] 212)) rfl (.tmp 103) (.tmp 105) 73 rfl V7.heap.size 212 i0c _ 7 88 underlying73 HIc.out HZ0c.out HZ1c.out HZ2c.out rfl (by omega) (.slice Aoc Qc.length coc) Qc.length (Qc.flatMap RE.enc) rfl (.inl HOA.out) (·=Vc.heap.size) _ 1 [.int .i64 z1,.int .i64 z2,.int .i64 z3,.int .i64 z4,.string z5,.string z6,.slice zA zq.length zc] rfl HNEW.out (fun u hu=>by simp only [List.mem_cons,List.not_mem_nil,or_false] at hu;rcases hu with rfl|rfl|rfl|rfl|rfl|rfl|rfl<;>rfl) (by unfold maxLen;omega) (by omega) (by simp;omega) ?_;intro v3 w3 _ hO3 hg3 hb3 hv3;have HLI:=HI_c.out.step (x:=(RE.mk z1 z2 ⟨z3,z4,z5⟩ z6 zA zc zq)) isK_X HK.out HIX.out (hO3 (.inl (by omega))) hg3 hv3;obtain ⟨A3,c3,h3e,_,_,_⟩:=Rd.open_ (Rd.of_own HLI.own);rw [List.length_append,List.length_singleton] at h3e;subst h3e;have y3:w3.cell? ⟨w.heap.size+3,4,none⟩=some (.slice Aoc Qc.length coc):=cW0 w3 _ 4 _ _ _ (HLI.fr.get 3);have f3:=fW0 w3 _ 4 _ _ (HLI.fr.get 3)))
     have HL2:=hI0 ((HLI.take 4).put (X:=w.heap.size+3) isK_X 3 4 (.slice A3 (Qc.length+1) c3) (by simp [Sv]))
     clear hO3 hg3 hb3 hv3 HLI y3 f3 xo
     go_wp2_with fail
     go_roundw
     case rel=>exact ⟨Qc++[(RE.mk z1 z2 ⟨z3,z4,z5⟩ z6 zA zc zq)],st',n2,g2,.slice A3 (Qc.length+1) c3,by simp,hI0 HL2.out,hI0 (HPc.out.step (mon_X 24) ⟨hgo.1,rfl⟩ HX1.out HXE.out)⟩
     case measure=>have:=hgo.1;simp [intOf];omega
   obtain rfl:erb=0:=hgo.2
   have hil2:(Qb.length:Int)<(Nb:Int):=by have:=hgo.1;omega
   rcases hi1:rdL l (rdI l) (kb,0) with ⟨ys,t1⟩
   rcases hi2:rdT l t1 with ⟨yn,st'⟩
   have hx:rdFor l (kb,0)=(⟨none,0,ys,yn⟩,st'):=by simp only [rdFor,hi1,hi2]
   have HX1:=hI0 hx
   have KI:=fun V (hV:RdB V (ltw V) (.slice bA l.length bc) l)=>intsC (.slice bA l.length bc) (kb,0) n'b g'b l V hV hl
   rw [hi1] at KI
   have KT:=fun n g V (hV:RdB V (ltw V) (.slice bA l.length bc) l)=>textC (.slice bA l.length bc) t1 n g l V hV
   rw [hi2] at KT
   clear hx hi1 hi2
   go_upto_region 19 with (fail)
   clear c2
   obtain ⟨X,hX⟩:=eN0 wib.heap.size
   obtain ⟨V7,hV7⟩:=eN0 (wib.alloc (.cells #[.slice none 0 0,.string ⟨#[]⟩] 278))
   have hw7:=hs.alloc #[.slice none 0 0,.string ⟨#[]⟩] 278
   have h7:=hs.more (by intro p hp;simp at hp;rcases hp with rfl|rfl|rfl|rfl<;>simp [Sv]) #[.slice none 0 0,.string ⟨#[]⟩] 278
   have hxlX:wib.heap.size≤X:=by rw [hX];exact hs.chg.size
   rw [←hV7,←hX] at hw7 h7
   go_upto_region 20 with (fail)
   rw [←hV7,←hX]
   have HWX:=hI0 hw7
   have HXLX:=hI0 hxlX
   have HB7:Hid (Bl w V7):=hI0 (hw7.below HBWb.out)
   clear hV7 hX hw7 hxlX hs
   go_wp2_with (refine ldR 1 sz_in ag_in (h7.get 0) ?_)
   (with_reducible refine (KI V7 (KV _ (h7.below HB7.out))).mono ?_)
   rintro _ U8 ⟨jn2,jg2,jA2,jc2,jq2,rfl,hkr,hke,hb8⟩
   have hc8:=h7.call hb8
   obtain rfl:jq2=ys:=by simpa using hke
   have HKR:=hI0 hkr
   have HSL:=hI0 (fun i hi=>(h7.lts.1 i hi).2)
   have HSZ:=hI0 h7.chg.size
   clear hkr hke
   have HB8:=hI0 (hc8.below HB7.out)
   have hs8:=hc8.start (by intro p hp;simp at hp;rcases hp with rfl|rfl|rfl|rfl|rfl<;>simp [Sv,Sx])
   have HPC:=hI0 hc8
   go_upto_region 21 with (refine stU 1 67 sz_in (hs8.get 0) rfl ?_;intro V8 hV8 cV8)
   have h8:=hs8.store 0 rfl cV8 hV8
   clear h7 hc8 hs8 hb8 cV8 hV8
   have pp0:=cW1 (v:=.slice jA2 jq2.length jc2) 11 (h8.get 0) rfl
   have xx0:=cW1 (v:=.slice none 0 0) 0 (h8.get 4) rfl
   have ff0:=fW0 V8 _ 0 _ _ (h8.get 4)
   go_upto_region 22 with (fail)
   have h8p:=h8.put 4 0 (.slice jA2 jq2.length jc2)
   have h9:=h8p
   clear pp0 xx0 ff0 h8 h8p
   generalize (V8.setCell ⟨X,0,none⟩ (.slice jA2 jq2.length jc2))=V9 at *
   go_wp2_with (refine ldR 1 sz_in ag_in (h9.get 0) ?_)
   (with_reducible refine (KT jn2 (jg2.wl jA2 jq2.length jc2) V9 (KV _ (h9.below HB8.out))).mono ?_)
   rintro _ U10 ⟨n3,g3,rfl,hb10⟩
   have hc10:=h9.call hb10
   go_upto_region 23 with (refine stU 1 72 sz_in (hc10.get 0) rfl ?_;intro V10 hV10 cV10)
   have h10:=hc10.store 0 rfl cV10 hV10
   clear h9 hc10 hb10 cV10 hV10
   have pp0:=cW1 (v:=.string yn) 4 (h10.get 0) rfl
   have xx0:=cW1 (v:=.string ⟨#[]⟩) 1 (h10.get 4) rfl
   have ff0:=fW0 V10 _ 1 _ _ (h10.get 4)
   go_upto_region 24 with (fail)
   have h10p:=h10.put 4 1 (.string yn)
   have h11:=h10p
   clear pp0 xx0 ff0 h10 h10p
   generalize (V10.setCell ⟨X,1,none⟩ (.string yn))=V11 at *
   have HK:=hI0 (HWX.out.outer (HPC.out.trans h11) (fun i hi hs=>hs.elim id (fun e=>by have:=HXLX.out;omega)))
   have HOA:=hI0 (HI_b.out.row (O:=(.cells #[.slice jA2 jq2.length jc2,.string yn] 278)) HK.out)
   have HNEW:=hI0 (Rd.new' V11 V11.heap.size rfl [.slice jA2 jq2.length jc2,.string yn] 278 2 1 rfl (by decide))
   have hz9:V6.heap.size≤V11.heap.size:=Nat.le_trans HI_b.out.fr.chg.size HK.out.chg.size
   have hi5:Qb.length≤1048577:=by have:=HPb.out.lenb;omega
   have xo:=cW1 (v:=.slice Aob Qb.length cob) 3 (h11.get 3) rfl
   have HIX:=hI0 (FR.isK (IS:=RFor.is) (d':=wib.heap.size) (x:=(⟨jA2,jc2,jq2,yn⟩:RFor)) h11 isK_For HKR.out (Nat.le_trans HWX.out.chg.size HSZ.out) HSL.out)
   go_wp2_with (first|(refine ldR 10 sz_rfor ag_rfor (h11.get 4) ?_)|(at_builtin;refine wpList_append_app (V11.alloc (.cells #[.slice jA2 jq2.length jc2,.string yn] 278)) rfl (.tmp 77) (.tmp 79) 72 rfl V6.heap.size 278 i0b _ 2 40 underlying72 HIb.out HZ0b.out HZ1b.out HZ2b.out rfl (by omega) (.slice Aob Qb.length cob) Qb.length (Qb.flatMap RFor.enc) rfl (.inl HOA.out) (·=V11.heap.size) _ 1 [.slice jA2 jq2.length jc2,.string yn] rfl HNEW.out (fun u hu=>by simp only [List.mem_cons,List.not_mem_nil,or_false] at hu;rcases hu with rfl|rfl<;>rfl) (by unfold maxLen;omega) (by omega) (by simp;omega) ?_;intro v3 w3 _ hO3 hg3 hb3 hv3;have HLI:=HI_b.out.step (x:=(⟨jA2,jc2,jq2,yn⟩:RFor)) isK_For HK.out HIX.out (hO3 (.inl (by omega))) hg3 hv3;obtain ⟨A3,c3,h3e,_,_,_⟩:=Rd.open_ (Rd.of_own HLI.own);rw [List.length_append,List.length_singleton] at h3e;subst h3e;have y3:w3.cell? ⟨w.heap.size+3,3,none⟩=some (.slice Aob Qb.length cob):=cW0 w3 _ 3 _ _ _ (HLI.fr.get 3);have f3:=fW0 w3 _ 3 _ _ (HLI.fr.get 3)))
   have HL2:=hI0 ((HLI.take 4).put (X:=w.heap.size+3) isK_For 3 3 (.slice A3 (Qb.length+1) c3) (by simp [Sv]))
   clear hO3 hg3 hb3 hv3 HLI y3 f3 xo
   go_wp2_with fail
   go_roundw
   case rel=>exact ⟨Qb++[(⟨jA2,jc2,jq2,yn⟩:RFor)],st',n3,(g3.ws yn),.slice A3 (Qb.length+1) c3,by simp,hI0 HL2.out,hI0 (HPb.out.step mon_For ⟨hgo.1,rfl⟩ HX1.out rfl)⟩
   case measure=>have:=hgo.1;simp [intOf];omega
 obtain rfl:era=0:=hgo.2
 have hil2:(Qa.length:Int)<(Na:Int):=by have:=hgo.1;omega
 rcases hx:rdCol l (ka,0) with ⟨x0,st'⟩
 have KN:=fun V (hV:RdB V (ltw V) (.slice bA l.length bc) l)=>colC (.slice bA l.length bc) (ka,0) n'a g'a l V hV
 rw [hx] at KN
 have HX1:=hI0 hx
 clear hx
 go_upto_region 9 with (fail)
 go_wp2_with (refine ldR 1 sz_in ag_in (hs.get 0) ?_)
 (with_reducible refine (KN wia (KV _ (hs.below HBWa.out))).mono ?_)
 rintro _ V2 ⟨n2,g2,x,rfl,hX,hxe,hb2⟩
 obtain ⟨z1,z2,z3⟩:=x
 have hc:=hs.call hb2
 have hpre:=hI0 hc
 have HSC:=hI0 hs.chg.size
 have HSL:=hI0 (fun i hi=>(hs.lts.1 i hi).2)
 have HBc:=hI0 (hc.below HBWa.out)
 have hst:=hc.start (by intro p hp;simp at hp;rcases hp with rfl|rfl|rfl|rfl<;>simp [Sv])
 have ha:=hst.alloc2 inZ #[.string ⟨#[]⟩,.int .i64 0,.bool false] 152 77
 have HX:=hI0 hX
 have HXE:=hI0 hxe
 clear hX hxe hb2 hc hst
 go_upto_region 10 with (first|(refine stU 7 37 sz_in (ha.get 4) rfl ?_;intro Va hVa cVa)|(refine stU (vs:=#[.string z1,.int .i64 z2,.bool z3]) 8 38 sz_rcol ((ha.store 4 rfl cVa hVa).get 5) rfl ?_;intro Vb hVb cVb))
 have hb:=(ha.store 4 rfl cVa hVa).store 5 rfl cVb hVb
 clear ha cVa hVa cVb hVb
 go_upto_region 11 with (first|(refine ldR 7 sz_in ag_in (hb.get 4) ?_)|(refine stU 1 39 sz_in (hb.get 0) rfl ?_;intro Vc hVc cVc))
 have hd:=hb.store 0 rfl cVc hVc
 clear hb cVc hVc hs
 have HK:=hI0 (hpre.out.trans hd)
 have HOA:=hI0 (HI_a.out.row (O:=(.cells #[.string z1,.int .i64 z2,.bool z3] 77)) HK.out)
 have HNEW:=hI0 (Rd.new' Vc Vc.heap.size rfl [.string z1,.int .i64 z2,.bool z3] 77 3 1 rfl (by decide))
 have hz9:V3.heap.size≤Vc.heap.size:=Nat.le_trans HI_a.out.fr.chg.size HK.out.chg.size
 have hi5:Qa.length≤1048577:=by have:=HPa.out.lenb;omega
 have xo:=cW1 (v:=.slice Aoa Qa.length coa) 1 (hd.get 3) rfl
 have HIX:=hI0 trivial
 go_wp2_with (first|(refine ldR 8 sz_rcol ag_rcol (hd.get 5) ?_)|(at_builtin;refine wpList_append_app (Vc.alloc (.cells #[.string z1,.int .i64 z2,.bool z3] 77)) rfl (.tmp 41) (.tmp 43) 71 rfl V3.heap.size 77 i0a _ 3 32 underlying71 HIa.out HZ0a.out HZ1a.out HZ2a.out rfl (by omega) (.slice Aoa Qa.length coa) Qa.length (Qa.flatMap RCol.enc) rfl (.inl HOA.out) (·=Vc.heap.size) _ 1 [.string z1,.int .i64 z2,.bool z3] rfl HNEW.out (fun u hu=>by simp only [List.mem_cons,List.not_mem_nil,or_false] at hu;rcases hu with rfl|rfl|rfl<;>rfl) (by unfold maxLen;omega) (by omega) (by simp;omega) ?_;intro v3 w3 _ hO3 hg3 hb3 hv3;have HLI:=HI_a.out.step (x:=(⟨z1,z2,z3⟩:RCol)) isK_T HK.out HIX.out (hO3 (.inl (by omega))) hg3 hv3;obtain ⟨A3,c3,h3e,_,_,_⟩:=Rd.open_ (Rd.of_own HLI.own);rw [List.length_append,List.length_singleton] at h3e;subst h3e;have y3:w3.cell? ⟨w.heap.size+3,1,none⟩=some (.slice Aoa Qa.length coa):=cW0 w3 _ 1 _ _ _ (HLI.fr.get 3);have f3:=fW0 w3 _ 1 _ _ (HLI.fr.get 3)))
 have HL2:=hI0 ((HLI.take 4).put (X:=w.heap.size+3) isK_T 3 1 (.slice A3 (Qa.length+1) c3) (by simp [Sv]))
 clear hO3 hg3 hb3 hv3 HLI y3 f3 xo
 go_wp2_with fail
 go_roundw
 case rel=>exact ⟨Qa++[(⟨z1,z2,z3⟩:RCol)],st',n2,g2,.slice A3 (Qa.length+1) c3,by simp,hI0 HL2.out,hI0 (HPa.out.step mon_Col ⟨hgo.1,rfl⟩ HX1.out HXE.out)⟩
 case measure=>have:=hgo.1;simp [intOf];omega
theorem entriesC (b:Value) (s:Int×Int) (n:Int) (g:InR) (l:List UInt8) (w:World) (hv:RdB w (ltw w) b l) (hl:l.length≤1048576):Calls prog 75 #[.agg (inC b s n g)] w (RIl b 16 REn.enc enIs REn.er (rdL l (rdEnt l) s) w):=by
 exact zq1 0
end Go.Proofs.YtbfdegkickjbpaaGreat
