/-
 Rr1
-/
import Derived.Test.YtbfdegkickjbpaaGreatVSeg1
import Derived.Test.YtbfdegkickjbpaaGreatVDc4
import Derived.Test.YtbfdegkickjbpaaGreatVDc1
import Derived.Test.YtbfdegkickjbpaaGreatVDc3
import Derived.Test.YtbfdegkickjbpaaGreatVDc2
import Derived.Test.YtbfdegkickjbpaaGreatVRcO
namespace Go.Proofs.YtbfdegkickjbpaaGreat
open Go.Proofs.Tryz
set_option maxRecDepth 99999
set_option maxHeartbeats 0
theorem zq15 {P:Prop} (i:Nat) (h:Tg i→P:=by
 intro zT15
 obtain ⟨bA,bc,rfl,y1,y2,y3⟩:=Rd.open_ hv
 obtain ⟨W,hW⟩:=eN0 ((w.alloc (.cells (inC (.slice bA l.length bc) s n g) 152)).alloc (.cells #[.slice none 0 0,.int .i64 0,.int .i64 0,.int .i64 0,.string ⟨#[]⟩,.int .i64 0,.int .i64 0,.string ⟨#[]⟩,.slice none 0 0,.int .i64 0,.int .i64 0,.slice none 0 0] 152))
 have hi:=FR.init w (inC (.slice bA l.length bc) s n g) inZ 152
 have h:FR w.heap.size (Sv w.heap.size 2) W [(w.heap.size,inC (.slice bA l.length bc) s n g,152),(w.heap.size+1,inZ,152)] W:=by rw [hW];exact hi.1
 have hbW:Bl w W:=by rw [hW];exact hi.2
 clear hi
 have KV:∀V,Bl w V→RdB V (ltw V) (.slice bA l.length bc) l:=fun V hb=>hv.below hb
 have HB:=hI0 hbW
 clear hv hbW
 first
  |guard_hyp zT15:Tg 2;rcases hd:rdI l s with ⟨m,k2,e2⟩
   have he0:(m<0)→e2=0:=fun hm=>by
    by_cases he:e2=0
    ·exact he
    ·have:=rdI_err (l:=l) (s:=s) (by rw [hd];exact he)
     rw [hd] at this
     simp only at this
     omega
   have KN:=fun V (hV:RdB V (ltw V) (.slice bA l.length bc) l)=>numC (.slice bA l.length bc) s n g l V hV
   rw [hd] at KN
   by_cases hm:m<0
   case pos=>
    exact zq57 1
   rw [show mnyF l s=(m,k2,e2) from by unfold mnyF;rw [hd];exact if_neg hm]
   clear hd he0
  |guard_hyp zT15:Tg 1;rcases hd:rdI l s with ⟨m,k2,e2⟩
   have he0:(m≠0∧m≠1)→e2=0:=fun hm=>by
    by_cases he:e2=0
    ·exact he
    ·have:=rdI_err (l:=l) (s:=s) (by rw [hd];exact he)
     rw [hd] at this
     simp only at this
     omega
   have KN:=fun V (hV:RdB V (ltw V) (.slice bA l.length bc) l)=>numC (.slice bA l.length bc) s n g l V hV
   rw [hd] at KN
   by_cases hm:m≠0∧m≠1
   case pos=>
    exact zq57 0
   rw [show flagF l s=(m,k2,e2) from by unfold flagF;rw [hd];exact if_neg hm]
   clear hd he0
  |rcases hd:mnyF l s with ⟨mN,k1,e1⟩
   have hbdN:=mny_bd l s
   have hpsN:=mnyF_pos l s
   rw [hd] at hbdN hpsN
   obtain ⟨N,rfl⟩:=Int.eq_ofNat_of_zero_le hpsN
   have hN:(N:Int)≤9223372036854775807:=hbdN.1
   have HBDN:=hI0 hbdN.2
   clear hbdN hpsN
   rw [show rdL l (rdI l) s=getS (rdI l) N (k1,e1) from by rw [rdL_many,hd];rfl]
   obtain ⟨res,hres⟩:=eN0 (getS (rdI l) N (k1,e1))
   rw [←hres]
   have HRES:=hI0 hres
   have KM:=fun V (hV:RdB V (ltw V) (.slice bA l.length bc) l)=>manyC (.slice bA l.length bc) s n g l V hV
   rw [hd] at KM
   obtain ⟨i0,hi,hz0,hz1,hz2⟩:=info_parts info_Int
   have HI:=hI0 hi
   have HZ0:=hI0 hz0
   have HZ1:=hI0 hz1
   have HZ2:=hI0 hz2
   clear hi hz0 hz1 hz2
   clear hres hd
 go_in
 go_upto_region 1 with (fail)
 rw [←hW]
 clear hW
 go_wp2_with (refine ldR 1 sz_in ag_in (h.get 0) ?_)
 first
  |guard_hyp zT15:Tg 0;(with_reducible refine (KM W (KV _ (h.below HB.out))).mono ?_)
  |(with_reducible refine (KN W (KV _ (h.below HB.out))).mono ?_)
 rintro _ U1 ⟨g2,rfl,hb1⟩
 have hc1:=h.call hb1
 first
  |guard_hyp zT15:Tg 0;go_upto_region 2 with (refine stU 1 7 sz_in (hc1.get 0) rfl ?_;intro V1 hV1 cV1)
  |go_upto_region 2 with (refine stU 1 4 sz_in (hc1.get 0) rfl ?_;intro V1 hV1 cV1)
 have h1:=hc1.store 0 rfl cV1 hV1
 clear h hc1 hb1 cV1 hV1
 first
  |guard_hyp zT15:Tg 0;have p3:=cW1 (v:=.int .i64 (N:Int)) 3 (h1.get 0) rfl
  |have p3:=cW1 (v:=.int .i64 m) 3 (h1.get 0) rfl
 first
  |guard_hyp zT15:Tg 2;have hm2:¬m<0:=by omega
   go_upto_region 4 with (fail)
   clear p3 hm2
   all_goals
    go_wp2_with (first|(refine ldR 1 sz_in ag_in (h1.get 0) ?_)|(refine stU 2 10 sz_in (h1.get 1) rfl ?_;intro E hE cE))
    have hE2:=h1.store 1 rfl cE hE
    exact bodyPost_ret (v:=.agg (inC (.slice bA l.length bc) (k2,e2) m g2)) (res_one results76 rfl (run_varRow sz_in ag_in (hE2.get 1))) rfl ⟨g2,rfl,hE2.below HB.out⟩
  |guard_hyp zT15:Tg 1;by_cases hz:m=0
   all_goals first|(have hm2:(m != 0)=false:=by simpa using hz)|(have hm2:(m != 0)=true:=(by simpa using hz);have hm3:(m != 1)=false:=by have e:m=1:=(by omega);simp [e])
   all_goals go_upto_region 4 with (fail)
   all_goals clear p3
   all_goals
    go_wp2_with (first|(refine ldR 1 sz_in ag_in (h1.get 0) ?_)|(refine stU 2 15 sz_in (h1.get 1) rfl ?_;intro E hE cE))
    have hE2:=h1.store 1 rfl cE hE
    exact bodyPost_ret (v:=.agg (inC (.slice bA l.length bc) (k2,e2) m g2)) (res_one results224 rfl (run_varRow sz_in ag_in (hE2.get 1))) rfl ⟨g2,rfl,hE2.below HB.out⟩
  |go_wp2_with fail
   clear p3 KM
   have hs:=h1.start (by intro p hp;simp at hp;rcases hp with rfl|rfl<;>simp [Sv])
   have HBU:Hid (Bl w V1):=hI0 (h1.below HB.out)
   clear h1
   go_loopw [4,5] (fun o i wr=>∃(Q:List Int) (st:Int×Int) (n':Int) (g':InR),i=.int .i64 (Q.length:Int)∧Hid (LI 3 1 intE isT w.heap.size (Sv w.heap.size 2) V1 [(w.heap.size,(inC (.slice bA l.length bc) st n' g'),152),(w.heap.size+1,inZ,152)] wr o Q)∧Hid (LP (rdI l) id N l.length Q st res)) (fun _ i _=>N-(intOf i).toNat)
   case atStart=>exact ⟨[],(k1,e1),_,_,rfl,hI0 (LI.init hs),hI0 (by rw [HRES.out];exact LP.init HBDN.out)⟩
   obtain ⟨Q,⟨k,er⟩,n',g',rfl,HI_,HP⟩:=hrel
   obtain ⟨wi,rfl⟩:=eN0 wr
   obtain ⟨Ao,co,rfl,o1,o2,o3⟩:=Rd.open_ (Rd.of_own HI_.out.own)
   have hs:=HI_.out.start (by intro p hp;simp at hp;rcases hp with rfl|rfl<;>simp [Sv])
   have HBW:Hid (Bl w wi):=hI0 (HI_.out.fr.below HBU.out)
   have c2:=cW1 (v:=.int .i64 er) 2 (hs.get 0) rfl
   clear o2 o3
   by_cases hgo:Q.length<N∧er=0
   case neg=>
    have HF:Hid (res=(Q.map id,(k,er))):=hI0 (HP.out.stop hgo)
    have HLD:Hid (LD 1 intE isT (Sv w.heap.size 2) w.heap.size wi (.slice Ao Q.length co) Q):=hI0 (HI_.out.ld isK_T HBU.out.size)
    have h8:=fW0 wi _ 11 _ _ (hs.get 0)
    have q8:=cW1 (v:=.slice g'.lA g'.ln g'.lc) 11 (hs.get 0) rfl
    by_cases hlt:Q.length<N
    all_goals first|(have hil2:¬(Q.length:Int)<(N:Int):=by omega)|(have hil2:(Q.length:Int)<(N:Int):=(by omega);have her:¬er=0:=fun g=>hgo ⟨hlt,g⟩)
    all_goals go_upto_region 10 with (fail)
    all_goals clear h8 q8
    all_goals
     have hp:=hs.put 0 11 (.slice Ao Q.length co)
     have h5:=hp
     clear hp
     generalize wi.setCell ⟨w.heap.size,11,none⟩ (.slice Ao Q.length co)=V5 at *
     go_wp2_with (first|(refine ldR 1 sz_in ag_in (h5.get 0) ?_)|(refine stU 2 29 sz_in (h5.get 1) rfl ?_;intro E hE cE))
     have hE2:=h5.store 1 rfl cE hE
     rw [HF.out]
     exact bodyPost_ret (v:=.agg (inC (.slice bA l.length bc) (k,er) n' (g'.wl Ao Q.length co))) (res_one results78 rfl (run_varRow sz_in ag_in (hE2.get 1))) rfl ⟨n',g',Ao,co,Q,rfl,(LD.fin (HLD.out.carry isK_T hE2.chg) isK_T (Nat.le_refl _)).1,by simp,hE2.below HBW.out⟩
   obtain rfl:er=0:=hgo.2
   have hil2:(Q.length:Int)<(N:Int):=by have:=hgo.1;omega
   rcases hx:rdI l (k,0) with ⟨x,st'⟩
   have KN:=fun V (hV:RdB V (ltw V) (.slice bA l.length bc) l)=>numC (.slice bA l.length bc) (k,0) n' g' l V hV
   rw [hx] at KN
   have HX1:=hI0 hx
   clear hx
   go_upto_region 7 with (fail)
   go_wp2_with (refine ldR 1 sz_in ag_in (hs.get 0) ?_)
   (with_reducible refine (KN wi (KV _ (hs.below HBW.out))).mono ?_)
   rintro _ U2 ⟨g2,rfl,hb2⟩
   have hc2:=hs.call hb2
   go_upto_region 8 with (refine stU 1 21 sz_in (hc2.get 0) rfl ?_;intro V2 hV2 cV2)
   have h2:=hc2.store 0 rfl cV2 hV2
   clear hs hc2 hb2 cV2 hV2
   have p3:=cW1 (v:=.int .i64 x) 3 (h2.get 0) rfl
   have HOA:=hI0 (HI_.out.row (O:=(.cells #[.int .i64 x] 3)) h2)
   have HNEW:=hI0 (Rd.new' V2 V2.heap.size rfl [.int .i64 x] 3 1 1 rfl (by decide))
   have hz9:V1.heap.size≤V2.heap.size:=Nat.le_trans HI_.out.fr.chg.size h2.chg.size
   have hi5:Q.length≤1048577:=by have:=HP.out.lenb;omega
   go_wp2_with (at_builtin;refine wpList_append_app (V2.alloc (.cells #[.int .i64 x] 3)) rfl (.tmp 22) (.tmp 25) 60 rfl V1.heap.size 3 i0 _ 1 8 underlying60 HI.out HZ0.out HZ1.out HZ2.out rfl (by omega) (.slice Ao Q.length co) Q.length (Q.flatMap intE) rfl (.inl HOA.out) (·=V2.heap.size) _ 1 [.int .i64 x] rfl HNEW.out (fun u hu=>by simp only [List.mem_cons,List.not_mem_nil,or_false] at hu;rcases hu with rfl<;>rfl) (by unfold maxLen;omega) (by omega) (by simp;omega) ?_;intro v3 w3 _ hO3 hg3 hb3 hv3)
   have HLI:=hI0 (HI_.out.step (x:=x) isK_T h2 trivial (hO3 (.inl (by omega))) hg3 hv3)
   clear hO3 hg3 hb3 hv3
   go_wp2_with fail
   go_roundw
   case rel=>exact ⟨Q++[x],st',x,g2,by simp,HLI,hI0 (HP.out.step mon_I ⟨hgo.1,rfl⟩ HX1.out rfl)⟩
   case measure=>have:=hgo.1;simp [intOf];omega) : P := h ⟨⟩
theorem zq19 {P:Prop} (i:Nat) (h:Tg i→P:=by
 intro zT19
 obtain ⟨bA,bc,rfl,y1,y2,y3⟩:=Rd.open_ hv
 obtain ⟨a,e⟩:=s
 obtain ⟨W,hW⟩:=eN0 ((w.alloc (.cells (inC (.slice bA l.length bc) (a,e) n g) 152)).alloc (.cells #[.slice none 0 0,.int .i64 0,.int .i64 0,.int .i64 0,.string ⟨#[]⟩,.int .i64 0,.int .i64 0,.string ⟨#[]⟩,.slice none 0 0,.int .i64 0,.int .i64 0,.slice none 0 0] 152))
 have hi:=FR.init w (inC (.slice bA l.length bc) (a,e) n g) inZ 152
 have h:FR w.heap.size (Sv w.heap.size 2) W [(w.heap.size,(inC (.slice bA l.length bc) (a,e) n g),152),(w.heap.size+1,inZ,152)] W:=by rw [hW];exact hi.1
 have hbW:Bl w W:=by rw [hW];exact hi.2
 clear hi
 have c2:=cW1 (v:=.int .i64 e) 2 (h.get 0) rfl
 have KF:=fun (c d:Int) (V:World) (hd:d=if e=0 then c else e)=>failC (.slice bA l.length bc) (a,e) n g c d V ⟨_,_,_,rfl⟩ hd
 first
  |guard_hyp zT19:Tg 3;have KI:=refText_any _ _ l a 200 W (hv.below hbW)
  |guard_hyp zT19:Tg 2;have KI:=refRow_any _ l a W (hv.below hbW)
  |guard_hyp zT19:Tg 1;have KI:=refPeriod_any _ l a W (hv.below hbW)
  |have KI:=refValue_any _ l a W (hv.below hbW)
 have HB:=hI0 hbW
 clear hv hbW
 by_cases he:e=0
 case neg=>
  first
   |guard_hyp zT19:Tg 3;rw [show rdT l (a,e)=(⟨#[]⟩,a,e) from rdS_no he]
   |guard_hyp zT19:Tg 2;rw [show rdR l (a,e)=([],a,e) from rdS_no he]
   |guard_hyp zT19:Tg 1;rw [show rdP l (a,e)=((0,0),a,e) from rdS_no he]
   |rw [show rdV l (a,e)=(zeroV,a,e) from rdS_no he]
  have he2:(e != 0)=true:=by simpa using he
  go_in
  go_upto_region 1 with (fail)
  rw [←hW]
  clear hW KI
  go_upto_region 2 with (fail)
  go_wp2_with (refine ldR 1 sz_in ag_in (h.get 0) ?_)
  (with_reducible refine (KF e e _ (by rw [if_neg he])).mono ?_)
  rintro _ V9 ⟨rfl,hb9⟩
  have h9:=h.call hb9
  go_wp2_with (refine stU 2 12 sz_in (h9.get 1) rfl ?_;intro E hE cE)
  have hE2:=h9.store 1 rfl cE hE
  first
   |guard_hyp zT19:Tg 3;exact bodyPost_ret (v:=.agg (inC (.slice bA l.length bc) (a,e) 0 InR.zero)) (res_one results77 rfl (run_varRow sz_in ag_in (hE2.get 1))) rfl ⟨0,InR.zero,rfl,hE2.below HB.out⟩
   |guard_hyp zT19:Tg 2;exact bodyPost_ret (v:=.agg (inC (.slice bA l.length bc) (a,e) 0 InR.zero)) (res_one results79 rfl (run_varRow sz_in ag_in (hE2.get 1))) rfl ⟨0,InR.zero,rfl,Rd.nil _ _ _,hE2.below HB.out⟩
   |guard_hyp zT19:Tg 1;exact bodyPost_ret (v:=.agg (inC (.slice bA l.length bc) (a,e) 0 InR.zero)) (res_one results80 rfl (run_varRow sz_in ag_in (hE2.get 1))) rfl ⟨0,InR.zero,rfl,hE2.below HB.out⟩
   |exact bodyPost_ret (v:=.agg (inC (.slice bA l.length bc) (a,e) 0 InR.zero)) (res_one results174 rfl (run_varRow sz_in ag_in (hE2.get 1))) rfl ⟨0,InR.zero,rfl,hE2.below HB.out⟩
 subst he
 first
  |guard_hyp zT19:Tg 3;rcases hd:decT l a 200 with ⟨x0,k,e'⟩
   skip
  |guard_hyp zT19:Tg 2;rcases hd:decR l a with ⟨xs,k,e'⟩
   skip
  |guard_hyp zT19:Tg 1;rcases hd:decP l a with ⟨⟨v1,v2⟩,k,e'⟩
   skip
  |rcases hd:decV l a with ⟨⟨v1,v2,v3⟩,k,e'⟩
 rw [hd] at KI
 first
  |guard_hyp zT19:Tg 3;rw [show rdT l (a,0)=(strB x0,if e'=0 then (k,0) else (a,e')) from (rdS_go (by show (strB (decT l a 200).1,(decT l a 200).2)=_;rw [hd]))]
  |guard_hyp zT19:Tg 2;rw [show rdR l (a,0)=(xs,if e'=0 then (k,0) else (a,e')) from rdS_go hd]
  |guard_hyp zT19:Tg 1;rw [show rdP l (a,0)=((v1,v2),if e'=0 then (k,0) else (a,e')) from rdS_go hd]
  |rw [show rdV l (a,0)=((⟨v1,v2,v3⟩:Val),if e'=0 then (k,0) else (a,e')) from rdS_go hd]
 have c0:=cW1 (v:=.slice bA l.length bc) 0 (h.get 0) rfl
 have c1:=cW1 (v:=.int .i64 a) 1 (h.get 0) rfl
 by_cases he':e'=0
 case neg=>
  first
   |guard_hyp zT19:Tg 3;obtain rfl:x0=[]:=by have k:=decT_err (l:=l) (k:=a) (m:=200) (by rw [hd];exact he');rw [hd] at k;exact k
   |guard_hyp zT19:Tg 2;obtain rfl:xs=[]:=by have k:=decR_err (l:=l) (k:=a) (by rw [hd];exact he');rw [hd] at k;exact k
   |guard_hyp zT19:Tg 1;obtain ⟨rfl,rfl⟩:v1=0∧v2=0:=by have k:=decP_err (l:=l) (k:=a) (by rw [hd];exact he');rw [hd] at k;simpa using k
   |obtain ⟨rfl,rfl,rfl⟩:v1=0∧v2=0∧v3=⟨#[]⟩:=by have k:=decV_err (l:=l) (k:=a) (by rw [hd];exact he');rw [hd] at k;simpa [zeroV] using k
  rw [if_neg he']
  have he2:(e' != 0)=true:=by simpa using he'
  go_in
  go_upto_region 1 with (fail)
  rw [←hW]
  clear hW
  go_wp2_with fail
  (with_reducible refine KI.mono ?_)
  first
   |guard_hyp zT19:Tg 3;rintro _ V1 ⟨rfl,rfl⟩
    have h1:=h
   |guard_hyp zT19:Tg 2;rintro _ V1 ⟨u,rfl,hO,hb1⟩
    obtain ⟨Au,cu,rfl,x1,x2,x3⟩:=Rd.open_ (Rd.of_own hO)
    have HO:=hI0 (Rd.of_own hO)
    have HB1:=hI0 (h.call hb1 |>.below HB.out)
    have HLE:=hI0 h.le.1
    have h1:=(h.call hb1).start (by intro p hp;simp at hp;rcases hp with rfl|rfl<;>simp [Sv])
    clear hb1 hO x1 x2 x3
   |rintro _ V1 ⟨rfl,hb1⟩
    have h1:=h.call hb1
    clear hb1
  clear c0 c1 c2
  first
   |done
   |first|guard_hyp zT19:Tg 2|guard_hyp zT19:Tg 3
   |first
     |guard_hyp zT19:Tg 1;obtain ⟨V2,hV2⟩:=eN0 (V1.alloc (.cells #[.int .i64 0,.int .i64 0] 66))
      have h1:=h1.alloc #[.int .i64 0,.int .i64 0] 66
     |obtain ⟨V2,hV2⟩:=eN0 (V1.alloc (.cells #[.int .i64 0,.int .i64 0,.string ⟨#[]⟩] 79))
      have h1:=h1.alloc #[.int .i64 0,.int .i64 0,.string ⟨#[]⟩] 79
    rw [←hV2] at h1
    go_upto_region 4 with (fail)
    rw [←hV2]
    clear hV2
  go_upto_region 5 with (fail)
  go_wp2_with (refine ldR 1 sz_in ag_in (h1.get 0) ?_)
  (with_reducible refine (KF e' e' _ (by simp)).mono ?_)
  rintro _ V9 ⟨rfl,hb9⟩
  have h9:=h1.call hb9
  go_wp2_with (refine stU 2 26 sz_in (h9.get 1) rfl ?_;intro E hE cE)
  have hE2:=h9.store 1 rfl cE hE
  first
   |guard_hyp zT19:Tg 3;exact bodyPost_ret (v:=.agg (inC (.slice bA l.length bc) (a,e') 0 InR.zero)) (res_one results77 rfl (run_varRow sz_in ag_in (hE2.get 1))) rfl ⟨0,InR.zero,rfl,hE2.below HB.out⟩
   |guard_hyp zT19:Tg 2;exact bodyPost_ret (v:=.agg (inC (.slice bA l.length bc) (a,e') 0 InR.zero)) (res_one results79 rfl (run_varRow sz_in ag_in (hE2.get 1))) rfl ⟨0,InR.zero,rfl,Rd.nil _ _ _,hE2.below HB1.out⟩
   |guard_hyp zT19:Tg 1;exact bodyPost_ret (v:=.agg (inC (.slice bA l.length bc) (a,e') 0 InR.zero)) (res_one results80 rfl (run_varRow sz_in ag_in (hE2.get 1))) rfl ⟨0,InR.zero,rfl,hE2.below HB.out⟩
   |exact bodyPost_ret (v:=.agg (inC (.slice bA l.length bc) (a,e') 0 InR.zero)) (res_one results174 rfl (run_varRow sz_in ag_in (hE2.get 1))) rfl ⟨0,InR.zero,rfl,hE2.below HB.out⟩
 subst he'
 rw [if_pos rfl]
 go_in
 go_upto_region 1 with (fail)
 rw [←hW]
 clear hW
 go_wp2_with fail
 (with_reducible refine KI.mono ?_)
 first
  |guard_hyp zT19:Tg 3;rintro _ V1 ⟨rfl,rfl⟩
   have h1:=h
  |guard_hyp zT19:Tg 2;rintro _ V1 ⟨u,rfl,hO,hb1⟩
   obtain ⟨Au,cu,rfl,x1,x2,x3⟩:=Rd.open_ (Rd.of_own hO)
   have HO:=hI0 (Rd.of_own hO)
   have HB1:=hI0 (h.call hb1 |>.below HB.out)
   have HLE:=hI0 h.le.1
   have h1:=(h.call hb1).start (by intro p hp;simp at hp;rcases hp with rfl|rfl<;>simp [Sv])
   clear hb1 hO x1 x2 x3
  |rintro _ V1 ⟨rfl,hb1⟩
   have h1:=h.call hb1
   clear hb1
 clear c0 c1 c2
 first
  |guard_hyp zT19:Tg 3;have p4:=fW0 W _ 4 _ _ (h1.get 0)
   have q4:=cW1 (v:=.string g.s) 4 (h1.get 0) rfl
   have p1:=fW0 W _ 1 _ _ (h1.get 0)
  |guard_hyp zT19:Tg 2;have p8:=fW0 V1 _ 8 _ _ (h1.get 0)
   have q8:=cW1 (v:=.slice g.rA g.rn g.rc) 8 (h1.get 0) rfl
   have p1:=fW0 V1 _ 1 _ _ (h1.get 0)
  |first
    |guard_hyp zT19:Tg 1;obtain ⟨V2,hV2⟩:=eN0 (V1.alloc (.cells #[.int .i64 v1,.int .i64 v2] 66))
     have h1:=h1.alloc #[.int .i64 v1,.int .i64 v2] 66
    |obtain ⟨V2,hV2⟩:=eN0 (V1.alloc (.cells #[.int .i64 v1,.int .i64 v2,.string v3] 79))
     have h1:=h1.alloc #[.int .i64 v1,.int .i64 v2,.string v3] 79
   rw [←hV2] at h1
   go_upto_region 4 with (fail)
   rw [←hV2]
   clear hV2
   first
    |guard_hyp zT19:Tg 1;have p9:=fW0 V2 _ 9 _ _ (h1.get 0)
     have q9:=cW1 (v:=.int .i64 g.p1) 9 (h1.get 0) rfl
     have p10:=fW0 V2 _ 10 _ _ (h1.get 0)
     have q10:=cW1 (v:=.int .i64 g.p2) 10 (h1.get 0) rfl
    |have p5:=fW0 V2 _ 5 _ _ (h1.get 0)
     have q5:=cW1 (v:=.int .i64 g.vk) 5 (h1.get 0) rfl
     have p6:=fW0 V2 _ 6 _ _ (h1.get 0)
     have q6:=cW1 (v:=.int .i64 g.vi) 6 (h1.get 0) rfl
     have p7:=fW0 V2 _ 7 _ _ (h1.get 0)
     have q7:=cW1 (v:=.string g.vs) 7 (h1.get 0) rfl
   have p1:=fW0 V2 _ 1 _ _ (h1.get 0)
 have q1:=cW1 (v:=.int .i64 a) 1 (h1.get 0) rfl
 first
  |done
  |guard_hyp zT19:Tg 1;obtain ⟨b0,b1⟩:=cX2 (h1.get 2)
  |guard_hyp zT19:Tg 0;obtain ⟨b0,b1,b2⟩:=cX3 (h1.get 2)
  |skip
 go_upto_region 8 with (fail)
 first
  |guard_hyp zT19:Tg 3;have h1p:=h1.put 0 4 (.string (strB x0))
   have h1pp:=h1p.put 0 1 (.int .i64 k)
   have h2:=h1pp
   clear h1p h1pp
   clear p4 q4 p1 q1
   generalize ((W.setCell ⟨w.heap.size,4,none⟩ (.string (strB x0))).setCell ⟨w.heap.size,1,none⟩ (.int .i64 k))=V2 at *
  |guard_hyp zT19:Tg 2;have h1p:=h1.put 0 8 (.slice Au xs.length cu)
   have h1pp:=h1p.put 0 1 (.int .i64 k)
   have h2:=h1pp
   clear h1p h1pp
   clear p8 q8 p1 q1
   generalize ((V1.setCell ⟨w.heap.size,8,none⟩ (.slice Au xs.length cu)).setCell ⟨w.heap.size,1,none⟩ (.int .i64 k))=V2 at *
  |guard_hyp zT19:Tg 1;have h1p:=h1.put 0 9 (.int .i64 v1)
   have h1pp:=h1p.put 0 10 (.int .i64 v2)
   have h1ppp:=h1pp.put 0 1 (.int .i64 k)
   have h2:FR w.heap.size (Sv w.heap.size 2) W [(w.heap.size,(inC (.slice bA l.length bc) (k,0) n (g.wp (v1,v2))),152),(w.heap.size+1,inZ,152)] (((V2.setCell ⟨w.heap.size,9,none⟩ (.int .i64 v1)).setCell ⟨w.heap.size,10,none⟩ (.int .i64 v2)).setCell ⟨w.heap.size,1,none⟩ (.int .i64 k)):=h1ppp.take 2
   clear h1p h1pp h1ppp
   clear p9 q9 p10 q10 p1 q1
   generalize (((V2.setCell ⟨w.heap.size,9,none⟩ (.int .i64 v1)).setCell ⟨w.heap.size,10,none⟩ (.int .i64 v2)).setCell ⟨w.heap.size,1,none⟩ (.int .i64 k))=V2 at *
  |have h1p:=h1.put 0 5 (.int .i64 v1)
   have h1pp:=h1p.put 0 6 (.int .i64 v2)
   have h1ppp:=h1pp.put 0 7 (.string v3)
   have h1pppp:=h1ppp.put 0 1 (.int .i64 k)
   have h2:FR w.heap.size (Sv w.heap.size 2) W [(w.heap.size,(inC (.slice bA l.length bc) (k,0) n (g.wv ⟨v1,v2,v3⟩)),152),(w.heap.size+1,inZ,152)] ((((V2.setCell ⟨w.heap.size,5,none⟩ (.int .i64 v1)).setCell ⟨w.heap.size,6,none⟩ (.int .i64 v2)).setCell ⟨w.heap.size,7,none⟩ (.string v3)).setCell ⟨w.heap.size,1,none⟩ (.int .i64 k)):=h1pppp.take 2
   clear h1p h1pp h1ppp h1pppp
   clear p5 q5 p6 q6 p7 q7 p1 q1
   generalize ((((V2.setCell ⟨w.heap.size,5,none⟩ (.int .i64 v1)).setCell ⟨w.heap.size,6,none⟩ (.int .i64 v2)).setCell ⟨w.heap.size,7,none⟩ (.string v3)).setCell ⟨w.heap.size,1,none⟩ (.int .i64 k))=V2 at *
 go_wp2_with (first|(refine ldR 1 sz_in ag_in (h2.get 0) ?_)|(refine stU 2 31 sz_in (h2.get 1) rfl ?_;intro E hE cE))
 have hE2:=h2.store 1 rfl cE hE
 first
  |guard_hyp zT19:Tg 3;exact bodyPost_ret (v:=.agg (inC (.slice bA l.length bc) (k,0) n (g.ws (strB x0)))) (res_one results77 rfl (run_varRow sz_in ag_in (hE2.get 1))) rfl ⟨n,(g.ws (strB x0)),rfl,hE2.below HB.out⟩
  |guard_hyp zT19:Tg 2;exact bodyPost_ret (v:=.agg (inC (.slice bA l.length bc) (k,0) n (g.wr Au xs.length cu))) (res_one results79 rfl (run_varRow sz_in ag_in (hE2.get 1))) rfl ⟨n,(g.wr Au xs.length cu),rfl,Rd.wide (Rd.keep HO.out (fun b hb=>hE2.chg.block b hb.2 (fun g=>by have:=hb.1;have:=(HLE.out b g).2;omega))) (fun b hb=>⟨by have:=hb.1;have:=HB.out.size;omega,by have:=hb.2;have:=hE2.chg.size;omega⟩),hE2.below HB1.out⟩
  |guard_hyp zT19:Tg 1;exact bodyPost_ret (v:=.agg (inC (.slice bA l.length bc) (k,0) n (g.wp (v1,v2)))) (res_one results80 rfl (run_varRow sz_in ag_in (hE2.get 1))) rfl ⟨n,(g.wp (v1,v2)),rfl,hE2.below HB.out⟩
  |exact bodyPost_ret (v:=.agg (inC (.slice bA l.length bc) (k,0) n (g.wv ⟨v1,v2,v3⟩))) (res_one results174 rfl (run_varRow sz_in ag_in (hE2.get 1))) rfl ⟨n,(g.wv ⟨v1,v2,v3⟩),rfl,hE2.below HB.out⟩) : P := h ⟨⟩
theorem zq57 {P:Prop} (i:Nat) (h:Tg i→P:=by
 intro zT57
 obtain rfl:=he0 hm
 first
  |guard_hyp zT57:Tg 1;rw [show mnyF l s=(0,k2,1) from by unfold mnyF;rw [hd];exact if_pos hm]
  |rw [show flagF l s=(0,k2,1) from by unfold flagF;rw [hd];exact if_pos hm]
 clear hd he0
 go_in
 go_upto_region 1 with (fail)
 rw [←hW]
 clear hW
 go_wp2_with (refine ldR 1 sz_in ag_in (h.get 0) ?_)
 (with_reducible refine (KN W (KV _ (h.below HB.out))).mono ?_)
 rintro _ U1 ⟨g2,rfl,hb1⟩
 have hc1:=h.call hb1
 go_upto_region 2 with (refine stU 1 4 sz_in (hc1.get 0) rfl ?_;intro V1 hV1 cV1)
 have h1:=hc1.store 0 rfl cV1 hV1
 clear h hc1 hb1 cV1 hV1
 have p3:=cW1 (v:=.int .i64 m) 3 (h1.get 0) rfl
 first
  |guard_hyp zT57:Tg 1;have hm2:m<0:=by omega
  |have hm2:(m != 0)=true:=by simpa using hm.1
   have hm3:(m != 1)=true:=by simpa using hm.2
 go_upto_region 3 with (fail)
 first
  |guard_hyp zT57:Tg 1;clear p3 hm2
  |clear p3 hm2 hm3
 go_wp2_with (refine ldR 1 sz_in ag_in (h1.get 0) ?_)
 (with_reducible refine (failC (.slice bA l.length bc) (k2,0) m g2 1 1 _ ⟨_,_,_,rfl⟩ (by simp)).mono ?_)
 rintro _ V9 ⟨rfl,hb9⟩
 have h9:=h1.call hb9
 first
  |guard_hyp zT57:Tg 1;go_wp2_with (refine stU 2 9 sz_in (h9.get 1) rfl ?_;intro E hE cE)
  |go_wp2_with (refine stU 2 14 sz_in (h9.get 1) rfl ?_;intro E hE cE)
 have hE2:=h9.store 1 rfl cE hE
 first
  |guard_hyp zT57:Tg 1;exact bodyPost_ret (v:=.agg (inC (.slice bA l.length bc) (k2,1) 0 InR.zero)) (res_one results76 rfl (run_varRow sz_in ag_in (hE2.get 1))) rfl ⟨InR.zero,rfl,hE2.below HB.out⟩
  |exact bodyPost_ret (v:=.agg (inC (.slice bA l.length bc) (k2,1) 0 InR.zero)) (res_one results224 rfl (run_varRow sz_in ag_in (hE2.get 1))) rfl ⟨InR.zero,rfl,hE2.below HB.out⟩) : P := h ⟨⟩
section
open Go.RowKit Go.Lib Go.IntWalk Go.Sort Go.Shelf
abbrev Bx:=Nat×Array Value×TypeId
structure FR (a:Nat) (S:Nat→Prop) (U:World) (L:List Bx) (V:World):Prop where
 chg:Chg S U V
 box:∀p∈L,a≤p.1∧(S p.1∨U.heap.size≤p.1)∧V.heap[p.1]? =some (.cells p.2.1 p.2.2 (0,0))
 nd:(L.map (·.1)).Nodup
 le:(∀i,S i→a≤i∧i<U.heap.size)∧a≤U.heap.size
def Sv (a k:Nat) (i:Nat):Prop:=a≤i∧i<a+k
def Sx (S:Nat→Prop) (X:Nat) (i:Nat):Prop:=S i∨i=X
section
variable {a T:Nat} {S:Nat→Prop} {U V V':World} {L:List Bx} {cs cs':Array Value} {t:TypeId}
theorem FR.at_ (h:FR a S U L V) (i:Nat) (hi:L[i]? =some (T,cs,t):=by rfl):a≤T∧(S T∨U.heap.size≤T)∧V.heap[T]? =some (.cells cs t (0,0)):=h.box _ (List.mem_of_getElem? hi)
theorem FR.get (h:FR a S U L V) (i:Nat) (hi:L[i]? =some (T,cs,t):=by rfl):V.heap[T]? =some (.cells cs t (0,0)):=(h.at_ i hi).2.2
theorem FR.call (h:FR a S U L V) (hb:Bl V V'):FR a S U L V':=
 ⟨h.chg.then_below hb,fun p hp=>⟨(h.box p hp).1,(h.box p hp).2.1,(hb.block p.1 (Array.getElem?_eq_some_iff.1 (h.box p hp).2.2).1).trans (h.box p hp).2.2⟩,h.nd,h.le⟩
theorem FR.store (h:FR a S U L V) (i:Nat) (hi:L[i]? =some (T,cs,t)) (hc:Chg (·=T) V V') (hn:V'.heap[T]? =some (.cells cs' t (0,0))):FR a S U (L.set i (T,cs',t)) V':=by
 obtain ⟨hT,hT2,hTV⟩:=h.at_ i hi
 have hmi:(L.map (·.1))[i]? =some T:=by rw [List.getElem?_map,hi];rfl
 have hil:i<L.length:=(List.getElem?_eq_some_iff.1 hi).1
 refine ⟨h.chg.trans hc (fun j hj (e:j=T)=>hT2.elim (fun g=>e▸g) (fun g=>by omega)),fun p hp=>?_,?_,h.le⟩
 ·obtain ⟨j,hj⟩:=List.mem_iff_getElem?.1 hp
  rw [List.getElem?_set] at hj
  by_cases hij:i=j
  ·rw [if_pos hij,if_pos hil] at hj
   obtain rfl:=Option.some.inj hj
   exact ⟨hT,hT2,hn⟩
  ·rw [if_neg hij] at hj
   obtain ⟨g1,g2,g3⟩:=h.box p (List.mem_of_getElem? hj)
   refine ⟨g1,g2,(hc.block p.1 (Array.getElem?_eq_some_iff.1 g3).1 (fun e=>hij ?_)).trans g3⟩
   have hmj:(L.map (·.1))[j]? =some T:=by rw [List.getElem?_map,hj,←e];rfl
   exact (List.getElem?_inj (by simpa using hil) h.nd).1 (by rw [hmi,hmj])
 ·rw [List.map_set]
  have e:(L.map (·.1)).set i T=L.map (·.1):=by
   apply List.ext_getElem?
   intro j
   rw [List.getElem?_set]
   by_cases hij:i=j
   ·subst hij;rw [if_pos rfl,if_pos (by simpa using hil),hmi]
   ·rw [if_neg hij]
  rw [e]
  exact h.nd
theorem FR.put (h:FR a S U L V) (i j:Nat) (u:Value) (hi:L[i]? =some (T,cs,t):=by rfl):FR a S U (L.set i (T,cs.setIfInBounds j u,t)) (V.setCell ⟨T,j,none⟩ u):=
 h.store i hi (Chg.setCell (S:=(·=T)) (p:=⟨T,j,none⟩) (Chg.refl _ V) (.inl rfl) u) (heap_setCell_same V T j cs t u (h.get i hi))
theorem FR.alloc (h:FR a S U L V) (cs:Array Value) (t:TypeId):FR a S U (L++[(V.heap.size,cs,t)]) (V.alloc (.cells cs t)):=by
 have hz:=h.chg.size
 have hl:=h.le.2
 have k:=h.call (Below.of_alloc (w:=V) (.cells cs t))
 refine ⟨k.chg,fun p hp=>?_,?_,h.le⟩
 ·rcases List.mem_append.1 hp with hp|hp
  ·exact k.box p hp
  ·rw [List.mem_singleton] at hp
   subst hp
   exact ⟨by show a≤V.heap.size;omega,.inr hz,heap_alloc_new _ _⟩
 ·rw [List.map_append,List.nodup_append]
  refine ⟨h.nd,by simp,fun x hx y hy=>?_⟩
  obtain ⟨p,hp,rfl⟩:=List.mem_map.1 hx
  have:=(Array.getElem?_eq_some_iff.1 (h.box p hp).2.2).1
  simp at hy
  omega
theorem FR.alloc2 (h:FR a S U L V) (cs cs':Array Value) (t t':TypeId):FR a S U (L++[(V.heap.size,cs,t),(V.heap.size+1,cs',t')]) ((V.alloc (.cells cs t)).alloc (.cells cs' t')):=by
 have k:=(h.alloc cs t).alloc cs' t'
 have hs:(V.alloc (.cells cs t)).heap.size=V.heap.size+1:=by simp
 rw [hs,List.append_assoc] at k
 exact k
theorem FR.perm {L':List Bx} (h:FR a S U L V) (hm:∀p∈L',p∈L) (hn:(L'.map (·.1)).Nodup):FR a S U L' V:=⟨h.chg,fun p hp=>h.box p (hm p hp),hn,h.le⟩
theorem FR.init0 (w:World):FR w.heap.size (Sv w.heap.size 0) w [] w:=⟨Chg.refl _ _,(fun p hp=>by cases hp),List.nodup_nil,fun i hi=>absurd hi.2 (by have:=hi.1;omega),Nat.le_refl _⟩
theorem FR.take (h:FR a S U L V) (k:Nat):FR a S U (L.take k) V:=⟨h.chg,fun p hp=>h.box p (List.mem_of_mem_take hp),by rw [List.map_take];exact h.nd.sublist (List.take_sublist _ _),h.le⟩
theorem FR.lts (h:FR a S U L V):(∀i,S i→a≤i∧i<V.heap.size)∧a≤V.heap.size:=by
 have:=h.chg.size
 exact ⟨fun i hi=>⟨(h.le.1 i hi).1,Nat.lt_of_lt_of_le (h.le.1 i hi).2 this⟩,Nat.le_trans h.le.2 this⟩
theorem FR.start (h:FR a S U L V) (hl:∀p∈L,S p.1):FR a S V L V:=⟨Chg.refl _ _,fun p hp=>⟨(h.box p hp).1,.inl (hl p hp),(h.box p hp).2.2⟩,h.nd,h.lts⟩
theorem FR.trans {L':List Bx} (h:FR a S U L V) (k:FR a S V L' V'):FR a S U L' V':=
 ⟨h.chg.trans k.chg (fun _ _ h=>h),fun p hp=>⟨(k.box p hp).1,(k.box p hp).2.1.imp id (fun g=>Nat.le_trans h.chg.size g),(k.box p hp).2.2⟩,k.nd,h.le⟩
theorem FR.below {w:World} (h:FR w.heap.size S U L V) (hb:Bl w U):Bl w V:=hb.trans (h.chg.below hb.size (fun i hi=>(h.le.1 i hi).1))
theorem FR.lt (h:FR a S U L V) (i:Nat) (hi:L[i]? =some (T,cs,t):=by rfl):T<V.heap.size:=(Array.getElem?_eq_some_iff.1 (h.get i hi)).1
theorem FR.init (w:World) (p z:Array Value) (t:TypeId):FR w.heap.size (Sv w.heap.size 2) ((w.alloc (.cells p t)).alloc (.cells z t)) [(w.heap.size,p,t),(w.heap.size+1,z,t)] ((w.alloc (.cells p t)).alloc (.cells z t))∧Bl w ((w.alloc (.cells p t)).alloc (.cells z t)):=by
 have h0:FR w.heap.size (fun _=>False) w [] w:=⟨Chg.refl _ _,(fun p hp=>by cases hp),List.nodup_nil,fun _ h=>h.elim,Nat.le_refl _⟩
 have h1:=(h0.alloc p t).alloc z t
 have hs:(w.alloc (.cells p t)).heap.size=w.heap.size+1:=by simp
 rw [hs] at h1
 refine ⟨⟨Chg.refl _ _,fun q hq=>⟨(h1.box q hq).1,.inl ⟨(h1.box q hq).1,?_⟩,(h1.box q hq).2.2⟩,h1.nd,fun i hi=>⟨hi.1,by have:=hi.2;simp;omega⟩,by simp;omega⟩,(Below.of_alloc _).alloc (by simp) _⟩
 have:=(Array.getElem?_eq_some_iff.1 (h1.box q hq).2.2).1
 simpa using this
theorem FR.init_more {W:World} {k:Nat} (h:FR a (Sv a k) W L W) (hb:a+k=W.heap.size) (cs:Array Value) (t:TypeId):FR a (Sv a (k+1)) (W.alloc (.cells cs t)) (L++[(a+k,cs,t)]) (W.alloc (.cells cs t)):=by
 rw [hb]
 have h1:=h.alloc cs t
 refine ⟨Chg.refl _ _,fun q hq=>⟨(h1.box q hq).1,.inl ⟨(h1.box q hq).1,?_⟩,(h1.box q hq).2.2⟩,h1.nd,fun i hi=>⟨hi.1,by have:=hi.2;simp;omega⟩,by simp;omega⟩
 have:=(Array.getElem?_eq_some_iff.1 (h1.box q hq).2.2).1
 simp at this
 omega
theorem FR.more (h:FR a S U L V) (hl:∀p∈L,S p.1) (cs:Array Value) (t:TypeId):FR a (Sx S V.heap.size) (V.alloc (.cells cs t)) (L++[(V.heap.size,cs,t)]) (V.alloc (.cells cs t)):=by
 have h1:=h.alloc cs t
 refine ⟨Chg.refl _ _,fun q hq=>⟨(h1.box q hq).1,.inl ?_,(h1.box q hq).2.2⟩,h1.nd,fun i hi=>?_,by have:=h.lts.2;simp;omega⟩
 ·rcases List.mem_append.1 hq with hq|hq
  ·exact .inl (hl q hq)
  ·rw [List.mem_singleton] at hq;subst hq;exact .inr rfl
 ·rcases hi with hi|rfl
  ·have:=h.lts.1 i hi;simp;omega
  ·have:=h.lts.2;simp;omega
theorem FR.outer {wi:World} {S2:Nat→Prop} {L2:List Bx} (h:FR a S wi L V) (k:FR a S2 V L2 V') (hS:∀i,i<wi.heap.size→S2 i→S i):FR a S wi L2 V':=
 ⟨h.chg.trans k.chg hS,fun p hp=>⟨(k.box p hp).1,by
  have hz:=h.chg.size
  by_cases hlt:p.1<wi.heap.size
  ·rcases (k.box p hp).2.1 with g|g
   ·exact .inl (hS _ hlt g)
   ·omega
  ·exact .inr (by omega),(k.box p hp).2.2⟩,k.nd,h.le⟩
end
theorem own_chg {w w':World} {S:Nat→Prop} {base:Nat} {e:TypeId} {size n:Nat} {v:Value} {cs:List Value} (h:w.ownsRow base e size v n cs) (hc:Chg S w w') (hs:∀b,some b=v.ownBlock→¬S b):w'.ownsRow base e size v n cs:=by
 refine ⟨h.1,?_⟩
 rcases h.2 with h0|⟨g,cap,cur,rfl,hb,hg,hr⟩
 ·exact .inl h0
 ·exact .inr ⟨g,cap,cur,rfl,hb,(hc.block g (Array.getElem?_eq_some_iff.1 hg).1 (hs g rfl)).trans hg,hr⟩
def inC (b:Value) (s:Int×Int) (n:Int) (g:InR):Array Value:=#[b,.int .i64 s.1,.int .i64 s.2,.int .i64 n,.string g.s,.int .i64 g.vk,.int .i64 g.vi,.string g.vs,.slice g.rA g.rn g.rc,.int .i64 g.p1,.int .i64 g.p2,.slice g.lA g.ln g.lc]
def inZ:Array Value:=#[.slice none 0 0,.int .i64 0,.int .i64 0,.int .i64 0,.string ⟨#[]⟩,.int .i64 0,.int .i64 0,.string ⟨#[]⟩,.slice none 0 0,.int .i64 0,.int .i64 0,.slice none 0 0]
def InR.ws (g:InR) (x:ByteArray):InR:=⟨x,g.vk,g.vi,g.vs,g.rA,g.rn,g.rc,g.p1,g.p2,g.lA,g.ln,g.lc⟩
def InR.wv (g:InR) (x:Val):InR:=⟨g.s,x.kind,x.int,x.text,g.rA,g.rn,g.rc,g.p1,g.p2,g.lA,g.ln,g.lc⟩
def InR.wr (g:InR) (A:Option Addr) (n c:Nat):InR:=⟨g.s,g.vk,g.vi,g.vs,A,n,c,g.p1,g.p2,g.lA,g.ln,g.lc⟩
def InR.wp (g:InR) (x:Int×Int):InR:=⟨g.s,g.vk,g.vi,g.vs,g.rA,g.rn,g.rc,x.1,x.2,g.lA,g.ln,g.lc⟩
def InR.wl (g:InR) (A:Option Addr) (n c:Nat):InR:=⟨g.s,g.vk,g.vi,g.vs,g.rA,g.rn,g.rc,g.p1,g.p2,A,n,c⟩
theorem sz_in (w:World):(Go.sizeOf 152).run prog w=.ok 12 w:=by simp [go_sem]
theorem ag_in (w:World):(isAgg 152).run prog w=.ok true w:=by simp [isAgg,go_sem]
theorem run_varRow {P:Program} {t e:TypeId} {T:Nat} {cs:Array Value} {fr:Nat×Nat} {w:World} (hz:∀w,(Go.sizeOf t).run P w=.ok cs.size w) (ha:∀w,(isAgg t).run P w=.ok true w) (h:w.heap[T]? =some (.cells cs e fr)):(loadVar t ⟨T,0,none⟩).run P w=.ok (.agg cs) w:=by
 have k:=run_loadRow hz ha h
 simpa [Instr.loadAt,Instr.sureAddr] using k
section
variable {P:Program} {t:TypeId} {T H:Nat} {cs cur vs:Array Value} {w:World} {ops:Array Oper} {rest:List Oper} {o:Oper} {a:Act} {Q:Exit→Act→World→Prop}
theorem ldR (i:Nat) {n:Nat} (hz:∀w,(Go.sizeOf t).run P w=.ok n w) (ha:∀w,(isAgg t).run P w=.ok true w) (h:w.heap[T]? =some (.cells cs t (0,0))) (hK:wpList P ops Q rest (a.put o.dst (.agg cs)) w) (hs:cs.size=n:=by rfl) (hgd:o.guard=none:=by rfl) (hop:o.op=.load t (.tmp i):=by rfl) (hp:a.eval (.tmp i)=.pointer (some ⟨T,0,none⟩):=by rfl):wpList P ops Q (o::rest) a w:=
 wpList_loadRow (.tmp i) hgd hop hp (by rw [hs];exact hz) ha h hK
theorem stU (i j:Nat) {n:Nat} (hz:∀w,(Go.sizeOf t).run P w=.ok n w) (h:w.heap[H]? =some (.cells cur t (0,0))) (hx:a.eval (.tmp j)=.agg vs) (hK:∀w',w'.heap[H]? =some (.cells vs t (0,0))→Chg (·=H) w w'→wpList P ops Q rest (a.put o.dst undef) w') (hn:vs.size=n:=by rfl) (hs:cur.size=n:=by rfl) (h1:vs.toList.all Value.oneCell'=true:=by rfl) (hgd:o.guard=none:=by rfl) (hop:o.op=.store t (.tmp i) (.tmp j):=by rfl) (hp:a.eval (.tmp i)=.pointer (some ⟨H,0,none⟩):=by rfl):wpList P ops Q (o::rest) a w:=
 wpList_storeRow (.tmp i) (.tmp j) hgd hop hp hx (by rw [hn];exact hz) (hs.trans hn.symm) h1 h hK
end
section
variable {P:Program} {f:Func} {tm:Array Value} {k k2 H H2:Nat} {t t2:TypeId} {v v2:Value} {w:World}
theorem res_one (hr:f.results=#[.cell k t]) (hk:tm.getD k undef=.pointer (some ⟨H,0,none⟩)) (hv:(loadVar t ⟨H,0,none⟩).run P w=.ok v w):(results f tm).run P w=.ok v w:=by
 unfold results
 rw [hr]
 simp only [Array.getD_eq_getD_getElem?] at hk
 simp [hk,asAddr,hv]
theorem res_two (hr:f.results=#[.cell k t,.cell k2 t2]) (hk:tm.getD k undef=.pointer (some ⟨H,0,none⟩)) (hk2:tm.getD k2 undef=.pointer (some ⟨H2,0,none⟩)) (hv:(loadVar t ⟨H,0,none⟩).run P w=.ok v w) (hv2:(loadVar t2 ⟨H2,0,none⟩).run P w=.ok v2 w):(results f tm).run P w=.ok (.tuple #[v,v2]) w:=by
 unfold results
 rw [hr]
 simp only [Array.getD_eq_getD_getElem?] at hk hk2
 simp [hk,hk2,asAddr,hv,hv2]
theorem res_ctt {k3:Nat} {v3:Value} (hr:f.results=#[.cell k t,.tmp k2,.tmp k3]) (hk:tm.getD k undef=.pointer (some ⟨H,0,none⟩)) (hk2:tm.getD k2 undef=v2) (hk3:tm.getD k3 undef=v3) (hv:(loadVar t ⟨H,0,none⟩).run P w=.ok v w):(results f tm).run P w=.ok (.tuple #[v,v2,v3]) w:=by
 unfold results
 rw [hr]
 simp only [Array.getD_eq_getD_getElem?] at hk hk2 hk3
 simp [hk,hk2,hk3,asAddr,hv]
theorem res_ct (hr:f.results=#[.cell k t,.tmp k2]) (hk:tm.getD k undef=.pointer (some ⟨H,0,none⟩)) (hk2:tm.getD k2 undef=v2) (hv:(loadVar t ⟨H,0,none⟩).run P w=.ok v w):(results f tm).run P w=.ok (.tuple #[v,v2]) w:=by
 unfold results
 rw [hr]
 simp only [Array.getD_eq_getD_getElem?] at hk hk2
 simp [hk,hk2,asAddr,hv]
end
theorem failC (b:Value) (s:Int×Int) (n:Int) (g:InR) (c d:Int) (w:World) (hb:∃A m k,b=.slice A m k) (hd:d=if s.2=0 then c else s.2):Calls prog 170 #[.agg (inC b s n g),.int .i64 c] w fun x w'=>x=.returned (.agg (inC b (s.1,d) 0 InR.zero))∧Bl w w':=by
 obtain ⟨A,m,k,rfl⟩:=hb
 refine (fail_any A m k s.1 s.2 n g c d w hd).mono fun e w' ⟨h1,h2⟩=>⟨h1,?_⟩
 rw [h2]
 exact (Below.of_alloc _).alloc (by simp) _
theorem numC (b:Value) (s:Int×Int) (n:Int) (g:InR) (l:List UInt8) (w:World) (hv:RdB w (ltw w) b l):Calls prog 74 #[.agg (inC b s n g)] w fun x w'=>∃g',x=.returned (.agg (inC b (rdI l s).2 (rdI l s).1 g'))∧Bl w w':=by
 obtain ⟨A,k,rfl,_⟩:=Rd.open_ hv
 exact num_any A l.length k s.1 s.2 n g l w hv
theorem decT_err {l:List UInt8} {k m:Int} (h:(decT l k m).2.2≠0):(decT l k m).1=[]:=by
 rcases decT_bd l k m with h1|h1
 ·exact absurd h1.1 h
 ·exact h1.2.1
end
section
open Go.RowKit Go.Lib Go.IntWalk Go.Sort Go.Shelf
theorem textC (b:Value) (s:Int×Int) (n:Int) (g:InR) (l:List UInt8) (w:World) (hv:RdB w (ltw w) b l):Calls prog 77 #[.agg (inC b s n g)] w fun x w'=>∃n' g',x=.returned (.agg (inC b (rdT l s).2 n' (InR.ws g' (rdT l s).1)))∧Bl w w':=by
 exact zq19 3
theorem valueC (b:Value) (s:Int×Int) (n:Int) (g:InR) (l:List UInt8) (w:World) (hv:RdB w (ltw w) b l):Calls prog 174 #[.agg (inC b s n g)] w fun x w'=>∃n' g',x=.returned (.agg (inC b (rdV l s).2 n' (InR.wv g' (rdV l s).1)))∧Bl w w':=by
 exact zq19 0
theorem perC (b:Value) (s:Int×Int) (n:Int) (g:InR) (l:List UInt8) (w:World) (hv:RdB w (ltw w) b l):Calls prog 80 #[.agg (inC b s n g)] w fun x w'=>∃n' g',x=.returned (.agg (inC b (rdP l s).2 n' (InR.wp g' (rdP l s).1)))∧Bl w w':=by
 exact zq19 1
theorem rowC (b:Value) (s:Int×Int) (n:Int) (g:InR) (l:List UInt8) (w:World) (hv:RdB w (ltw w) b l):Calls prog 79 #[.agg (inC b s n g)] w fun x w'=>∃n' g',x=.returned (.agg (inC b (rdR l s).2 n' g'))∧RdV w' (fun b=>w.heap.size≤b∧b<w'.heap.size) (.slice g'.rA g'.rn g'.rc) (rdR l s).1∧Bl w w':=by
 exact zq19 2
end
section
open Go.RowKit Go.Lib Go.IntWalk Go.Sort Go.Shelf
def mnyF (l:List UInt8) (s:Int×Int):Int×Int×Int:=if (rdI l s).1<0 then (0,(rdI l s).2.1,1) else rdI l s
theorem mnyF_pos (l:List UInt8) (s:Int×Int):0≤(mnyF l s).1:=by
 unfold mnyF
 split
 ·exact Int.le_refl 0
 ·omega
theorem rdL_many {α:Type} (l:List UInt8) (one:Int×Int→α×Int×Int) (s:Int×Int):rdL l one s=getS one (mnyF l s).1.toNat (mnyF l s).2:=by
 unfold rdL mnyF
 by_cases h:(rdI l s).1<0
 ·have he:(rdI l s).2.2=0:=by
   by_cases he:(rdI l s).2.2=0
   ·exact he
   ·rw [rdI_err he] at h;exact absurd h (by decide)
  rw [if_pos ⟨he,h⟩,if_pos h]
  rfl
 ·rw [if_neg (fun q=>h q.2),if_neg h]
def flagF (l:List UInt8) (s:Int×Int):Int×Int×Int:=if (rdI l s).1≠0∧(rdI l s).1≠1 then (0,(rdI l s).2.1,1) else rdI l s
theorem flagF_bool (l:List UInt8) (s:Int×Int):(rdBool l s).1=decide ((flagF l s).1=1)∧(rdBool l s).2=(flagF l s).2:=by
 unfold rdBool flagF
 by_cases h:(rdI l s).1≠0∧(rdI l s).1≠1
 ·have he:(rdI l s).2.2=0:=by
   by_cases he:(rdI l s).2.2=0
   ·exact he
   ·exact absurd (rdI_err he) h.1
  rw [if_pos ⟨he,h⟩,if_pos h]
  exact ⟨rfl,rfl⟩
 ·rw [if_neg (fun q=>h q.2),if_neg h]
  exact ⟨rfl,rfl⟩
theorem manyC (b:Value) (s:Int×Int) (n:Int) (g:InR) (l:List UInt8) (w:World) (hv:RdB w (ltw w) b l):Calls prog 76 #[.agg (inC b s n g)] w fun x w'=>∃g',x=.returned (.agg (inC b (mnyF l s).2 (mnyF l s).1 g'))∧Bl w w':=by
 exact zq15 2
theorem flagC (b:Value) (s:Int×Int) (n:Int) (g:InR) (l:List UInt8) (w:World) (hv:RdB w (ltw w) b l):Calls prog 224 #[.agg (inC b s n g)] w fun x w'=>∃g',x=.returned (.agg (inC b (flagF l s).2 (flagF l s).1 g'))∧Bl w w':=by
 exact zq15 1
end
section
open Go.RowKit Go.Lib Go.IntWalk Go.Sort Go.Shelf
def RIx {α:Type} (b:Value) (V:α→Value) (IS:World→(Nat→Prop)→α→Prop) (er:α→α) (res:α×Int×Int) (w0:World) (e:Ending) (w:World):Prop:=
 ∃n g x,e=.returned (.tuple #[.agg (inC b res.2 n g),V x])∧IS w (fun b=>w0.heap.size≤b∧b<w.heap.size) x∧er x=res.1∧Bl w0 w
def RIl {α:Type} (b:Value) (K:Nat) (enc:α→List Value) (IS:World→(Nat→Prop)→α→Prop) (er:α→α) (res:List α×Int×Int) (w0:World) (e:Ending) (w:World):Prop:=
 ∃n g A c Q,e=.returned (.tuple #[.agg (inC b res.2 n g),.slice A Q.length c])∧RdE K enc w (fun b=>w0.heap.size≤b∧b<w.heap.size) (.slice A Q.length c) Q∧(∀p∈Q,IS w (fun b=>w0.heap.size≤b∧b<w.heap.size) p)∧Q.map er=res.1∧Bl w0 w
structure LI {α:Type} (T:TypeId) (K:Nat) (enc:α→List Value) (IS:World→(Nat→Prop)→α→Prop) (a:Nat) (S:Nat→Prop) (U:World) (L:List Bx) (w:World) (o:Value) (Q:List α):Prop where
 fr:FR a S U L w
 own:OwnE T K enc w U.heap.size o Q
 is:∀p∈Q,IS w (fun b=>U.heap.size≤b∧b<w.heap.size∧some b≠o.ownBlock) p
structure LP {α:Type} (one:Int×Int→α×Int×Int) (er:α→α) (N M:Nat) (Q:List α) (st:Int×Int) (res:List α×Int×Int):Prop where
 le:Q.length≤N
 res:(Q.map er++(getS one (N-Q.length) st).1,(getS one (N-Q.length) st).2)=res
 lenb:Q.length≤M+1
 at_:st.2=0→(Q.length:Int)≤st.1∧st.1≤M
section
variable {α:Type} {T:TypeId} {K:Nat} {enc:α→List Value} {IS:World→(Nat→Prop)→α→Prop} {a c N M:Nat} {S:Nat→Prop} {U wi w2 w3:World} {A:Option Addr} {Q:List α} {O:Obj} {v3 o:Value} {x x0:α} {L L':List Bx} {one:Int×Int→α×Int×Int} {er:α→α} {st st':Int×Int} {res:List α×Int×Int} {l:List UInt8}
theorem FR.isK {V V':World} {d d':Nat} (h:FR a S V L V') (isk:IsK IS) (hX:IS V (fun b=>d≤b∧b<V.heap.size) x) (hd:d'≤d) (hS:∀i,S i→i<d):IS V' (fun b=>d'≤b∧b<V'.heap.size) x:=
 isk.wide (isk.keep hX (w':=V') (fun b hb=>h.chg.block b hb.2 (fun g=>by have:=hS b g;omega))) (fun _ hb=>⟨Nat.le_trans hd hb.1,Nat.lt_of_lt_of_le hb.2 h.chg.size⟩)
theorem exAll_mk {w:World} {F:Nat→Prop} {op it:Int} {v:Val} {nm:ByteArray} {args:List RE} (h1:RdE 7 RE.enc w F (.slice A args.length c) args) (h2:goV v) (h3:nm.size≤maxLen) (h4:∀e∈args,exAll w F e):exAll w F (.mk op it v nm A c args):=fun d=>by
 cases d with
 |zero=>trivial
 |succ d=>exact ⟨h1,h2,h3,fun e he=>h4 e he d⟩
theorem LI.init (h:FR a S U L U):LI T K enc IS a S U L U (.slice none 0 0) ([]:List α):=⟨h,World.ownsRow_nil _ _ _ _,fun p hp=>by cases hp⟩
theorem LI.start (h:LI T K enc IS a S U L wi o Q) (hl:∀p∈L,S p.1):FR a S wi L wi:=h.fr.start hl
theorem LI.rd (h:LI T K enc IS a S U L wi o Q) (isk:IsK IS):RdE K enc wi (fun b=>U.heap.size≤b∧b<wi.heap.size) o Q∧∀p∈Q,IS wi (fun b=>U.heap.size≤b∧b<wi.heap.size) p:=⟨Rd.of_own h.own,fun p hp=>isk.wide (h.is p hp) fun _ hb=>⟨hb.1,hb.2.1⟩⟩
theorem LI.row (h:LI T K enc IS a S U L wi (.slice A Q.length c) Q) (hk:FR a S wi L' w2):(w2.alloc O).ownsRow U.heap.size T K (.slice A Q.length c) Q.length (Q.flatMap enc):=by
 refine World.ownsRow.alloc ?_ _
 refine own_chg h.own hk.chg (fun b hb g=>?_)
 have:=(own_block h.own hb).1
 have:=(h.fr.le.1 b g).2
 omega
theorem LI.step (h:LI T K enc IS a S U L wi (.slice A Q.length c) Q) (isk:IsK IS) (hk:FR a S wi L' w2) (hX:IS w2 (fun b=>wi.heap.size≤b∧b<w2.heap.size) x) (hO3:w3.ownsRow U.heap.size T K v3 (Q.length+1) (Q.flatMap enc++enc x)) (hg:(w2.alloc O).grownBy w3 (Value.slice A Q.length c).ownBlock)
  (hv:v3.ownBlock=(Value.slice A Q.length c).ownBlock∨v3.ownBlock=some (w2.alloc O).heap.size):LI T K enc IS a S U L' w3 v3 (Q++[x]):=by
 have hB:=fun b g=>(h.fr.le.1 b g).2
 have hUi:=h.fr.chg.size
 have hz:=hk.chg.size
 have hz3:w2.heap.size+1≤w3.heap.size:=by have:=hg.size;simpa using this
 have hown:∀b,some b=(Value.slice A Q.length c).ownBlock→U.heap.size≤b∧b<wi.heap.size:=fun b hb=>by
  obtain ⟨g1,cur,g2⟩:=own_block h.own hb
  exact ⟨g1,(Array.getElem?_eq_some_iff.1 g2).1⟩
 have hbk:∀b,b<w2.heap.size→some b≠(Value.slice A Q.length c).ownBlock→w3.heap[b]? =w2.heap[b]? :=fun b hb hne=>(hg.block b (by simp;omega) hne).trans ((Below.of_alloc (w:=w2) O).block b hb)
 have hne:∀b,b<w2.heap.size→some b≠(Value.slice A Q.length c).ownBlock→some b≠v3.ownBlock:=fun b hb h=>by
  rcases hv with hv|hv
  ·rw [hv];exact h
  ·rw [hv];simp;omega
 have h2:=h.fr.trans hk
 refine ⟨⟨(h2.chg.alloc _).trans (Chg.of_grown hg) (fun b hb e=>by have:=(hown b e).1;omega),fun p hp=>?_,h2.nd,h2.le⟩,?_,fun p hp=>?_⟩
 ·obtain ⟨k1,k2,k3⟩:=hk.box p hp
  refine ⟨k1,(h2.box p hp).2.1,(hbk p.1 (Array.getElem?_eq_some_iff.1 k3).1 (fun e=>?_)).trans k3⟩
  have:=hown _ e
  rcases k2 with k2|k2
  ·have:=hB _ k2;omega
  ·omega
 ·unfold OwnE
  rw [List.length_append,List.flatMap_append]
  simpa using hO3
 ·exact zq71 0
theorem LI.keep (h:LI T K enc IS a S U L wi o Q) (isk:IsK IS) (hk:FR a S U L' w2) (hc:Chg S wi w2):LI T K enc IS a S U L' w2 o Q:=by
 have hB:=fun b g=>(h.fr.le.1 b g).2
 have hz:=hc.size
 refine ⟨hk,own_chg h.own hc (fun b hb g=>?_),fun p hp=>isk.wide (isk.keep (h.is p hp) (w':=w2) (fun b hb=>hc.block b hb.2.1 (fun g=>by have:=hB b g;omega))) (fun b hb=>⟨hb.1,by omega,hb.2.2⟩)⟩
 have:=(own_block h.own hb).1
 have:=hB b g
 omega
def LD {α:Type} (K:Nat) (enc:α→List Value) (IS:World→(Nat→Prop)→α→Prop) (S:Nat→Prop) (d:Nat) (V:World) (v:Value) (Q:List α):Prop:=
 RdE K enc V (fun b=>d≤b∧b<V.heap.size∧¬S b) v Q∧∀p∈Q,IS V (fun b=>d≤b∧b<V.heap.size∧¬S b) p
theorem LD.carry {d:Nat} {V V':World} (h:LD K enc IS S d V o Q) (isk:IsK IS) (hc:Chg S V V'):LD K enc IS S d V' o Q:=
 ⟨Rd.wide (Rd.keep h.1 (fun b hb=>hc.block b hb.2.1 hb.2.2)) (fun _ hb=>⟨hb.1,Nat.lt_of_lt_of_le hb.2.1 hc.size,hb.2.2⟩),
  fun p hp=>isk.wide (isk.keep (h.2 p hp) (fun b hb=>hc.block b hb.2.1 hb.2.2)) (fun _ hb=>⟨hb.1,Nat.lt_of_lt_of_le hb.2.1 hc.size,hb.2.2⟩)⟩
theorem LD.mk {d e:Nat} {V:World} (isk:IsK IS) (h1:RdE K enc V (fun b=>e≤b∧b<V.heap.size) o Q) (h2:∀p∈Q,IS V (fun b=>e≤b∧b<V.heap.size) p) (hd:d≤e) (hS:∀i,S i→i<e):LD K enc IS S d V o Q:=
 ⟨Rd.wide h1 (fun b hb=>⟨Nat.le_trans hd hb.1,hb.2,fun g=>by have:=hS b g;omega⟩),fun p hp=>isk.wide (h2 p hp) (fun b hb=>⟨Nat.le_trans hd hb.1,hb.2,fun g=>by have:=hS b g;omega⟩)⟩
theorem LI.ld {d:Nat} (h:LI T K enc IS a S U L wi o Q) (isk:IsK IS) (hd:d≤U.heap.size):LD K enc IS S d wi o Q:=
 LD.mk isk (h.rd isk).1 (h.rd isk).2 hd (fun i hi=>(h.fr.le.1 i hi).2)
theorem LD.fin {d e:Nat} {V:World} (h:LD K enc IS S d V o Q) (isk:IsK IS) (he:e≤d):RdE K enc V (fun b=>e≤b∧b<V.heap.size) o Q∧∀p∈Q,IS V (fun b=>e≤b∧b<V.heap.size) p:=
 ⟨Rd.wide h.1 (fun _ hb=>⟨Nat.le_trans he hb.1,hb.2.1⟩),fun p hp=>isk.wide (h.2 p hp) (fun _ hb=>⟨Nat.le_trans he hb.1,hb.2.1⟩)⟩
theorem LI.put {X:Nat} {cs:Array Value} {t:TypeId} (h:LI T K enc IS a S U L wi o Q) (isk:IsK IS) (i j:Nat) (u:Value) (hS:S X) (hi:L[i]? =some (X,cs,t):=by rfl):LI T K enc IS a S U (L.set i (X,cs.setIfInBounds j u,t)) (wi.setCell ⟨X,j,none⟩ u) o Q:=
 h.keep isk (h.fr.put i j u hi) (Chg.setCell (S:=S) (p:=⟨X,j,none⟩) (Chg.refl _ _) (.inl hS) u)
theorem LI.take (h:LI T K enc IS a S U L wi o Q) (k:Nat):LI T K enc IS a S U (L.take k) wi o Q:=⟨h.fr.take k,h.own,h.is⟩
theorem LP.init (hk:st.2=0→0≤st.1∧st.1≤M):LP one er N M [] st (getS one N st):=⟨Nat.zero_le _,by simp,by simp,by simpa using hk⟩
theorem LP.stop (h:LP one er N M Q st res) (hs:¬(Q.length<N∧st.2=0)):res=(Q.map er,st):=by
 have hle:=h.le
 have h0:N-Q.length=0∨st.2≠0:=by
  by_cases e:st.2=0
  ·have g2:¬Q.length<N:=fun g=>hs ⟨g,e⟩
   exact .inl (by omega)
  ·exact .inr e
 rw [←h.res,getS_stop h0]
 simp
theorem LP.step (h:LP one er N l.length Q st res) (hm:Mon l one) (hs:Q.length<N∧st.2=0) (h1:one st=(x0,st')) (hx:er x=x0):LP one er N l.length (Q++[x]) st' res:=by
 have ha:=h.at_ hs.2
 refine ⟨by simp;omega,?_,by have:=ha;simp;omega,fun he=>?_⟩
 ·rw [←h.res,show N-Q.length=(N-(Q++[x]).length)+1 by simp;omega,getS_step hs.2 h1,List.map_append,List.map_singleton,hx]
  simp
 ·have:=hm st (by rw [h1];exact he)
  rw [h1] at this
  simp only at this
  simp
  omega
end
theorem mny_bd (l:List UInt8) (s:Int×Int):(mnyF l s).1≤9223372036854775807∧((mnyF l s).2.2=0→0≤(mnyF l s).2.1∧(mnyF l s).2.1≤l.length):=by
 have hb:=decI_bd l s.1
 have h1:(rdI l s).1≤9223372036854775807:=by
  unfold rdI rdS
  split
  ·omega
  ·split<;>exact hb.2.1
 have h2:(rdI l s).2.2=0→0≤(rdI l s).2.1∧(rdI l s).2.1≤l.length:=fun he=>by
  rcases h0:rdI l s with ⟨n,k1,e1⟩
  rw [h0] at he
  simp only at he
  subst he
  have g:=rdI_mono h0
  obtain ⟨a,r,hl2,_,hm⟩:=decI_got g.2.2
  have:l.length=(a++encI n).length+r.length:=by rw [hl2];simp [Nat.add_assoc]
  simp only
  omega
 unfold mnyF
 split
 ·exact ⟨by simp,fun he=>by simp at he⟩
 ·exact ⟨h1,h2⟩
end
section
open Go.RowKit Go.Lib Go.IntWalk Go.Sort Go.Shelf
theorem intsC (b:Value) (s:Int×Int) (n:Int) (g:InR) (l:List UInt8) (w:World) (hv:RdB w (ltw w) b l) (hl:l.length≤1048576):Calls prog 78 #[.agg (inC b s n g)] w fun x w'=>∃n' g' A c Q,x=.returned (.agg (inC b (rdL l (rdI l) s).2 n' (InR.wl g' A Q.length c)))∧RdE 1 intE w' (fun b=>w.heap.size≤b∧b<w'.heap.size) (.slice A Q.length c) Q∧Q.map id=(rdL l (rdI l) s).1∧Bl w w':=by
 exact zq15 0
end
end Go.Proofs.YtbfdegkickjbpaaGreat
