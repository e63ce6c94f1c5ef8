/-
 RrJ
-/
import Derived.Test.YtbfdegkickjbpaaGreatGRrI
import Derived.Test.YtbfdegkickjbpaaGreatGRrH
import Derived.Test.YtbfdegkickjbpaaGreatGDcJ
import Derived.Test.YtbfdegkickjbpaaGreatGDcP
import Derived.Test.YtbfdegkickjbpaaGreatGSrcT
import Derived.Test.YtbfdegkickjbpaaGreatGRkF
namespace Go.Proofs.YtbfdegkickjbpaaGreat
set_option maxRecDepth 1000000
set_option maxHeartbeats 32000000
open Go.RowKit Go.Lib Go.IntWalk Go.Sort Go.Shelf
theorem rdR_goV (l:List UInt8) (s:Int×Int):∀v∈(rdR l s).1,goV v:=by
 unfold rdR rdS
 split
 ·intro v hv;cases hv
 ·split<;>exact decR_ok l s.1
theorem doneC (b:Value) (s:Int×Int) (n:Int) (g:InR) (l:List UInt8) (w:World) (hb:∃A k,b=.slice A l.length k):Calls Tryz.prog 83 #[.agg (inC b s n g)] w fun x w'=>x=.returned (.int .i64 (endE s l.length))∧Below w.heap.size w w':=by
 obtain ⟨A,k,rfl⟩:=hb
 exact done_any A k s.1 s.2 n g l w
theorem few_ents {l:List UInt8} (hl:l.length≤1048576):(∀x∈(rdCm l (0,0)).1.ents,x.create.few)∧∀d∈(rdCm l (0,0)).1.dels,d.cl.length≤10000000000∧d.ops.length≤10000000000:=by
 refine ⟨fun x hx=>?_,fun d hd=>?_⟩
 ·exact rdL_all (p:=fun y:REn=>y.create.few) (l:=l) (one:=rdEnt l) (rdEnt_few (by omega)) _ x hx
 ·exact rdL_all (p:=fun y:RDl=>y.cl.length≤10000000000∧y.ops.length≤10000000000) (l:=l) (one:=rdDel l) (rdDel_few (by omega)) _ d hd
def DecRO (l:List UInt8) (w0:World) (e:Ending) (w:World):Prop:=
 ∃c:RCm,e=.returned (.tuple #[.agg c.enc.toArray,.int .i64 (decCm l).2])∧c.er=(decCm l).1∧c.is w (fun b=>w0.heap.size≤b∧b<w.heap.size)∧(∀x∈c.ents,∀e∈x.create.chks,exAll w (fun b=>w0.heap.size≤b∧b<w.heap.size) e)∧Below w0.heap.size w0 w
theorem sz_rcm (w:World):(Go.sizeOf 29).run Tryz.prog w=.ok 10 w:=by simp [go_sem]
theorem ag_rcm (w:World):(isAgg 29).run Tryz.prog w=.ok true w:=by simp [isAgg,go_sem]
theorem sz_rdel (w:World):(Go.sizeOf 63).run Tryz.prog w=.ok 3 w:=by simp [go_sem]
theorem ag_rdel (w:World):(isAgg 63).run Tryz.prog w=.ok true w:=by simp [isAgg,go_sem]
theorem sz_rfct (w:World):(Go.sizeOf 68).run Tryz.prog w=.ok 3 w:=by simp [go_sem]
theorem ag_rfct (w:World):(isAgg 68).run Tryz.prog w=.ok true w:=by simp [isAgg,go_sem]
theorem rdecode_any (v:Value) (l:List UInt8) (w:World) (hv:RdB w (·<w.heap.size) v l) (hl:l.length≤1048576)
  (HL:∀(V:World) (C:RCm),C.er=(rdCm l (0,0)).1→(rdCm l (0,0)).2.2=0→C.is V (·<V.heap.size)→(∀x∈C.ents,∀e∈x.create.chks,exAll V (·<V.heap.size) e)→C.lim V):Calls Tryz.prog 18 #[v] w (DecRO l w):=by
 obtain ⟨bA,bc,rfl,y1,y2,y3⟩:=Rd.open_ hv
 obtain ⟨W,hW⟩:∃W,W=((w.alloc (.cells #[.int .i64 0,.int .i64 0,.int .i64 0,.int .i64 0,.slice none 0 0,.slice none 0 0,.slice none 0 0,.slice none 0 0,.slice none 0 0,.slice none 0 0] 29)).alloc (.cells #[.int .i64 0,.int .i64 0,.int .i64 0,.int .i64 0,.slice none 0 0,.slice none 0 0,.slice none 0 0,.slice none 0 0,.slice none 0 0,.slice none 0 0] 29)).alloc (.cells #[.slice bA l.length bc,.int .i64 0,.int .i64 0,.int .i64 0,.string ⟨#[]⟩,.int .i64 0,.int .i64 0,.string ⟨#[]⟩,.slice none 0 0,.int .i64 0,.int .i64 0,.slice none 0 0] 152):=⟨_,rfl⟩
 have hi:=(((FR.init0 w).init_more (by simp) #[.int .i64 0,.int .i64 0,.int .i64 0,.int .i64 0,.slice none 0 0,.slice none 0 0,.slice none 0 0,.slice none 0 0,.slice none 0 0,.slice none 0 0] 29).init_more (by simp) #[.int .i64 0,.int .i64 0,.int .i64 0,.int .i64 0,.slice none 0 0,.slice none 0 0,.slice none 0 0,.slice none 0 0,.slice none 0 0,.slice none 0 0] 29).init_more (by simp) (inC (.slice bA l.length bc) (0,0) 0 InR.zero) 152
 have h:FR w.heap.size (Sv w.heap.size 3) W [(w.heap.size+2,(inC (.slice bA l.length bc) (0,0) 0 InR.zero),152),(w.heap.size,#[.int .i64 0,.int .i64 0,.int .i64 0,.int .i64 0,.slice none 0 0,.slice none 0 0,.slice none 0 0,.slice none 0 0,.slice none 0 0,.slice none 0 0],29),(w.heap.size+1,#[.int .i64 0,.int .i64 0,.int .i64 0,.int .i64 0,.slice none 0 0,.slice none 0 0,.slice none 0 0,.slice none 0 0,.slice none 0 0,.slice none 0 0],29)] W:=by rw [hW];exact hi.perm (by intro p hp;simp at hp;rcases hp with rfl|rfl|rfl<;>simp [inC,InR.zero]) (by simp)
 have hbW:Below w.heap.size w W:=by rw [hW];exact (((Below.of_alloc _).alloc (by simp) _).alloc (by simp;omega) _)
 have hb2:¬(1048576:Int)<(l.length:Int):=by omega
 clear hi
 have KV:∀V,Below w.heap.size w V→RdB V (·<V.heap.size) (.slice bA l.length bc) l:=fun V hb=>hv.below hb
 have HB:=hI0 hbW
 clear hv hbW
 rcases h1:rdI l (0,0) with ⟨x1,s1⟩
 rcases h2:rdI l s1 with ⟨x2,s2⟩
 rcases h3:rdI l s2 with ⟨x3,s3⟩
 rcases h4:rdI l s3 with ⟨x4,s4⟩
 rcases h5:rdL l (rdEnt l) s4 with ⟨x5,s5⟩
 rcases hda:mnyF l s5 with ⟨mNa,ka1,ea1⟩
 have hbdNa:=mny_bd l s5
 have hpsNa:=mnyF_pos l s5
 rw [hda] at hbdNa hpsNa
 obtain ⟨Na,rfl⟩:=Int.eq_ofNat_of_zero_le hpsNa
 have hNa:(Na:Int)≤9223372036854775807:=hbdNa.1
 have HBDNa:=hI0 hbdNa.2
 clear hbdNa hpsNa
 obtain ⟨resa,hresa⟩:∃r,r=getS (rdDel l) Na (ka1,ea1):=⟨_,rfl⟩
 have qresa:rdL l (rdDel l) s5=resa:=by rw [rdL_many,hda,hresa];rfl
 have Hresa:=hI0 hresa
 clear hresa
 rcases h7:rdL l (rdHld l) resa.2 with ⟨x7,s7⟩
 rcases hdb:mnyF l s7 with ⟨mNb,kb1,eb1⟩
 have hbdNb:=mny_bd l s7
 have hpsNb:=mnyF_pos l s7
 rw [hdb] at hbdNb hpsNb
 obtain ⟨Nb,rfl⟩:=Int.eq_ofNat_of_zero_le hpsNb
 have hNb:(Nb:Int)≤9223372036854775807:=hbdNb.1
 have HBDNb:=hI0 hbdNb.2
 clear hbdNb hpsNb
 obtain ⟨resb,hresb⟩:∃r,r=getS (rdT l) Nb (kb1,eb1):=⟨_,rfl⟩
 have qresb:rdL l (rdT l) s7=resb:=by rw [rdL_many,hdb,hresb];rfl
 have Hresb:=hI0 hresb
 clear hresb
 rcases h9:rdL l (rdPol l) resb.2 with ⟨x9,s9⟩
 rcases h10:rdL l (rdHor l) s9 with ⟨x10,s10⟩
 have hrd:rdCm l (0,0)=(⟨x1,x2,x3,x4,none,0,x5,none,0,resa.1,none,0,x7,none,0,resb.1,none,0,x9,none,0,x10⟩,s10):=by simp only [rdCm,h1,h2,h3,h4,h5,qresa,h7,qresb,h9,h10]
 have HRD:=hI0 hrd
 have HLM:=hI0 HL
 have K1:=fun V (hV:RdB V (·<V.heap.size) (.slice bA l.length bc) l)=>numC (.slice bA l.length bc) (0,0) 0 InR.zero l V hV
 have K2:=fun n g V (hV:RdB V (·<V.heap.size) (.slice bA l.length bc) l)=>numC (.slice bA l.length bc) s1 n g l V hV
 have K3:=fun n g V (hV:RdB V (·<V.heap.size) (.slice bA l.length bc) l)=>numC (.slice bA l.length bc) s2 n g l V hV
 have K4:=fun n g V (hV:RdB V (·<V.heap.size) (.slice bA l.length bc) l)=>numC (.slice bA l.length bc) s3 n g l V hV
 have K5:=fun n g V (hV:RdB V (·<V.heap.size) (.slice bA l.length bc) l)=>entriesC (.slice bA l.length bc) s4 n g l V hV hl
 have K6:=fun n g V (hV:RdB V (·<V.heap.size) (.slice bA l.length bc) l)=>manyC (.slice bA l.length bc) s5 n g l V hV
 have K7:=hI0 (fun n g V (hV:RdB V (·<V.heap.size) (.slice bA l.length bc) l)=>holdsC (.slice bA l.length bc) resa.2 n g l V hV hl)
 have K8:=hI0 (fun n g V (hV:RdB V (·<V.heap.size) (.slice bA l.length bc) l)=>manyC (.slice bA l.length bc) s7 n g l V hV)
 have K9:=hI0 (fun n g V (hV:RdB V (·<V.heap.size) (.slice bA l.length bc) l)=>rulesC (.slice bA l.length bc) resb.2 n g l V hV hl)
 rw [h1] at K1
 rw [h2] at K2
 rw [h3] at K3
 rw [h4] at K4
 rw [h5] at K5
 rw [hda] at K6
 rw [h7] at K7
 rw [hdb] at K8
 rw [h9,h10] at K9
 obtain ⟨i0a,hi,hz0,hz1,hz2⟩:=info_parts info_Del
 have HIa:=hI0 hi
 have HZ0a:=hI0 hz0
 have HZ1a:=hI0 hz1
 have HZ2a:=hI0 hz2
 clear hi hz0 hz1 hz2
 obtain ⟨i0b,hi,hz0,hz1,hz2⟩:=info_parts info_Str
 have HIb:=hI0 hi
 have HZ0b:=hI0 hz0
 have HZ1b:=hI0 hz1
 have HZ2b:=hI0 hz2
 clear hi hz0 hz1 hz2
 obtain ⟨i0f,hi,hz0,hz1,hz2⟩:=info_parts info_Fct
 have HIf:=hI0 hi
 have HZ0f:=hI0 hz0
 have HZ1f:=hI0 hz1
 have HZ2f:=hI0 hz2
 clear hi hz0 hz1 hz2
 clear hrd HL h1 h2 h3 h4 h5 hda qresa h7 hdb qresb h9 h10
 go_enter Tryz.func18,Tryz.ntmps18
 go_upto_region 5 with (fail)
 rw [←hW]
 clear hW hb2
 go_wp2_with (refine ldR 5 sz_in ag_in (h.get 0) ?_)
 (with_reducible refine (K1 W (KV _ (h.below HB.out))).mono ?_)
 rintro _ U1 ⟨g1,rfl,hb1⟩
 have hc1:=h.call hb1
 go_upto_region 6 with (refine stR 5 31 sz_in (hc1.get 0) rfl ?_;intro V1 hV1 cV1)
 have h1:=hc1.store 0 rfl cV1 hV1
 clear h hc1 hb1 cV1 hV1
 have pp0:V1.cell? ⟨w.heap.size+2,3,none⟩=some (.int .i64 x1):=cW0 V1 _ 3 _ _ _ (h1.get 0)
 have xx0:V1.cell? ⟨w.heap.size+1,0,none⟩=some (.int .i64 0):=cW0 V1 _ 0 _ _ _ (h1.get 2)
 have ff0:=fW0 V1 _ 0 _ _ (h1.get 2)
 go_upto_region 7 with (fail)
 have h1p:=h1.put 2 0 (.int .i64 x1)
 have h2:=h1p
 clear pp0 xx0 ff0 h1 h1p
 generalize (V1.setCell ⟨w.heap.size+1,0,none⟩ (.int .i64 x1))=V2 at *
 go_wp2_with (refine ldR 5 sz_in ag_in (h2.get 0) ?_)
 (with_reducible refine (K2 x1 g1 V2 (KV _ (h2.below HB.out))).mono ?_)
 rintro _ U3 ⟨g2,rfl,hb3⟩
 have hc3:=h2.call hb3
 go_upto_region 8 with (refine stR 5 36 sz_in (hc3.get 0) rfl ?_;intro V3 hV3 cV3)
 have h3:=hc3.store 0 rfl cV3 hV3
 clear h2 hc3 hb3 cV3 hV3
 have pp0:V3.cell? ⟨w.heap.size+2,3,none⟩=some (.int .i64 x2):=cW0 V3 _ 3 _ _ _ (h3.get 0)
 have xx0:V3.cell? ⟨w.heap.size+1,1,none⟩=some (.int .i64 0):=cW0 V3 _ 1 _ _ _ (h3.get 2)
 have ff0:=fW0 V3 _ 1 _ _ (h3.get 2)
 go_upto_region 9 with (fail)
 have h3p:=h3.put 2 1 (.int .i64 x2)
 have h4:=h3p
 clear pp0 xx0 ff0 h3 h3p
 generalize (V3.setCell ⟨w.heap.size+1,1,none⟩ (.int .i64 x2))=V4 at *
 go_wp2_with (refine ldR 5 sz_in ag_in (h4.get 0) ?_)
 (with_reducible refine (K3 x2 g2 V4 (KV _ (h4.below HB.out))).mono ?_)
 rintro _ U5 ⟨g3,rfl,hb5⟩
 have hc5:=h4.call hb5
 go_upto_region 10 with (refine stR 5 41 sz_in (hc5.get 0) rfl ?_;intro V5 hV5 cV5)
 have h5:=hc5.store 0 rfl cV5 hV5
 clear h4 hc5 hb5 cV5 hV5
 have pp0:V5.cell? ⟨w.heap.size+2,3,none⟩=some (.int .i64 x3):=cW0 V5 _ 3 _ _ _ (h5.get 0)
 have xx0:V5.cell? ⟨w.heap.size+1,2,none⟩=some (.int .i64 0):=cW0 V5 _ 2 _ _ _ (h5.get 2)
 have ff0:=fW0 V5 _ 2 _ _ (h5.get 2)
 go_upto_region 11 with (fail)
 have h5p:=h5.put 2 2 (.int .i64 x3)
 have h6:=h5p
 clear pp0 xx0 ff0 h5 h5p
 generalize (V5.setCell ⟨w.heap.size+1,2,none⟩ (.int .i64 x3))=V6 at *
 go_wp2_with (refine ldR 5 sz_in ag_in (h6.get 0) ?_)
 (with_reducible refine (K4 x3 g3 V6 (KV _ (h6.below HB.out))).mono ?_)
 rintro _ U7 ⟨g4,rfl,hb7⟩
 have hc7:=h6.call hb7
 go_upto_region 12 with (refine stR 5 46 sz_in (hc7.get 0) rfl ?_;intro V7 hV7 cV7)
 have h7:=hc7.store 0 rfl cV7 hV7
 clear h6 hc7 hb7 cV7 hV7
 have pp0:V7.cell? ⟨w.heap.size+2,3,none⟩=some (.int .i64 x4):=cW0 V7 _ 3 _ _ _ (h7.get 0)
 have xx0:V7.cell? ⟨w.heap.size+1,3,none⟩=some (.int .i64 0):=cW0 V7 _ 3 _ _ _ (h7.get 2)
 have ff0:=fW0 V7 _ 3 _ _ (h7.get 2)
 go_upto_region 13 with (fail)
 have h7p:=h7.put 2 3 (.int .i64 x4)
 have h8:=h7p
 clear pp0 xx0 ff0 h7 h7p
 generalize (V7.setCell ⟨w.heap.size+1,3,none⟩ (.int .i64 x4))=V8 at *
 go_wp2_with (refine ldR 5 sz_in ag_in (h8.get 0) ?_)
 (with_reducible refine (K5 x4 g4 V8 (KV _ (h8.below HB.out))).mono ?_)
 rintro _ U9 ⟨m5,g5,eA,eC,eQ,rfl,hR,hI,heE,hb2⟩
 have hc:=h8.call hb2
 have HSC:=hI0 (h8.below HB.out).size
 have HSL:=hI0 (fun i hi=>(h8.lts.1 i hi).2)
 have HB9:=hI0 (hc.below HB.out)
 have HLE:Hid (LD 16 REn.enc enIs (Sv w.heap.size 3) w.heap.size U9 (.slice eA eQ.length eC) eQ):=hI0 (LD.mk isK_En hR hI HSC.out HSL.out)
 have HEE:=hI0 heE
 clear hR hI heE
 have hst:=hc.start (by intro p hp;simp at hp;rcases hp with rfl|rfl|rfl<;>simp [Sv])
 have ha:=hst.alloc inZ 152
 clear hc hb2 h8
 go_upto_region 14 with (refine stR 6 53 sz_in (ha.get 3) rfl ?_;intro Va hVa cVa)
 have hb:=ha.store 3 rfl cVa hVa
 clear ha cVa hVa
 go_upto_region 15 with (first|(refine ldR 6 sz_in ag_in (hb.get 3) ?_)|(refine stR 5 55 sz_in (hb.get 0) rfl ?_;intro Vc hVc cVc))
 have hd9:=(hb.store 0 rfl cVc hVc).take 3
 clear hb cVc hVc
 have xx0:Vc.cell? ⟨w.heap.size+1,4,none⟩=some (.slice none 0 0):=cW0 Vc _ 4 _ _ _ (hd9.get 2)
 have ff0:=fW0 Vc _ 4 _ _ (hd9.get 2)
 go_upto_region 16 with (fail)
 have hd9p:=hd9.put 2 4 (.slice eA eQ.length eC)
 have h10:=hd9p
 clear xx0 ff0 hd9 hd9p
 generalize (Vc.setCell ⟨w.heap.size+1,4,none⟩ (.slice eA eQ.length eC))=V10 at *
 go_wp2_with (refine ldR 5 sz_in ag_in (h10.get 0) ?_)
 (with_reducible refine (K6 m5 g5 V10 (KV _ (h10.below HB9.out))).mono ?_)
 rintro _ U11 ⟨g6,rfl,hb11⟩
 have hc11:=h10.call hb11
 go_upto_region 17 with (refine stR 5 59 sz_in (hc11.get 0) rfl ?_;intro V11 hV11 cV11)
 have h11:=hc11.store 0 rfl cV11 hV11
 clear h10 hc11 hb11 cV11 hV11
 have p3:V11.cell? ⟨w.heap.size+2,3,none⟩=some (.int .i64 (Na:Int)):=cW0 V11 _ 3 _ _ _ (h11.get 0)
 go_wp2_with fail
 clear p3 K1 K2 K3 K4 K5 K6
 have hs:=h11.start (by intro p hp;simp at hp;rcases hp with rfl|rfl|rfl<;>simp [Sv])
 have HBUa:Hid (Below w.heap.size w V11):=hI0 (h11.below HB9.out)
 have HLEu:=hI0 (HLE.out.carry isK_En h11.chg)
 clear h11
 go_loopw [9] (fun i wr=>∃(Q:List RDl) (st:Int×Int) (n':Int) (g':InR) (o:Value),i=.int .i64 (Q.length:Int)∧Hid (LI 63 3 RDl.enc delIs w.heap.size (Sv w.heap.size 3) V11 [(w.heap.size+2,(inC (.slice bA l.length bc) st n' g'),152),(w.heap.size,#[.int .i64 0,.int .i64 0,.int .i64 0,.int .i64 0,.slice none 0 0,.slice none 0 0,.slice none 0 0,.slice none 0 0,.slice none 0 0,.slice none 0 0],29),(w.heap.size+1,#[.int .i64 x1,.int .i64 x2,.int .i64 x3,.int .i64 x4,.slice eA eQ.length eC,o,.slice none 0 0,.slice none 0 0,.slice none 0 0,.slice none 0 0],29)] wr o Q)∧Hid (LP (rdDel l) RDl.er Na l.length Q st resa)) (fun i _=>Na-(intOf i).toNat)
 case atStart=>exact ⟨[],(ka1,ea1),_,_,_,rfl,hI0 (LI.init hs),hI0 (by rw [Hresa.out];exact LP.init HBDNa.out)⟩
 obtain ⟨Qa,⟨ka,era⟩,n'a,g'a,o,rfl,HI_a,HPa⟩:=hrel
 obtain ⟨wia,rfl⟩:∃wi:World,wi=wr:=⟨_,rfl⟩
 obtain ⟨Aoa,coa,rfl,o1,o2,o3⟩:=Rd.open_ (Rd.of_own HI_a.out.own)
 have hs:=HI_a.out.start (by intro p hp;simp at hp;rcases hp with rfl|rfl|rfl<;>simp [Sv])
 have HBWa:Hid (Below w.heap.size w wia):=hI0 (HI_a.out.fr.below HBUa.out)
 have c2:wia.cell? ⟨w.heap.size+2,2,none⟩=some (.int .i64 era):=cW0 wia _ 2 _ _ _ (hs.get 0)
 have o1a:=o1
 clear o1 o2 o3
 by_cases hgo:Qa.length<Na∧era=0
 case neg=>
  have HFa:Hid (resa=(Qa.map RDl.er,(ka,era))):=hI0 (HPa.out.stop hgo)
  have HLDa:Hid (LD 3 RDl.enc delIs (Sv w.heap.size 3) w.heap.size wia (.slice Aoa Qa.length coa) Qa):=hI0 (HI_a.out.ld isK_D HBUa.out.size)
  have HLEuw:=hI0 (HLEu.out.carry isK_En HI_a.out.fr.chg)
  by_cases hlt:Qa.length<Na
  all_goals first|(have hil2:¬(Qa.length:Int)<(Na:Int):=by omega)|(have hil2:(Qa.length:Int)<(Na:Int):=(by omega);have her:¬era=0:=fun g=>hgo ⟨hlt,g⟩)
  all_goals go_upto_region 38 with (fail)
  all_goals clear c2 hgo hlt hil2
  all_goals try clear her
  all_goals
   have K7:=K7.out
   rw [HFa.out] at K7
   go_wp2_with (refine ldR 5 sz_in ag_in (hs.get 0) ?_)
   (with_reducible refine (K7 n'a g'a wia (KV _ (hs.below HBWa.out))).mono ?_)
   rintro _ U12 ⟨m7,g7,hA,hC,hQ,rfl,hR,hI,heH,hb2⟩
   have hc:=hs.call hb2
   have HSC:=hI0 (hs.below HBWa.out).size
   have HSL:=hI0 (fun i hi=>(hs.lts.1 i hi).2)
   have HB12:=hI0 (hc.below HBWa.out)
   obtain rfl:hQ=x7:=by simpa using heH
   have HLH:Hid (LD 6 Hld.enc isT (Sv w.heap.size 3) w.heap.size U12 (.slice hA hQ.length hC) hQ):=hI0 (LD.mk isK_T hR hI HSC.out HSL.out)
   clear hR hI heH
   have HLEuwd:=hI0 (HLEuw.out.carry isK_En hc.chg)
   have HLDad:=hI0 (HLDa.out.carry isK_D hc.chg)
   have hst:=hc.start (by intro p hp;simp at hp;rcases hp with rfl|rfl|rfl<;>simp [Sv])
   have ha:=hst.alloc inZ 152
   clear hc hb2 hs
   go_upto_region 39 with (refine stR 14 123 sz_in (ha.get 3) rfl ?_;intro Va hVa cVa)
   have hb:=ha.store 3 rfl cVa hVa
   clear ha cVa hVa
   go_upto_region 40 with (first|(refine ldR 14 sz_in ag_in (hb.get 3) ?_)|(refine stR 5 125 sz_in (hb.get 0) rfl ?_;intro Vc hVc cVc))
   have hd12:=(hb.store 0 rfl cVc hVc).take 3
   clear hb cVc hVc
   have xx0:Vc.cell? ⟨w.heap.size+1,6,none⟩=some (.slice none 0 0):=cW0 Vc _ 6 _ _ _ (hd12.get 2)
   have ff0:=fW0 Vc _ 6 _ _ (hd12.get 2)
   go_upto_region 41 with (fail)
   have hd12p:=hd12.put 2 6 (.slice hA hQ.length hC)
   have h13:=hd12p
   clear xx0 ff0 hd12 hd12p
   generalize (Vc.setCell ⟨w.heap.size+1,6,none⟩ (.slice hA hQ.length hC))=V13 at *
   have K8:=K8.out
   go_wp2_with (refine ldR 5 sz_in ag_in (h13.get 0) ?_)
   (with_reducible refine (K8 m7 g7 V13 (KV _ (h13.below HB12.out))).mono ?_)
   rintro _ U14 ⟨g8,rfl,hb14⟩
   have hc14:=h13.call hb14
   go_upto_region 42 with (refine stR 5 129 sz_in (hc14.get 0) rfl ?_;intro V14 hV14 cV14)
   have h14:=hc14.store 0 rfl cV14 hV14
   clear h13 hc14 hb14 cV14 hV14
   have p3:V14.cell? ⟨w.heap.size+2,3,none⟩=some (.int .i64 (Nb:Int)):=cW0 V14 _ 3 _ _ _ (h14.get 0)
   go_wp2_with fail
   clear p3 K7 K8
   have hs:=h14.start (by intro p hp;simp at hp;rcases hp with rfl|rfl|rfl<;>simp [Sv])
   have HBUb:Hid (Below w.heap.size w V14):=hI0 (h14.below HB12.out)
   have HLEuwdu:=hI0 (HLEuwd.out.carry isK_En h14.chg)
   have HLDadu:=hI0 (HLDad.out.carry isK_D h14.chg)
   have HLHu:=hI0 (HLH.out.carry isK_T h14.chg)
   clear h14
   go_loopw [16] (fun i wr=>∃(Q:List ByteArray) (st:Int×Int) (n':Int) (g':InR) (o:Value),i=.int .i64 (Q.length:Int)∧Hid (LI 9 1 strE isT w.heap.size (Sv w.heap.size 3) V14 [(w.heap.size+2,(inC (.slice bA l.length bc) st n' g'),152),(w.heap.size,#[.int .i64 0,.int .i64 0,.int .i64 0,.int .i64 0,.slice none 0 0,.slice none 0 0,.slice none 0 0,.slice none 0 0,.slice none 0 0,.slice none 0 0],29),(w.heap.size+1,#[.int .i64 x1,.int .i64 x2,.int .i64 x3,.int .i64 x4,.slice eA eQ.length eC,.slice Aoa Qa.length coa,.slice hA hQ.length hC,o,.slice none 0 0,.slice none 0 0],29)] wr o Q)∧Hid (LP (rdT l) id Nb l.length Q st resb)) (fun i _=>Nb-(intOf i).toNat)
   case atStart=>exact ⟨[],(kb1,eb1),_,_,_,rfl,hI0 (LI.init hs),hI0 (by rw [Hresb.out];exact LP.init HBDNb.out)⟩
   obtain ⟨Qb,⟨kb,erb⟩,n'b,g'b,o,rfl,HI_b,HPb⟩:=hrel
   obtain ⟨wib,rfl⟩:∃wi:World,wi=wr:=⟨_,rfl⟩
   obtain ⟨Aob,cob,rfl,o1,o2,o3⟩:=Rd.open_ (Rd.of_own HI_b.out.own)
   have hs:=HI_b.out.start (by intro p hp;simp at hp;rcases hp with rfl|rfl|rfl<;>simp [Sv])
   have HBWb:Hid (Below w.heap.size w wib):=hI0 (HI_b.out.fr.below HBUb.out)
   have c2:wib.cell? ⟨w.heap.size+2,2,none⟩=some (.int .i64 erb):=cW0 wib _ 2 _ _ _ (hs.get 0)
   have o1b:=o1
   clear o1 o2 o3
   by_cases hgo:Qb.length<Nb∧erb=0
   case neg=>
    have HFb:Hid (resb=(Qb.map id,(kb,erb))):=hI0 (HPb.out.stop hgo)
    have HLDb:Hid (LD 1 strE isT (Sv w.heap.size 3) w.heap.size wib (.slice Aob Qb.length cob) Qb):=hI0 (HI_b.out.ld isK_T HBUb.out.size)
    have HLEuwduw:=hI0 (HLEuwdu.out.carry isK_En HI_b.out.fr.chg)
    have HLDaduw:=hI0 (HLDadu.out.carry isK_D HI_b.out.fr.chg)
    have HLHuw:=hI0 (HLHu.out.carry isK_T HI_b.out.fr.chg)
    by_cases hlt:Qb.length<Nb
    all_goals first|(have hil2:¬(Qb.length:Int)<(Nb:Int):=by omega)|(have hil2:(Qb.length:Int)<(Nb:Int):=(by omega);have her:¬erb=0:=fun g=>hgo ⟨hlt,g⟩)
    all_goals go_upto_region 49 with (fail)
    all_goals clear c2 hgo hlt hil2
    all_goals try clear her
    all_goals
     have K9:=K9.out
     rw [HFb.out] at K9
     go_wp2_with (refine ldR 5 sz_in ag_in (hs.get 0) ?_)
     (with_reducible refine (K9 n'b g'b wib (KV _ (hs.below HBWb.out))).mono ?_)
     rintro _ U15 ⟨m9,g9,qA,qC,qQ,zA,zC,zQ,rfl,hR,heP,hR2,heZ,hb2⟩
     have hc:=hs.call hb2
     have HSC:=hI0 (hs.below HBWb.out).size
     have HSL:=hI0 (fun i hi=>(hs.lts.1 i hi).2)
     have HB15:=hI0 (hc.below HBWb.out)
     subst heP heZ
     have HLP:Hid (LD 2 Pol.enc isT (Sv w.heap.size 3) w.heap.size U15 (.slice qA qQ.length qC) qQ):=hI0 (LD.mk isK_T hR (fun _ _=>trivial) HSC.out HSL.out)
     have HLZ:Hid (LD 2 Hor.enc isT (Sv w.heap.size 3) w.heap.size U15 (.slice zA zQ.length zC) zQ):=hI0 (LD.mk isK_T hR2 (fun _ _=>trivial) HSC.out HSL.out)
     clear hR hR2
     have HLEuwduwd:=hI0 (HLEuwduw.out.carry isK_En hc.chg)
     have HLDaduwd:=hI0 (HLDaduw.out.carry isK_D hc.chg)
     have HLHuwd:=hI0 (HLHuw.out.carry isK_T hc.chg)
     have HLDbd:=hI0 (HLDb.out.carry isK_T hc.chg)
     have hst:=hc.start (by intro p hp;simp at hp;rcases hp with rfl|rfl|rfl<;>simp [Sv])
     have ha:=hst.alloc inZ 152
     clear hc hb2 hs
     go_upto_region 50 with (refine stR 18 155 sz_in (ha.get 3) rfl ?_;intro Va hVa cVa)
     have hb:=ha.store 3 rfl cVa hVa
     clear ha cVa hVa
     go_upto_region 51 with (first|(refine ldR 18 sz_in ag_in (hb.get 3) ?_)|(refine stR 5 158 sz_in (hb.get 0) rfl ?_;intro Vc hVc cVc))
     have hd15:=(hb.store 0 rfl cVc hVc).take 3
     clear hb cVc hVc
     have xx0:Vc.cell? ⟨w.heap.size+1,8,none⟩=some (.slice none 0 0):=cW0 Vc _ 8 _ _ _ (hd15.get 2)
     have ff0:=fW0 Vc _ 8 _ _ (hd15.get 2)
     go_upto_region 52 with (fail)
     have hd15p:=hd15.put 2 8 (.slice qA qQ.length qC)
     have h16:=hd15p
     clear xx0 ff0 hd15 hd15p
     generalize (Vc.setCell ⟨w.heap.size+1,8,none⟩ (.slice qA qQ.length qC))=V16 at *
     have xx0:V16.cell? ⟨w.heap.size+1,9,none⟩=some (.slice none 0 0):=cW0 V16 _ 9 _ _ _ (h16.get 2)
     have ff0:=fW0 V16 _ 9 _ _ (h16.get 2)
     go_upto_region 53 with (fail)
     have h16p:=h16.put 2 9 (.slice zA zQ.length zC)
     have h17:=h16p
     clear xx0 ff0 h16 h16p
     generalize (V16.setCell ⟨w.heap.size+1,9,none⟩ (.slice zA zQ.length zC))=V17 at *
     obtain ⟨C,hC0⟩:∃C:RCm,C=⟨x1,x2,x3,x4,eA,eC,eQ,Aoa,coa,Qa,hA,hC,hQ,Aob,cob,Qb,qA,qC,qQ,zA,zC,zQ⟩:=⟨_,rfl⟩
     have hCe:C.enc.toArray=#[.int .i64 x1,.int .i64 x2,.int .i64 x3,.int .i64 x4,.slice eA eQ.length eC,.slice Aoa Qa.length coa,.slice hA hQ.length hC,.slice Aob Qb.length cob,.slice qA qQ.length qC,.slice zA zQ.length zC]:=by rw [hC0];rfl
     have hCr:C.er=(rdCm l (0,0)).1:=by rw [HRD.out,hC0];simp [RCm.er,HEE.out,HFa.out,HFb.out]
     have hCI:∀(V:World),Chg (Sv w.heap.size 3) U15 V→C.is V (fun b=>w.heap.size≤b∧b<V.heap.size)∧∀x∈C.ents,∀e∈x.create.chks,exAll V (fun b=>w.heap.size≤b∧b<V.heap.size) e:=fun V hV=>by
      have e1:=LD.fin (HLEuwduwd.out.carry isK_En hV) isK_En (Nat.le_refl _)
      have e2:=LD.fin (HLDaduwd.out.carry isK_D hV) isK_D (Nat.le_refl _)
      have e3:=LD.fin (HLHuwd.out.carry isK_T hV) isK_T (Nat.le_refl _)
      have e4:=LD.fin (HLDbd.out.carry isK_T hV) isK_T (Nat.le_refl _)
      have e5:=LD.fin (HLP.out.carry isK_T hV) isK_T (Nat.le_refl _)
      have e6:=LD.fin (HLZ.out.carry isK_T hV) isK_T (Nat.le_refl _)
      have f1:∀x∈eQ,x.er.create.few:=fun x hx=>by
       have g:=(few_ents hl).1 x.er
       rw [HRD.out] at g
       exact g (by simp only;rw [←HEE.out];exact List.mem_map_of_mem hx)
      have f2:∀d∈Qa,d.er.cl.length≤10000000000∧d.er.ops.length≤10000000000:=fun d hd=>by
       have g:=(few_ents hl).2 d.er
       rw [HRD.out] at g
       exact g (by simp only;rw [HFa.out];exact List.mem_map_of_mem hd)
      rw [hC0]
      exact ⟨⟨e1.1,fun x hx=>en_is (e1.2 x hx) (f1 x hx),e2.1,fun d hd=>del_is (e2.2 d hd) (f2 d hd),e3.1,e4.1,e5.1,e6.1⟩,fun x hx e he=>(e1.2 x hx).1.2.2.2.2.2 e he⟩
     have HCE:=hI0 hCe
     have HCR:=hI0 hCr
     have HCI:=hI0 hCI
     clear hCe hCr hCI hC0 K9
     have KD:=doneC (.slice bA l.length bc) s10 m9 g9 l V17 ⟨_,_,rfl⟩
     go_wp2_with (refine ldR 5 sz_in ag_in (h17.get 0) ?_)
     (with_reducible refine KD.mono ?_)
     rintro _ D1 ⟨rfl,hb3⟩
     have h6:=h17.call hb3
     clear h17 hb3 KD
     obtain ⟨ee,hee⟩:∃e,e=endE s10 l.length:=⟨_,rfl⟩
     rw [←hee]
     have HEN:Hid (ee=endE (rdCm l (0,0)).2 l.length):=hI0 (by rw [HRD.out];exact hee)
     clear hee
     by_cases hen:ee=0
     case neg=>
      have hen2:(ee != 0)=true:=by simpa using hen
      have HDC:=hI0 (decCm_end (by omega) (show rdCm l (0,0)=((rdCm l (0,0)).1,(rdCm l (0,0)).2) from rfl) (by rw [←HEN.out];exact hen):decCm l=(RCm.none_,endE (rdCm l (0,0)).2 l.length))
      go_upto_region 55 with (fail)
      go_wp2_with (refine stR (vs:=#[.int .i64 0,.int .i64 0,.int .i64 0,.int .i64 0,.slice none 0 0,.slice none 0 0,.slice none 0 0,.slice none 0 0,.slice none 0 0,.slice none 0 0]) 2 167 sz_rcm (h6.get 1) rfl ?_;intro E hE cE)
      have k2:=h6.store 1 rfl cE hE
      exact bodyPost_ret (v:=.tuple #[.agg #[.int .i64 0,.int .i64 0,.int .i64 0,.int .i64 0,.slice none 0 0,.slice none 0 0,.slice none 0 0,.slice none 0 0,.slice none 0 0,.slice none 0 0],.int .i64 ee]) (res_ct Tryz.results18 rfl rfl (run_varRow sz_rcm ag_rcm (k2.get 1))) rfl ⟨RCm.none_,by rw [HDC.out,HEN.out];rfl,by rw [HDC.out];rfl,none_is _ _,(fun x hx=>by cases hx),k2.below HB15.out⟩
     subst hen
     have he0:(rdCm l (0,0)).2.2=0:=by
      have g:=HEN.out
      unfold endE at g
      by_cases e0:(rdCm l (0,0)).2.2=0
      ·exact e0
      ·simp [e0] at g;exact absurd g.symm e0
     have hci:=HCI.out D1 h6.chg
     have hiw:C.is D1 (·<D1.heap.size):=RCm.is_kw hci.1 (fun _ _=>rfl) (fun b hb=>hb.2)
     have KC:=kcheck_any C D1 hiw (HLM.out D1 C HCR.out he0 hiw (fun x hx e he=>isK_X.wide (hci.2 x hx e he) (fun b hb=>hb.2)))
     rw [HCE.out] at KC
     clear hci hiw
     go_upto_region 56 with (fail)
     go_wp2_with (refine ldR 4 sz_rcm ag_rcm (h6.get 2) ?_)
     (with_reducible refine KC.mono ?_)
     rintro _ D2 ⟨rfl,hb4⟩
     have h7:=h6.call hb4
     clear hb4 KC
     obtain ⟨ce,hce⟩:∃e,e=checkF C:=⟨_,rfl⟩
     rw [←hce]
     have HCK:Hid (ce=checkF (rdCm l (0,0)).1):=hI0 (by rw [hce,←HCR.out,checkF_er])
     clear hce
     by_cases hcn:ce=0
     case neg=>
      have hcn2:(ce != 0)=true:=by simpa using hcn
      have HDC:=hI0 (decCm_chk (by omega) (show rdCm l (0,0)=((rdCm l (0,0)).1,(rdCm l (0,0)).2) from rfl) HEN.out.symm (by rw [←HCK.out];exact hcn):decCm l=(RCm.none_,checkF (rdCm l (0,0)).1))
      go_upto_region 58 with (fail)
      go_wp2_with (refine stR (vs:=#[.int .i64 0,.int .i64 0,.int .i64 0,.int .i64 0,.slice none 0 0,.slice none 0 0,.slice none 0 0,.slice none 0 0,.slice none 0 0,.slice none 0 0]) 2 173 sz_rcm (h7.get 1) rfl ?_;intro E hE cE)
      have k2:=h7.store 1 rfl cE hE
      exact bodyPost_ret (v:=.tuple #[.agg #[.int .i64 0,.int .i64 0,.int .i64 0,.int .i64 0,.slice none 0 0,.slice none 0 0,.slice none 0 0,.slice none 0 0,.slice none 0 0,.slice none 0 0],.int .i64 ce]) (res_ct Tryz.results18 rfl rfl (run_varRow sz_rcm ag_rcm (k2.get 1))) rfl ⟨RCm.none_,by rw [HDC.out,HCK.out];rfl,by rw [HDC.out];rfl,none_is _ _,(fun x hx=>by cases hx),k2.below HB15.out⟩
     subst hcn
     have HDC:=hI0 (decCm_ok (by omega) (show rdCm l (0,0)=((rdCm l (0,0)).1,(rdCm l (0,0)).2) from rfl) HEN.out.symm HCK.out.symm:decCm l=((rdCm l (0,0)).1,0))
     go_upto_region 59 with (fail)
     go_wp2_with (first|(refine ldR 4 sz_rcm ag_rcm (h7.get 2) ?_)|(refine stR (vs:=#[.int .i64 x1,.int .i64 x2,.int .i64 x3,.int .i64 x4,.slice eA eQ.length eC,.slice Aoa Qa.length coa,.slice hA hQ.length hC,.slice Aob Qb.length cob,.slice qA qQ.length qC,.slice zA zQ.length zC]) 2 175 sz_rcm (h7.get 1) rfl ?_;intro E hE cE))
     have k2:=h7.store 1 rfl cE hE
     have hci:=HCI.out E k2.chg
     exact bodyPost_ret (v:=.tuple #[.agg #[.int .i64 x1,.int .i64 x2,.int .i64 x3,.int .i64 x4,.slice eA eQ.length eC,.slice Aoa Qa.length coa,.slice hA hQ.length hC,.slice Aob Qb.length cob,.slice qA qQ.length qC,.slice zA zQ.length zC],.int .i64 0]) (res_ct Tryz.results18 rfl rfl (run_varRow sz_rcm ag_rcm (k2.get 1))) rfl ⟨C,by rw [HDC.out,HCE.out],by rw [HDC.out];exact HCR.out,hci.1,hci.2,k2.below HB15.out⟩
   obtain rfl:erb=0:=hgo.2
   have hil2:(Qb.length:Int)<(Nb:Int):=by have:=hgo.1;omega
   rcases hx:rdT l (kb,0) with ⟨ys,st'⟩
   have HX1:=hI0 hx
   have KA:=fun V (hV:RdB V (·<V.heap.size) (.slice bA l.length bc) l)=>textC (.slice bA l.length bc) (kb,0) n'b g'b l V hV
   rw [hx] at KA
   clear hx
   go_upto_region 46 with (fail)
   clear c2
   go_wp2_with (refine ldR 5 sz_in ag_in (hs.get 0) ?_)
   (with_reducible refine (KA wib (KV _ (hs.below HBWb.out))).mono ?_)
   rintro _ U15 ⟨q1,j1,rfl,hb15⟩
   have hc15:=hs.call hb15
   go_upto_region 47 with (refine stR 5 143 sz_in (hc15.get 0) rfl ?_;intro V15 hV15 cV15)
   have h15:=hc15.store 0 rfl cV15 hV15
   clear hs hc15 hb15 cV15 hV15
   have p4:V15.cell? ⟨w.heap.size+2,4,none⟩=some (.string ys):=cW0 V15 _ 4 _ _ _ (h15.get 0)
   go_upto_region 48 with (fail)
   clear p4
   have HK:=hI0 h15
   have HOA:=hI0 (HI_b.out.row (O:=(.cells #[.string ys] 9)) HK.out)
   have HNEW:=hI0 (Rd.new' V15 V15.heap.size rfl [.string ys] 9 1 1 rfl (by decide))
   have hz9:V14.heap.size≤V15.heap.size:=Nat.le_trans HI_b.out.fr.chg.size HK.out.chg.size
   have hi5:Qb.length≤1048577:=by have:=HPb.out.lenb;omega
   have xo:V15.cell? ⟨w.heap.size+1,7,none⟩=some (.slice Aob Qb.length cob):=cW0 V15 _ 7 _ _ _ (h15.get 2)
   have HIX:=hI0 trivial
   go_wp2_with (first|(at_builtin;refine wpList_append_app (V15.alloc (.cells #[.string ys] 9)) rfl (.tmp 147) (.tmp 149) 25 rfl V14.heap.size 9 i0b _ 1 16 Tryz.underlying25 HIb.out HZ0b.out HZ1b.out HZ2b.out rfl (by omega) (.slice Aob Qb.length cob) Qb.length (Qb.flatMap strE) rfl (.inl HOA.out) (·=V15.heap.size) _ 1 [.string ys] rfl HNEW.out (fun u hu=>by simp only [List.mem_cons,List.not_mem_nil,or_false] at hu;rcases hu with rfl<;>rfl) (by unfold maxLen;omega) (by omega) (by simp;omega) ?_;intro v3 w3 _ hO3 hg3 hb3 hv3;have HLI:=HI_b.out.step (x:=ys) isK_T HK.out HIX.out (hO3 (.inl (by omega))) hg3 hv3;obtain ⟨A3,c3,h3e,_,_,_⟩:=Rd.open_ (Rd.of_own HLI.own);rw [List.length_append,List.length_singleton] at h3e;subst h3e;have y3:w3.cell? ⟨w.heap.size+1,7,none⟩=some (.slice Aob Qb.length cob):=cW0 w3 _ 7 _ _ _ (HLI.fr.get 2);have f3:=fW0 w3 _ 7 _ _ (HLI.fr.get 2)))
   have HL2:=hI0 ((HLI.take 3).put (X:=w.heap.size+1) isK_T 2 7 (.slice A3 (Qb.length+1) c3) (by simp [Sv]))
   clear hO3 hg3 hb3 hv3 HLI y3 f3 xo
   go_wp2_with fail
   go_roundw
   case rel=>exact ⟨Qb++[ys],st',q1,(j1.ws ys),.slice A3 (Qb.length+1) c3,by simp,hI0 HL2.out,hI0 (HPb.out.step mon_T ⟨hgo.1,rfl⟩ HX1.out rfl)⟩
   case measure=>have:=hgo.1;simp [intOf];omega
 obtain rfl:era=0:=hgo.2
 have hil2:(Qa.length:Int)<(Na:Int):=by have:=hgo.1;omega
 have HGA:Hid (Qa.length<Na∧((ka,(0:Int)):Int×Int).2=0):=hI0 ⟨hgo.1,rfl⟩
 rcases hi1:rdT l (ka,0) with ⟨yn,t1⟩
 rcases hi2:rdL l (rdI l) t1 with ⟨yc,t2⟩
 rcases hdf:mnyF l t2 with ⟨mNf,kf1,ef1⟩
 have hbdNf:=mny_bd l t2
 have hpsNf:=mnyF_pos l t2
 rw [hdf] at hbdNf hpsNf
 obtain ⟨Nf,rfl⟩:=Int.eq_ofNat_of_zero_le hpsNf
 have hNf:(Nf:Int)≤9223372036854775807:=hbdNf.1
 have HBDNf:=hI0 hbdNf.2
 clear hbdNf hpsNf
 obtain ⟨resf,hresf⟩:∃r,r=getS (rdFct l) Nf (kf1,ef1):=⟨_,rfl⟩
 have qresf:rdL l (rdFct l) t2=resf:=by rw [rdL_many,hdf,hresf];rfl
 have Hresf:=hI0 hresf
 clear hresf
 have HX0:Hid (rdDel l (ka,0)=(⟨yn,none,0,yc,none,0,resf.1⟩,resf.2)):=hI0 (by simp only [rdDel,hi1,hi2,qresf])
 have KA:=fun n g V (hV:RdB V (·<V.heap.size) (.slice bA l.length bc) l)=>textC (.slice bA l.length bc) (ka,0) n g l V hV
 have KB:=fun n g V (hV:RdB V (·<V.heap.size) (.slice bA l.length bc) l)=>intsC (.slice bA l.length bc) t1 n g l V hV hl
 have KD:=fun n g V (hV:RdB V (·<V.heap.size) (.slice bA l.length bc) l)=>manyC (.slice bA l.length bc) t2 n g l V hV
 rw [hi1] at KA
 rw [hi2] at KB
 rw [hdf] at KD
 clear hi1 hi2 hdf qresf
 go_upto_region 21 with (fail)
 clear c2
 obtain ⟨X,hX⟩:∃z,z=wia.heap.size:=⟨_,rfl⟩
 obtain ⟨V12,hV12⟩:∃z,z=wia.alloc (.cells #[.string ⟨#[]⟩,.slice none 0 0,.slice none 0 0] 63):=⟨_,rfl⟩
 have hw12:=hs.alloc #[.string ⟨#[]⟩,.slice none 0 0,.slice none 0 0] 63
 have h12:=hs.more (by intro p hp;simp at hp;rcases hp with rfl|rfl|rfl<;>simp [Sv]) #[.string ⟨#[]⟩,.slice none 0 0,.slice none 0 0] 63
 have hxlX:wia.heap.size≤X:=by rw [hX];exact hs.chg.size
 rw [←hV12,←hX] at hw12 h12
 go_upto_region 22 with (fail)
 rw [←hV12,←hX]
 have HWX:=hI0 hw12
 have HXLX:=hI0 hxlX
 have HB12:Hid (Below w.heap.size w V12):=hI0 (hw12.below HBWa.out)
 clear hV12 hX hw12 hxlX hs
 go_wp2_with (refine ldR 5 sz_in ag_in (h12.get 0) ?_)
 (with_reducible refine (KA n'a g'a V12 (KV _ (h12.below HB12.out))).mono ?_)
 rintro _ U13 ⟨q1,j1,rfl,hb13⟩
 have hc13:=h12.call hb13
 go_upto_region 23 with (refine stR 5 74 sz_in (hc13.get 0) rfl ?_;intro V13 hV13 cV13)
 have h13:=hc13.store 0 rfl cV13 hV13
 clear h12 hc13 hb13 cV13 hV13
 have pp0:V13.cell? ⟨w.heap.size+2,4,none⟩=some (.string yn):=cW0 V13 _ 4 _ _ _ (h13.get 0)
 have xx0:V13.cell? ⟨X,0,none⟩=some (.string ⟨#[]⟩):=cW0 V13 _ 0 _ _ _ (h13.get 3)
 have ff0:=fW0 V13 _ 0 _ _ (h13.get 3)
 go_upto_region 24 with (fail)
 have h13p:=h13.put 3 0 (.string yn)
 have h14:=h13p
 clear pp0 xx0 ff0 h13 h13p
 generalize (V13.setCell ⟨X,0,none⟩ (.string yn))=V14 at *
 go_wp2_with (refine ldR 5 sz_in ag_in (h14.get 0) ?_)
 (with_reducible refine (KB q1 (j1.ws yn) V14 (KV _ (h14.below HB12.out))).mono ?_)
 rintro _ U15 ⟨q2,j2,jA,jc,jq,rfl,hkr,hke,hb15⟩
 have hc15:=h14.call hb15
 obtain rfl:jq=yc:=by simpa using hke
 have HSD:=hI0 (Nat.le_trans HWX.out.chg.size h14.chg.size)
 have HLD1:Hid (LD 1 intE isT (Sx (Sv w.heap.size 3) X) wia.heap.size U15 (.slice jA jq.length jc) jq):=hI0 (LD.mk isK_T hkr (fun _ _=>trivial) HSD.out (fun i hi=>(h14.lts.1 i hi).2))
 clear hkr hke
 have HB15:=hI0 (hc15.below HB12.out)
 have hs15:=hc15.start (by intro p hp;simp at hp;rcases hp with rfl|rfl|rfl|rfl<;>simp [Sv,Sx])
 have HPC:=hI0 hc15
 go_upto_region 25 with (refine stR 5 79 sz_in (hs15.get 0) rfl ?_;intro V15 hV15 cV15)
 have h15:=hs15.store 0 rfl cV15 hV15
 clear h14 hc15 hs15 hb15 cV15 hV15
 have pp0:V15.cell? ⟨w.heap.size+2,11,none⟩=some (.slice jA jq.length jc):=cW0 V15 _ 11 _ _ _ (h15.get 0)
 have xx0:V15.cell? ⟨X,1,none⟩=some (.slice none 0 0):=cW0 V15 _ 1 _ _ _ (h15.get 3)
 have ff0:=fW0 V15 _ 1 _ _ (h15.get 3)
 go_upto_region 26 with (fail)
 have h15p:=h15.put 3 1 (.slice jA jq.length jc)
 have h16:=h15p
 clear pp0 xx0 ff0 h15 h15p
 generalize (V15.setCell ⟨X,1,none⟩ (.slice jA jq.length jc))=V16 at *
 go_wp2_with (refine ldR 5 sz_in ag_in (h16.get 0) ?_)
 (with_reducible refine (KD q2 (j2.wl jA jq.length jc) V16 (KV _ (h16.below HB15.out))).mono ?_)
 rintro _ U17 ⟨j3,rfl,hb17⟩
 have hc17:=h16.call hb17
 go_upto_region 27 with (refine stR 5 84 sz_in (hc17.get 0) rfl ?_;intro V17 hV17 cV17)
 have h17:=hc17.store 0 rfl cV17 hV17
 clear h16 hc17 hb17 cV17 hV17
 have p3:V17.cell? ⟨w.heap.size+2,3,none⟩=some (.int .i64 (Nf:Int)):=cW0 V17 _ 3 _ _ _ (h17.get 0)
 go_wp2_with fail
 clear p3 KA KB KD
 have hs:=h17.start (by intro p hp;simp at hp;rcases hp with rfl|rfl|rfl|rfl<;>simp [Sv,Sx])
 have HBUf:Hid (Below w.heap.size w V17):=hI0 (h17.below HB15.out)
 have HPUf:=hI0 (HPC.out.trans h17)
 have HLD1u:=hI0 (HLD1.out.carry isK_T h17.chg)
 clear h17
 go_loopw [12] (fun i wr=>∃(Q:List RF) (st:Int×Int) (n':Int) (g':InR) (o:Value),i=.int .i64 (Q.length:Int)∧Hid (LI 68 3 RF.enc RF.is w.heap.size (Sx (Sv w.heap.size 3) X) V17 [(w.heap.size+2,(inC (.slice bA l.length bc) st n' g'),152),(w.heap.size,#[.int .i64 0,.int .i64 0,.int .i64 0,.int .i64 0,.slice none 0 0,.slice none 0 0,.slice none 0 0,.slice none 0 0,.slice none 0 0,.slice none 0 0],29),(w.heap.size+1,#[.int .i64 x1,.int .i64 x2,.int .i64 x3,.int .i64 x4,.slice eA eQ.length eC,.slice Aoa Qa.length coa,.slice none 0 0,.slice none 0 0,.slice none 0 0,.slice none 0 0],29),(X,#[.string yn,.slice jA jq.length jc,o],63)] wr o Q)∧Hid (LP (rdFct l) RF.er Nf l.length Q st resf)) (fun i _=>Nf-(intOf i).toNat)
 case atStart=>exact ⟨[],(kf1,ef1),_,_,_,rfl,hI0 (LI.init hs),hI0 (by rw [Hresf.out];exact LP.init HBDNf.out)⟩
 obtain ⟨Qf,⟨kf,erf⟩,n'f,g'f,o,rfl,HI_f,HPf⟩:=hrel
 obtain ⟨wif,rfl⟩:∃wi:World,wi=wr:=⟨_,rfl⟩
 obtain ⟨Aof,cof,rfl,o1,o2,o3⟩:=Rd.open_ (Rd.of_own HI_f.out.own)
 have hs:=HI_f.out.start (by intro p hp;simp at hp;rcases hp with rfl|rfl|rfl|rfl<;>simp [Sv,Sx])
 have HBWf:Hid (Below w.heap.size w wif):=hI0 (HI_f.out.fr.below HBUf.out)
 have c2:wif.cell? ⟨w.heap.size+2,2,none⟩=some (.int .i64 erf):=cW0 wif _ 2 _ _ _ (hs.get 0)
 have o1f:=o1
 clear o1 o2 o3
 by_cases hgo:Qf.length<Nf∧erf=0
 case neg=>
  have HFf:Hid (resf=(Qf.map RF.er,(kf,erf))):=hI0 (HPf.out.stop hgo)
  have HLDf:Hid (LD 3 RF.enc RF.is (Sx (Sv w.heap.size 3) X) wia.heap.size wif (.slice Aof Qf.length cof) Qf):=hI0 (HI_f.out.ld isK_F (Nat.le_trans HWX.out.chg.size HPUf.out.chg.size))
  have HLD1uw:=hI0 (HLD1u.out.carry isK_T HI_f.out.fr.chg)
  have HPWf:=hI0 (HPUf.out.trans HI_f.out.fr)
  by_cases hlt:Qf.length<Nf
  all_goals first|(have hil2:¬(Qf.length:Int)<(Nf:Int):=by omega)|(have hil2:(Qf.length:Int)<(Nf:Int):=(by omega);have her:¬erf=0:=fun g=>hgo ⟨hlt,g⟩)
  all_goals go_upto_region 37 with (fail)
  all_goals clear c2 hgo hlt hil2
  all_goals try clear her
  all_goals
   have HX1:=HX0.out
   rw [HFf.out] at HX1
   have HX1:=hI0 HX1
   have HK:=hI0 (HWX.out.outer HPWf.out (fun i hi hs=>hs.elim id (fun e=>by have:=HXLX.out;omega)))
   have HOA:=hI0 (HI_a.out.row (O:=(.cells #[.string yn,.slice jA jq.length jc,.slice Aof Qf.length cof] 63)) HK.out)
   have HNEW:=hI0 (Rd.new' wif wif.heap.size rfl [.string yn,.slice jA jq.length jc,.slice Aof Qf.length cof] 63 3 1 rfl (by decide))
   have hz9:V11.heap.size≤wif.heap.size:=Nat.le_trans HI_a.out.fr.chg.size HK.out.chg.size
   have hi5:Qa.length≤1048577:=by have:=HPa.out.lenb;omega
   have xo:wif.cell? ⟨w.heap.size+1,5,none⟩=some (.slice Aoa Qa.length coa):=cW0 wif _ 5 _ _ _ (hs.get 2)
   have HIX:=hI0 (show delIs wif (fun b=>wia.heap.size≤b∧b<wif.heap.size) (⟨yn,jA,jc,jq,Aof,cof,Qf⟩:RDl) from ⟨(LD.fin HLD1uw.out isK_T (Nat.le_refl _)).1,(LD.fin HLDf.out isK_F (Nat.le_refl _)).1,(LD.fin HLDf.out isK_F (Nat.le_refl _)).2⟩)
   go_wp2_with (first|(refine ldR 10 sz_rdel ag_rdel (hs.get 3) ?_)|(at_builtin;refine wpList_append_app (wif.alloc (.cells #[.string yn,.slice jA jq.length jc,.slice Aof Qf.length cof] 63)) rfl (.tmp 115) (.tmp 117) 23 rfl V11.heap.size 63 i0a _ 3 64 Tryz.underlying23 HIa.out HZ0a.out HZ1a.out HZ2a.out rfl (by omega) (.slice Aoa Qa.length coa) Qa.length (Qa.flatMap RDl.enc) rfl (.inl HOA.out) (·=wif.heap.size) _ 1 [.string yn,.slice jA jq.length jc,.slice Aof Qf.length cof] rfl HNEW.out (fun u hu=>by simp only [List.mem_cons,List.not_mem_nil,or_false] at hu;rcases hu with rfl|rfl|rfl<;>rfl) (by unfold maxLen;omega) (by omega) (by simp;omega) ?_;intro v3 w3 _ hO3 hg3 hb3 hv3;have HLI:=HI_a.out.step (x:=(⟨yn,jA,jc,jq,Aof,cof,Qf⟩:RDl)) isK_D HK.out HIX.out (hO3 (.inl (by omega))) hg3 hv3;obtain ⟨A3,c3,h3e,_,_,_⟩:=Rd.open_ (Rd.of_own HLI.own);rw [List.length_append,List.length_singleton] at h3e;subst h3e;have y3:w3.cell? ⟨w.heap.size+1,5,none⟩=some (.slice Aoa Qa.length coa):=cW0 w3 _ 5 _ _ _ (HLI.fr.get 2);have f3:=fW0 w3 _ 5 _ _ (HLI.fr.get 2)))
   have HL2:=hI0 ((HLI.take 3).put (X:=w.heap.size+1) isK_D 2 5 (.slice A3 (Qa.length+1) c3) (by simp [Sv]))
   clear hO3 hg3 hb3 hv3 HLI y3 f3 xo
   go_wp2_with fail
   go_roundw
   case rel=>exact ⟨Qa++[(⟨yn,jA,jc,jq,Aof,cof,Qf⟩:RDl)],(kf,erf),n'f,g'f,.slice A3 (Qa.length+1) c3,by simp,hI0 HL2.out,hI0 (HPa.out.step mon_Del ⟨HGA.out.1,rfl⟩ HX1.out (by simp [RDl.er]))⟩
   case measure=>have:=HGA.out.1;simp [intOf];omega
 obtain rfl:erf=0:=hgo.2
 have hil2:(Qf.length:Int)<(Nf:Int):=by have:=hgo.1;omega
 rcases hj1:rdR l (kf,0) with ⟨yr,u1⟩
 rcases hj2:rdP l u1 with ⟨⟨yf,yt⟩,st'⟩
 have HX1:Hid (rdFct l (kf,0)=(⟨none,0,0,yr,yf,yt⟩,st')):=hI0 (by simp only [rdFct,hj1,hj2])
 have HGR:Hid (∀v∈yr,goV v):=hI0 (by have k:=rdR_goV l (kf,0);rw [hj1] at k;exact k)
 have KA:=fun n g V (hV:RdB V (·<V.heap.size) (.slice bA l.length bc) l)=>rowC (.slice bA l.length bc) (kf,0) n g l V hV
 have KB:=fun n g V (hV:RdB V (·<V.heap.size) (.slice bA l.length bc) l)=>perC (.slice bA l.length bc) u1 n g l V hV
 rw [hj1] at KA
 rw [hj2] at KB
 clear hj1 hj2
 go_upto_region 31 with (fail)
 clear c2
 obtain ⟨Y,hY⟩:∃z,z=wif.heap.size:=⟨_,rfl⟩
 obtain ⟨V18,hV18⟩:∃z,z=wif.alloc (.cells #[.slice none 0 0,.int .i64 0,.int .i64 0] 68):=⟨_,rfl⟩
 have hw18:=hs.alloc #[.slice none 0 0,.int .i64 0,.int .i64 0] 68
 have h18:=hs.more (by intro p hp;simp at hp;rcases hp with rfl|rfl|rfl|rfl<;>simp [Sv,Sx]) #[.slice none 0 0,.int .i64 0,.int .i64 0] 68
 have hxlY:wif.heap.size≤Y:=by rw [hY];exact hs.chg.size
 rw [←hV18,←hY] at hw18 h18
 go_upto_region 32 with (fail)
 rw [←hV18,←hY]
 have HWY:=hI0 hw18
 have HXLY:=hI0 hxlY
 have HB18:Hid (Below w.heap.size w V18):=hI0 (hw18.below HBWf.out)
 clear hV18 hY hw18 hxlY hs
 go_wp2_with (refine ldR 5 sz_in ag_in (h18.get 0) ?_)
 (with_reducible refine (KA n'f g'f V18 (KV _ (h18.below HB18.out))).mono ?_)
 rintro _ U19 ⟨q4,j4,rfl,hkr,hb19⟩
 have hc19:=h18.call hb19
 have HKR:=hI0 hkr
 have HSK:=hI0 (fun i hi=>(h18.lts.1 i hi).2)
 have HSZ:=hI0 (Nat.le_trans HWY.out.chg.size h18.chg.size)
 clear hkr
 have HB19:=hI0 (hc19.below HB18.out)
 have hs19:=hc19.start (by intro p hp;simp at hp;rcases hp with rfl|rfl|rfl|rfl|rfl<;>simp [Sv,Sx])
 have HPC:=hI0 hc19
 go_upto_region 33 with (refine stR 5 99 sz_in (hs19.get 0) rfl ?_;intro V19 hV19 cV19)
 have h19:=hs19.store 0 rfl cV19 hV19
 clear h18 hc19 hs19 hb19 cV19 hV19
 have pp0:V19.cell? ⟨w.heap.size+2,8,none⟩=some (.slice j4.rA j4.rn j4.rc):=cW0 V19 _ 8 _ _ _ (h19.get 0)
 have xx0:V19.cell? ⟨Y,0,none⟩=some (.slice none 0 0):=cW0 V19 _ 0 _ _ _ (h19.get 4)
 have ff0:=fW0 V19 _ 0 _ _ (h19.get 4)
 go_upto_region 34 with (fail)
 have h19p:=h19.put 4 0 (.slice j4.rA j4.rn j4.rc)
 have h20:=h19p
 clear pp0 xx0 ff0 h19 h19p
 generalize (V19.setCell ⟨Y,0,none⟩ (.slice j4.rA j4.rn j4.rc))=V20 at *
 go_wp2_with (refine ldR 5 sz_in ag_in (h20.get 0) ?_)
 (with_reducible refine (KB q4 j4 V20 (KV _ (h20.below HB19.out))).mono ?_)
 rintro _ U21 ⟨q5,j5,rfl,hb21⟩
 have hc21:=h20.call hb21
 go_upto_region 35 with (refine stR 5 104 sz_in (hc21.get 0) rfl ?_;intro V21 hV21 cV21)
 have h21:=hc21.store 0 rfl cV21 hV21
 clear h20 hc21 hb21 cV21 hV21
 have pp0:V21.cell? ⟨w.heap.size+2,9,none⟩=some (.int .i64 yf):=cW0 V21 _ 9 _ _ _ (h21.get 0)
 have pp1:V21.cell? ⟨w.heap.size+2,10,none⟩=some (.int .i64 yt):=cW0 V21 _ 10 _ _ _ (h21.get 0)
 have xx0:V21.cell? ⟨Y,1,none⟩=some (.int .i64 0):=cW0 V21 _ 1 _ _ _ (h21.get 4)
 have ff0:=fW0 V21 _ 1 _ _ (h21.get 4)
 have xx1:V21.cell? ⟨Y,2,none⟩=some (.int .i64 0):=cW0 V21 _ 2 _ _ _ (h21.get 4)
 have ff1:=fW0 V21 _ 2 _ _ (h21.get 4)
 go_upto_region 36 with (fail)
 have h21p:=h21.put 4 1 (.int .i64 yf)
 have h21pp:=h21p.put 4 2 (.int .i64 yt)
 have h22:=h21pp
 clear pp0 pp1 xx0 ff0 xx1 ff1 h21 h21p h21pp
 generalize ((V21.setCell ⟨Y,1,none⟩ (.int .i64 yf)).setCell ⟨Y,2,none⟩ (.int .i64 yt))=V22 at *
 have HK:=hI0 (HWY.out.outer (HPC.out.trans h22) (fun i hi hs=>hs.elim id (fun e=>by have:=HXLY.out;omega)))
 have HOA:=hI0 (HI_f.out.row (O:=(.cells #[.slice j4.rA j4.rn j4.rc,.int .i64 yf,.int .i64 yt] 68)) HK.out)
 have HNEW:=hI0 (Rd.new' V22 V22.heap.size rfl [.slice j4.rA j4.rn j4.rc,.int .i64 yf,.int .i64 yt] 68 3 1 rfl (by decide))
 have hz9:V17.heap.size≤V22.heap.size:=Nat.le_trans HI_f.out.fr.chg.size HK.out.chg.size
 have hi5:Qf.length≤1048577:=by have:=HPf.out.lenb;omega
 have xo:V22.cell? ⟨X,2,none⟩=some (.slice Aof Qf.length cof):=cW0 V22 _ 2 _ _ _ (h22.get 3)
 have HIX:=hI0 (FR.isK (IS:=RF.is) (d':=wif.heap.size) (x:=(⟨j4.rA,j4.rn,j4.rc,yr,yf,yt⟩:RF)) h22 isK_F ⟨HKR.out,HGR.out⟩ HSZ.out HSK.out)
 go_wp2_with (first|(refine ldR 13 sz_rfct ag_rfct (h22.get 4) ?_)|(at_builtin;refine wpList_append_app (V22.alloc (.cells #[.slice j4.rA j4.rn j4.rc,.int .i64 yf,.int .i64 yt] 68)) rfl (.tmp 109) (.tmp 111) 61 rfl V17.heap.size 68 i0f _ 3 40 Tryz.underlying61 HIf.out HZ0f.out HZ1f.out HZ2f.out rfl (by omega) (.slice Aof Qf.length cof) Qf.length (Qf.flatMap RF.enc) rfl (.inl HOA.out) (·=V22.heap.size) _ 1 [.slice j4.rA j4.rn j4.rc,.int .i64 yf,.int .i64 yt] rfl HNEW.out (fun u hu=>by simp only [List.mem_cons,List.not_mem_nil,or_false] at hu;rcases hu with rfl|rfl|rfl<;>rfl) (by unfold maxLen;omega) (by omega) (by simp;omega) ?_;intro v3 w3 _ hO3 hg3 hb3 hv3;have HLI:=HI_f.out.step (x:=(⟨j4.rA,j4.rn,j4.rc,yr,yf,yt⟩:RF)) isK_F HK.out HIX.out (hO3 (.inl (by omega))) hg3 hv3;obtain ⟨A3,c3,h3e,_,_,_⟩:=Rd.open_ (Rd.of_own HLI.own);rw [List.length_append,List.length_singleton] at h3e;subst h3e;have y3:w3.cell? ⟨X,2,none⟩=some (.slice Aof Qf.length cof):=cW0 w3 _ 2 _ _ _ (HLI.fr.get 3);have f3:=fW0 w3 _ 2 _ _ (HLI.fr.get 3)))
 have HL2:=hI0 ((HLI.take 4).put (X:=X) isK_F 3 2 (.slice A3 (Qf.length+1) c3) (by simp [Sv,Sx]))
 clear hO3 hg3 hb3 hv3 HLI y3 f3 xo
 go_wp2_with fail
 go_roundw
 case rel=>exact ⟨Qf++[(⟨j4.rA,j4.rn,j4.rc,yr,yf,yt⟩:RF)],st',q5,(j5.wp (yf,yt)),.slice A3 (Qf.length+1) c3,by simp,hI0 HL2.out,hI0 (HPf.out.step mon_Fct ⟨hgo.1,rfl⟩ HX1.out rfl)⟩
 case measure=>have:=hgo.1;simp [intOf];omega
end Go.Proofs.YtbfdegkickjbpaaGreat
