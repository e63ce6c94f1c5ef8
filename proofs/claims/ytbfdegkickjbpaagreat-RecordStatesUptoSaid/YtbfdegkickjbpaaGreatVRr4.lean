/-
 Rr4
-/
import Derived.Test.YtbfdegkickjbpaaGreatVDc5
import Derived.Test.YtbfdegkickjbpaaGreatVDc4
import Derived.Test.YtbfdegkickjbpaaGreatVRcO
import Derived.Test.YtbfdegkickjbpaaGreatVSt2
import Derived.Test.YtbfdegkickjbpaaGreatVRr2
import Derived.Test.YtbfdegkickjbpaaGreatVRr3
import Derived.Test.YtbfdegkickjbpaaGreatVSeg1
import Derived.Test.YtbfdegkickjbpaaGreatVRk1
import Derived.Test.YtbfdegkickjbpaaGreatVSm1
import Derived.Test.YtbfdegkickjbpaaGreatVWk1
namespace Go.Proofs.YtbfdegkickjbpaaGreat
open Go.Proofs.Tryz
set_option maxRecDepth 99999
set_option maxHeartbeats 0
open Go.RowKit Go.Lib Go.IntWalk Go.Sort Go.Shelf
def Msz {α:Type} (rd:Int×Int→α×Int×Int) (sz:α→Nat):Prop:=∀s,(rd s).2.2=0→64*s.1+(sz (rd s).1:Int)≤64*(rd s).2.1
theorem msz_getS {α:Type} {l:List UInt8} {one:Int×Int→α×Int×Int} {sz:α→Nat} (hm:Mon l one) (h:Msz one sz):∀(n:Nat) (s:Int×Int),(getS one n s).2.2=0→64*s.1+((((getS one n s).1.map sz).sum:Nat):Int)≤64*(getS one n s).2.1:=by
 intro n
 induction n with
 |zero=>intro s _;simp [getS]
 |succ n ih=>
  intro s hs0
  by_cases hs:s.2=0
  ·rcases e:one s with ⟨x,s'⟩
   rw [getS_step hs e] at hs0 ⊢
   have h1:=ih s' hs0
   have h3:=(mon_getS hm n s' hs0).1
   have h2:=h s (by rw [e];exact h3)
   rw [e] at h2
   simp only at h2 ⊢
   simp only [List.map_cons,List.sum_cons]
   omega
  ·rw [getS_stop (.inr hs)] at hs0
   exact absurd hs0 hs
theorem msz_L {α:Type} {l:List UInt8} {one:Int×Int→α×Int×Int} {sz:α→Nat} (hm:Mon l one) (h:Msz one sz):∀s,(rdL l one s).2.2=0→64*s.1+64+((((rdL l one s).1.map sz).sum:Nat):Int)≤64*(rdL l one s).2.1:=by
 intro s hs
 unfold rdL at hs ⊢
 split at hs
 ·exact absurd hs (by simp)
 ·rename_i h1
  rw [if_neg h1]
  have h2:=msz_getS hm h _ _ hs
  have h3:=mon_I s (mon_getS hm _ _ hs).1
  omega
theorem msz_one {α:Type} {l:List UInt8} {rd:Int×Int→α×Int×Int} (hm:Mon l rd):Msz rd (fun _=>1):=fun s h=>by
 have:=(hm s h).2.1
 show 64*s.1+((1:Nat):Int)≤_
 omega
theorem sum_one {α:Type} (l:List α):(l.map (fun _=>(1:Nat))).sum=l.length:=by induction l with
 |nil=>rfl
 |cons a l ih=>simp [ih];omega
theorem decVs_len (l:List UInt8):∀(n:Nat) (k:Int) (acc:List Val),(decVs l n k acc).1.length≤acc.length+n:=by
 intro n
 induction n with
 |zero=>intro k acc;simp [decVs]
 |succ n ih=>
  intro k acc
  unfold decVs
  split
  ·simp
  ·have:=ih (decV l k).2.1 (acc++[(decV l k).1])
   simp at this
   omega
theorem rdR_len (l:List UInt8) (s:Int×Int):(rdR l s).1.length≤12:=by
 have h:(decR l s.1).1.length≤12:=by
  unfold decR
  split
  ·simp
  ·split
   ·simp
   ·split
    ·simp
    ·have:=decVs_len l (decI l s.1).1.toNat (decI l s.1).2.1 []
     simp at this
     omega
 unfold rdR rdS
 split
 ·simp
 ·split<;>exact h
theorem msz_X (l:List UInt8):∀d:Nat,Msz (rdX l d) RE.nodes
 |0=>fun s h=>by simp [rdX] at h
 |d+1=>fun s h=>by
  have hr:(rdL l (rdX l d) (rdT l (rdV l (rdI l (rdI l s).2).2).2).2).2.2=0:=h
  have h5:=msz_L (mon_X d) (msz_X l d) _ hr
  have h4:=mon_T _ (mon_L (mon_X d) _ hr).1
  have h3:=mon_V _ h4.1
  have h2:=mon_I _ h3.1
  have h1:=mon_I _ h2.1
  show 64*s.1+((RE.nodes (.mk _ _ _ _ none 0 (rdL l (rdX l d) (rdT l (rdV l (rdI l (rdI l s).2).2).2).2).1):Nat):Int)≤64*(rdL l (rdX l d) (rdT l (rdV l (rdI l (rdI l s).2).2).2).2).2.1
  rw [RE.nodes,nodesL_sum]
  omega
theorem msz_For (l:List UInt8):Msz (rdFor l) RFor.sz:=fun s h=>by
 have hr:(rdT l (rdL l (rdI l) s).2).2.2=0:=h
 have h2:=mon_T _ hr
 have h1:=msz_L mon_I (msz_one (l:=l) mon_I) _ h2.1
 rw [sum_one] at h1
 show 64*s.1+(((rdL l (rdI l) s).1.length+1:Nat):Int)≤64*(rdT l (rdL l (rdI l) s).2).2.1
 omega
theorem msz_Tab (l:List UInt8):Msz (rdTab l) RTab.sz:=fun s h=>by
 have hr:(rdL l (rdX l 24) (rdL l (rdFor l) (rdL l (rdI l) (rdL l (rdCol l) (rdT l s).2).2).2).2).2.2=0:=h
 have h5:=msz_L (mon_X 24) (msz_X l 24) _ hr
 have e4:=(mon_L (mon_X 24) _ hr).1
 have h4:=msz_L mon_For (msz_For l) _ e4
 have e3:=(mon_L mon_For _ e4).1
 have h3:=msz_L mon_I (msz_one (l:=l) mon_I) _ e3
 have e2:=(mon_L mon_I _ e3).1
 have h2:=msz_L mon_Col (msz_one (l:=l) mon_Col) _ e2
 have h1:=mon_T _ (mon_L mon_Col _ e2).1
 rw [sum_one] at h2 h3
 show 64*s.1+(((rdL l (rdCol l) (rdT l s).2).1.length+(rdL l (rdI l) (rdL l (rdCol l) (rdT l s).2).2).1.length+szL RFor.sz (rdL l (rdFor l) (rdL l (rdI l) (rdL l (rdCol l) (rdT l s).2).2).2).1+szL RE.nodes (rdL l (rdX l 24) (rdL l (rdFor l) (rdL l (rdI l) (rdL l (rdCol l) (rdT l s).2).2).2).2).1:Nat):Int)≤64*(rdL l (rdX l 24) (rdL l (rdFor l) (rdL l (rdI l) (rdL l (rdCol l) (rdT l s).2).2).2).2).2.1
 unfold szL
 omega
theorem msz_Ent (l:List UInt8):Msz (rdEnt l) REn.sz:=fun s h=>by
 by_cases h0:(rdI l (rdT l (rdI l s).2).2).1=0
 ·have e:rdEnt l s=(⟨(rdI l s).1,(rdT l (rdI l s).2).1,(rdTab l (rdI l (rdT l (rdI l s).2).2).2).1,⟨0,⟨#[]⟩,⟨#[]⟩,⟨#[]⟩,0,false,zeroV⟩⟩,(rdTab l (rdI l (rdT l (rdI l s).2).2).2).2):=by unfold rdEnt;simp only [h0,if_true]
  rw [e] at h ⊢
  have h4:=msz_Tab l _ h
  have h3:=mon_I _ (mon_Tab _ h).1
  have h2:=mon_T _ h3.1
  have h1:=mon_I _ h2.1
  show 64*s.1+(((rdTab l (rdI l (rdT l (rdI l s).2).2).2).1.sz+1:Nat):Int)≤64*(rdTab l (rdI l (rdT l (rdI l s).2).2).2).2.1
  omega
 ·have e:rdEnt l s=(⟨(rdI l s).1,(rdT l (rdI l s).2).1,RTab.none_,(rdChn l (rdI l (rdT l (rdI l s).2).2).1 (rdI l (rdT l (rdI l s).2).2).2).1⟩,(rdChn l (rdI l (rdT l (rdI l s).2).2).1 (rdI l (rdT l (rdI l s).2).2).2).2):=by unfold rdEnt;simp only [if_neg h0]
  have:=(mon_Ent s h).2.1
  rw [e] at this ⊢
  have hz:REn.sz ⟨(rdI l s).1,(rdT l (rdI l s).2).1,RTab.none_,(rdChn l (rdI l (rdT l (rdI l s).2).2).1 (rdI l (rdT l (rdI l s).2).2).2).1⟩=3:=rfl
  rw [hz]
  omega
theorem rdCol_sm (l:List UInt8) (s:Int×Int):(rdCol l s).1.sm:=rdT_size l s
theorem rdTab_sm (l:List UInt8) (s:Int×Int):(rdTab l s).1.sm:=
 ⟨rdT_size l s,rdL_all (p:=fun y:RCol=>y.sm) (one:=rdCol l) (rdCol_sm l) _,rdL_all (p:=fun y:RFor=>y.sm) (one:=rdFor l) (fun _=>rdT_size l _) _⟩
theorem rdEnt_sm (l:List UInt8) (s:Int×Int):(rdEnt l s).1.sm:=by
 unfold rdEnt
 simp only
 split
 ·exact ⟨rdT_size l _,rdTab_sm l _,⟨Nat.zero_le _,Nat.zero_le _,Nat.zero_le _⟩⟩
 ·exact ⟨rdT_size l _,⟨Nat.zero_le _,(fun x hx=>by cases hx),(fun x hx=>by cases hx)⟩,⟨rdT_size l _,rdT_size l _,rdT_size l _⟩⟩
theorem mem_le_sum {α:Type} (f:α→Nat) {l:List α} {a:α} (h:a∈l):f a≤(l.map f).sum:=by
 induction l with
 |nil=>cases h
 |cons b l ih=>
  simp only [List.map_cons,List.sum_cons]
  rcases List.mem_cons.1 h with rfl|h
  ·omega
  ·have:=ih h;omega
theorem tab_er_sm {t:RTab} (h:t.er.sm):t.sm:=⟨h.name,h.cols,fun x hx=>h.fors x.er (List.mem_map_of_mem hx)⟩
theorem tab_er_sz (t:RTab):t.er.sz=t.sz:=by
 have hn:∀e:RE,e.er.nodes=e.nodes:=fun e=>by
  have:∀n,∀e:RE,e.nodes≤n→e.er.nodes=e.nodes:=by
   intro n
   induction n with
   |zero=>intro e he;have:=e.nodes_pos;omega
   |succ n ih=>
    intro e he
    obtain ⟨op,it,v,nm,A,c,args⟩:=e
    rw [RE.er_mk,RE.nodes,RE.nodes,nodesL_sum,nodesL_sum,List.map_map]
    rw [RE.nodes,nodesL_sum] at he
    have:∀a∈args,a.er.nodes=a.nodes:=fun a ha=>ih a (by
     have h1:=mem_le_sum RE.nodes ha
     omega)
    rw [show args.map (RE.nodes ∘ RE.er)=args.map RE.nodes from List.map_congr_left (fun a ha=>this a ha)]
  exact this _ e (Nat.le_refl _)
 have hn2:(RE.nodes ∘ RE.er)=RE.nodes:=funext hn
 have hf2:(RFor.sz ∘ RFor.er)=RFor.sz:=rfl
 simp only [RTab.sz,RTab.er,szL,List.map_map,hn2,hf2]
theorem rdL_lenN {α:Type} {N:Nat} {l:List UInt8} {one:Int×Int→α×Int×Int} (hm:Mon l one) (hl:l.length≤N) (s:Int×Int):(rdL l one s).1.length≤N:=by
 exact zq45
def xs7z:List Val:=[⟨1,7,⟨#[]⟩⟩]
theorem rdBlk {α:Type} {K:Nat} {enc:α→List Value} {w:World} {b:Nat} {x:α} {e:TypeId} (h:w.heap[b]? =some (.cells (enc x).toArray e (0,0))) (hl:(enc x).length=K):RdE K enc w (ltw w) (.slice (some ⟨b,0,none⟩) 1 1) [x]:=by
 exact zq43
def EncZO (l:List UInt8) (w0:World) (e:Ending) (w:World):Prop:=∃u,e=.returned (.tuple #[u,.int .i64 0])∧RdB w (fun b=>w0.heap.size≤b∧b<w.heap.size) u l∧Bl w0 w
def DecZO (w0:World) (e:Ending) (w:World):Prop:=∃(a1 a2 a3 a4 a5 a6:Option Addr) (c1 c2 c3 c4 c5 c6:Nat),e=.returned (.tuple #[.agg #[.int .i64 1,.int .i64 5,.int .i64 5,.int .i64 1,.slice a1 0 c1,.slice a2 0 c2,.slice a3 0 c3,.slice a4 0 c4,.slice a5 0 c5,.slice a6 0 c6],.int .i64 0])∧Bl w0 w
theorem decZ_eq:decCm [2,10,10,2,0,0,0,0,0,0]=(⟨1,5,5,1,none,0,[],none,0,[],none,0,[],none,0,[],none,0,[],none,0,[]⟩,0):=by kernel_rfl
theorem decZ (v:Value) (w:World) (hv:RdB w (ltw w) v [2,10,10,2,0,0,0,0,0,0]):Calls prog 17 #[v] w (DecZO w):=by
 refine (decode_any v _ w hv).mono ?_
 rintro _ w' ⟨c,rfl,h1,_,_,hb⟩
 rw [decZ_eq] at h1 ⊢
 obtain ⟨dtx,dtm,dwa,dfi,a1,c1,dents,a2,c2,ddels,a3,c3,dpla,a4,c4,drel,a5,c5,dpol,a6,c6,dhor⟩:=c
 simp only [RCm.er,RCm.mk.injEq,true_and,List.map_eq_nil_iff] at h1
 obtain ⟨rfl,rfl,rfl,rfl,rfl,rfl,rfl,rfl,rfl,rfl⟩:=h1
 exact ⟨a1,a2,a3,a4,a5,a6,c1,c2,c3,c4,c5,c6,rfl,hb⟩
theorem chkZ (D C:Nat) (w:World) (hD:w.heap[D]? =some (.cells #[.string ⟨#[116]⟩,.slice (some ⟨C,0,none⟩) 1 1,.slice none 0 0] 63 (0,0))) (hC:w.heap[C]? =some (.cells #[.int .i64 4] 3 (0,0))):Calls prog 11 #[.agg #[.int .i64 1,.int .i64 5,.int .i64 5,.int .i64 4,.slice none 0 0,.slice (some ⟨D,0,none⟩) 1 1,.slice none 0 0,.slice none 0 0,.slice none 0 0,.slice none 0 0]] w fun e w'=>e=.returned (.int .i64 6)∧Bl w w':=
 check_any ⟨1,5,5,4,none,0,[],some ⟨D,0,none⟩,1,[⟨⟨#[116]⟩,some ⟨C,0,none⟩,1,[4],none,0,[]⟩],none,0,[],none,0,[],none,0,[],none,0,[]⟩ w
  ⟨Rd.nil _ _ _,(fun x hx=>by cases hx),rdBlk hD rfl,
   (fun x hx=>by rw [List.mem_singleton] at hx;subst hx;exact ⟨rdBlk hC rfl,⟨Rd.nil _ _ _,(fun p hp=>by cases hp)⟩,⟨by simp,by simp⟩⟩),Rd.nil _ _ _,Rd.nil _ _ _,Rd.nil _ _ _,Rd.nil _ _ _⟩
theorem works35z (hN:∀V:World,Calls prog 14 #[.agg #[.int .i64 1,.int .i64 5,.int .i64 5,.int .i64 1,.slice none 0 0,.slice none 0 0,.slice none 0 0,.slice none 0 0,.slice none 0 0,.slice none 0 0]] V (EncZO [2,10,10,2,0,0,0,0,0,0] V))
  (hO:∀(D O R:Nat) (V:World),V.heap[D]? =some (.cells #[.string ⟨#[116]⟩,.slice none 0 0,.slice (some ⟨O,0,none⟩) 1 1] 63 (0,0))→V.heap[O]? =some (.cells #[.slice (some ⟨R,0,none⟩) 1 1,.int .i64 0,.int .i64 3] 68 (0,0))→RdV V (ltw V) (.slice (some ⟨R,0,none⟩) 1 1) xs7z→
   Calls prog 14 #[.agg #[.int .i64 1,.int .i64 5,.int .i64 5,.int .i64 1,.slice none 0 0,.slice (some ⟨D,0,none⟩) 1 1,.slice none 0 0,.slice none 0 0,.slice none 0 0,.slice none 0 0]] V (EncZO [2,10,10,2,0,2,2,116,0,2,2,1,14,0,6,0,0,0,0] V)) (w:World):Calls prog 13 #[] w fun e w'=>e=.returned (.bool true)∧Bl w w':=by
 obtain ⟨W,hW⟩:=eN0 (w.alloc (.cells #[.int .i64 1,.int .i64 5,.int .i64 5,.int .i64 1,.slice none 0 0,.slice none 0 0,.slice none 0 0,.slice none 0 0,.slice none 0 0,.slice none 0 0] 29))
 have hbW:=bN0 hW
 have hT:=hN0 hW
 have hWs:w.heap.size<W.heap.size:=by rw [hW];simp
 have HBW:=hI0 hbW
 have HT:=hI0 hT
 have HWS:=hI0 hWs
 have K1:=hN W
 have HO:=hI0 hO
 clear hN hO
 obtain ⟨c0,c1,c2,c3,c4,c5,c6,c7,c8,c9⟩:=cX10 hT
 clear hbW hT hWs
 go_in
 go_upto_region 2 with (fail)
 rw [←hW]
 clear hW
 go_wp2_with fail
 (with_reducible refine K1.mono ?_)
 rintro _ y1 ⟨u1,rfl,hu1,hb1⟩
 have HU1:=hI0 hu1
 have HT1:=hI0 ((hb1.block w.heap.size HWS.out).trans HT.out)
 have HB1:=bT0 HBW hb1
 have K2:=decZ u1 y1 (hu1.wide fun b hb=>hb.2)
 clear hu1 hb1 K1 c0 c1 c2 c3 c4 c5 c6 c7 c8 c9
 go_wp2_with fail
 (with_reducible refine K2.mono ?_)
 rintro _ y2 ⟨a1,a2,a3,a4,a5,a6,c1,c2,c3,c4,c5,c6,rfl,hb2⟩
 obtain ⟨T4,hT4⟩:=eN0 y2.heap.size
 obtain ⟨y3,hy3⟩:=eN0 (y2.alloc (.cells #[.int .i64 1,.int .i64 5,.int .i64 5,.int .i64 1,.slice a1 0 c1,.slice a2 0 c2,.slice a3 0 c3,.slice a4 0 c4,.slice a5 0 c5,.slice a6 0 c6] 29))
 have hb3:=bN0 hy3
 have hTd:y3.heap[T4]? =some (.cells #[.int .i64 1,.int .i64 5,.int .i64 5,.int .i64 1,.slice a1 0 c1,.slice a2 0 c2,.slice a3 0 c3,.slice a4 0 c4,.slice a5 0 c5,.slice a6 0 c6] 29 (0,0)):=by rw [hy3,hT4];exact heap_alloc_new _ _
 have hb13:Bl y1 y3:=hb2.trans (hb3.mono hb2.size)
 have HU3:Hid (RdB y3 (fun b=>W.heap.size≤b∧b<y3.heap.size) u1 [2,10,10,2,0,0,0,0,0,0]):=hI0 ((Rd.keep HU1.out (fun b hb=>hb13.block b hb.2)).wide (fun b hb=>⟨hb.1,by have:=hb.2;have:=hb13.size;omega⟩))
 have HTD:=hI0 hTd
 have HT4:Hid (w.heap.size<T4):=hI0 (by rw [hT4];have:=(gL0 HT1.out);have:=hb2.size;omega)
 have HT3:=hI0 ((hb13.block w.heap.size (gL0 HT1.out)).trans HT1.out)
 have HB3:=bT0 HB1 hb13
 clear hb2 hb3 hTd hb13 K2
 go_upto_region 4 with (fail)
 rw [←hy3,←hT4]
 clear hy3 hT4
 obtain ⟨g1,hg1⟩:=eN0 (y3.alloc (.cells #[.int .i64 1,.int .i64 7,.string ⟨#[]⟩] 79))
 obtain ⟨g2,hg2⟩:=eN0 (g1.alloc (.cells #[.slice (some ⟨y3.heap.size,0,none⟩) 1 1,.int .i64 0,.int .i64 3] 68))
 obtain ⟨y4,hy4⟩:=eN0 (g2.alloc (.cells #[.string ⟨#[116]⟩,.slice none 0 0,.slice (some ⟨y3.heap.size+1,0,none⟩) 1 1] 63))
 have z1:=sN0 hg1
 have z2:g2.heap.size=y3.heap.size+2:=by rw [hg2];simp [z1]
 have q1:=hN0 hg1
 have q2:g2.heap[y3.heap.size+1]? =some (.cells #[.slice (some ⟨y3.heap.size,0,none⟩) 1 1,.int .i64 0,.int .i64 3] 68 (0,0)):=by rw [hg2,←z1];exact heap_alloc_new _ _
 have q3:y4.heap[y3.heap.size+2]? =some (.cells #[.string ⟨#[116]⟩,.slice none 0 0,.slice (some ⟨y3.heap.size+1,0,none⟩) 1 1] 63 (0,0)):=by rw [hy4,←z2];exact heap_alloc_new _ _
 have b1:=bN0 hg1
 have b2:=bN0 hg2
 have b3:=bN0 hy4
 have z3:y4.heap.size=y3.heap.size+3:=by rw [hy4];simp [z2]
 have b13:Bl y3 y4:=(b1.trans (b2.mono b1.size)).trans (b3.mono (by omega))
 have r1:=(b3.block _ (by omega)).trans ((b2.block y3.heap.size (by omega)).trans q1)
 have r2:=(b3.block (y3.heap.size+1) (by omega)).trans q2
 have hTl:=gL0 HT3.out
 have t4:=(b13.block w.heap.size hTl).trans HT3.out
 have k5:=cW1 5 t4 rfl
 have f5:y4.frozen? ⟨w.heap.size,5,none⟩=false:=fW0 y4 _ 5 _ _ t4
 obtain ⟨y5,hy5⟩:=eN0 (y4.setCell ⟨w.heap.size,5,none⟩ (.slice (some ⟨y3.heap.size+2,0,none⟩) 1 1))
 have c5:Chg (·=w.heap.size) y4 y5:=by rw [hy5];exact Chg.setCell (S:=(·=w.heap.size)) (p:=⟨w.heap.size,5,none⟩) (Chg.refl _ y4) (.inl rfl) _
 have t5:y5.heap[w.heap.size]? =some (.cells #[.int .i64 1,.int .i64 5,.int .i64 5,.int .i64 1,.slice none 0 0,.slice (some ⟨y3.heap.size+2,0,none⟩) 1 1,.slice none 0 0,.slice none 0 0,.slice none 0 0,.slice none 0 0] 29 (0,0)):=by
  rw [hy5]
  simpa using heap_setCell_same y4 w.heap.size 5 _ _ (.slice (some ⟨y3.heap.size+2,0,none⟩) 1 1) t4
 have s1:=(c5.block _ (by omega) (by omega)).trans r1
 have s2:=(c5.block _ (by omega) (by omega)).trans r2
 have s3:=(c5.block (y3.heap.size+2) (by omega) (by omega)).trans q3
 have z5:=c5.size
 have hx:RdV y5 (ltw y5) (.slice (some ⟨y3.heap.size,0,none⟩) 1 1) xs7z:=by
  have h:Rd g1 (·=y3.heap.size) 3 (.slice (some ⟨y3.heap.size,0,none⟩) 1 1) 1 [.int .i64 1,.int .i64 7,.string ⟨#[]⟩]:=by rw [hg1];exact Rd.new' y3 y3.heap.size rfl [.int .i64 1,.int .i64 7,.string ⟨#[]⟩] 79 3 1 rfl (by decide)
  refine (Rd.keep (w':=y5) h (fun b hb=>?_)).wide (fun b hb=>?_)
  ·subst hb;rw [s1,q1]
  ·show b<y5.heap.size;omega
 have HU5:Hid (RdB y5 (ltw y5) u1 [2,10,10,2,0,0,0,0,0,0]):=hI0 ((Rd.keep HU3.out (fun b hb=>(c5.block b (by have:=hb.2;omega) (by show b≠w.heap.size;have:=hb.1;have:=HWS.out;omega)).trans (b13.block b hb.2))).wide (fun b hb=>by show b<y5.heap.size;have:=hb.2;omega))
 have HTD5:=hI0 ((c5.block T4 (by have:=(gL0 HTD.out);omega) (by show T4≠w.heap.size;have:=HT4.out;omega)).trans ((b13.block T4 (gL0 HTD.out)).trans HTD.out))
 have HB5:Hid (Bl w y5):=hI0 ((HB3.out.trans (b13.mono (by omega))).trans (c5.below (by omega) (fun i (hi:i=w.heap.size)=>by omega)))
 have K5:=HO.out (y3.heap.size+2) (y3.heap.size+1) y3.heap.size y5 s3 s2 hx
 have hy5':=hy5
 rw [hy4,hg2,hg1] at k5 f5 hy5'
 have K5:=hI0 K5
 have HX:=hI0 (And.intro t5 (And.intro HB5.out z5))
 clear r1 r2 t4 s1 s2 s3 hx c5 b1 b2 b3 b13 q1 q2 q3 t5 z1 z2 hTl
 go_upto_region 5 with (fail)
 rw [←hy5']
 clear hy5' hy5 hy4 hg2 hg1 k5 f5
 have c0:y5.cell? ⟨w.heap.size,0,none⟩=some (.int .i64 1):=cW0 y5 _ 0 _ _ _ HX.out.1
 have c1:y5.cell? ⟨w.heap.size,1,none⟩=some (.int .i64 5):=cW0 y5 _ 1 _ _ _ HX.out.1
 have c2:y5.cell? ⟨w.heap.size,2,none⟩=some (.int .i64 5):=cW0 y5 _ 2 _ _ _ HX.out.1
 have c3:y5.cell? ⟨w.heap.size,3,none⟩=some (.int .i64 1):=cW0 y5 _ 3 _ _ _ HX.out.1
 have c4:y5.cell? ⟨w.heap.size,4,none⟩=some (.slice none 0 0):=cW0 y5 _ 4 _ _ _ HX.out.1
 have c5:y5.cell? ⟨w.heap.size,5,none⟩=some (.slice (some ⟨y3.heap.size+2,0,none⟩) 1 1):=cW0 y5 _ 5 _ _ _ HX.out.1
 have c6:y5.cell? ⟨w.heap.size,6,none⟩=some (.slice none 0 0):=cW0 y5 _ 6 _ _ _ HX.out.1
 have c7:y5.cell? ⟨w.heap.size,7,none⟩=some (.slice none 0 0):=cW0 y5 _ 7 _ _ _ HX.out.1
 have c8:y5.cell? ⟨w.heap.size,8,none⟩=some (.slice none 0 0):=cW0 y5 _ 8 _ _ _ HX.out.1
 have c9:y5.cell? ⟨w.heap.size,9,none⟩=some (.slice none 0 0):=cW0 y5 _ 9 _ _ _ HX.out.1
 have K5:=K5.out
 go_wp2_with fail
 (with_reducible refine K5.mono ?_)
 rintro _ y6 ⟨u2,rfl,hu2,hb6⟩
 have HB6:=bT0 HB5 hb6
 have HU6:=hI0 (RdB.below HU5.out hb6)
 have HV6:Hid (RdB y6 (ltw y6) u2 [2,10,10,2,0,2,2,116,0,2,2,1,14,0,6,0,0,0,0]):=hI0 (hu2.wide fun b hb=>hb.2)
 have HTD6:=hI0 ((hb6.block T4 (gL0 HTD5.out)).trans HTD5.out)
 clear hu2 hb6 K5 c0 c1 c2 c3 c4 c5 c6 c7 c8 c9
 obtain ⟨d1,hd1⟩:=eN0 (y6.alloc (.cells #[.int .i64 4] 3))
 obtain ⟨d2,hd2⟩:=eN0 (d1.alloc (.cells #[.string ⟨#[116]⟩,.slice (some ⟨y6.heap.size,0,none⟩) 1 1,.slice none 0 0] 63))
 have b1:=bN0 hd1
 have z1:=sN0 hd1
 have b2:=bN0 hd2
 have q1:=hN0 hd1
 have q2:d2.heap[y6.heap.size+1]? =some (.cells #[.string ⟨#[116]⟩,.slice (some ⟨y6.heap.size,0,none⟩) 1 1,.slice none 0 0] 63 (0,0)):=by rw [hd2,←z1];exact heap_alloc_new _ _
 have q3:=(b2.block y6.heap.size (by omega)).trans q1
 have b12:Bl y6 d2:=b1.trans (b2.mono b1.size)
 have K7:=chkZ (y6.heap.size+1) y6.heap.size d2 q2 q3
 have HB7:=bT0 HB6 b12
 have HU7:=hI0 (RdB.below HU6.out b12)
 have HV7:=hI0 (RdB.below HV6.out b12)
 have HTD7:=hI0 ((b12.block T4 (gL0 HTD6.out)).trans HTD6.out)
 clear b1 b2 q1 q2 q3 z1 b12 HU6 HV6 HTD6 HU5 HTD5
 go_wp2_with fail
 rw [←hd1,←hd2]
 clear hd1 hd2
 (with_reducible refine K7.mono ?_)
 rintro _ y8 ⟨rfl,hb8⟩
 have HB8:=bT0 HB7 hb8
 have hc1:=run_bytes_str (RdB.below HU7.out hb8)
 have hc2:=run_bytes_str (RdB.below HV7.out hb8)
 rw [show strB [2,10,10,2,0,0,0,0,0,0]=⟨#[2,10,10,2,0,0,0,0,0,0]⟩ from rfl] at hc1
 rw [show strB [2,10,10,2,0,2,2,116,0,2,2,1,14,0,6,0,0,0,0]=⟨#[2,10,10,2,0,2,2,116,0,2,2,1,14,0,6,0,0,0,0]⟩ from rfl] at hc2
 have hTd:=(hb8.block T4 (gL0 HTD7.out)).trans HTD7.out
 obtain ⟨e0,e1,_⟩:=cX10 hTd
 clear hb8 hTd K7
 go_wp2_with fail
 go_ret
 exact ⟨rfl,HB8.out⟩
theorem works35d (w:World):Calls prog 13 #[] w fun e w'=>e=.returned (.bool true)∧Bl w w':=
 works35z (fun V=>encNilV V) (fun D O R V hD hO hx=>encOpenV D O R V hD hO hx) w
end Go.Proofs.YtbfdegkickjbpaaGreat
