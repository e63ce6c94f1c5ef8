/-
 RrK
-/
import Derived.Test.YtbfdegkickjbpaaGreatHDcP
import Derived.Test.YtbfdegkickjbpaaGreatHDcI
import Derived.Test.YtbfdegkickjbpaaGreatHRcO
namespace Go.Proofs.YtbfdegkickjbpaaGreat
open Go.RowKit Go.Lib Go.IntWalk Go.Sort Go.Shelf
def Msz {α:Type} (rd:Int×Int→α×Int×Int) (sz:α→Nat):Prop:=∀s,(rd s).2.2=0→64*s.1+(sz (rd s).1:Int)≤64*(rd s).2.1
theorem msz_getS {α:Type} {l:List UInt8} {one:Int×Int→α×Int×Int} {sz:α→Nat} (hm:Mon l one) (h:Msz one sz):∀(n:Nat) (s:Int×Int),(getS one n s).2.2=0→64*s.1+((((getS one n s).1.map sz).sum:Nat):Int)≤64*(getS one n s).2.1:=by
 intro n
 induction n with
 |zero=>intro s _;simp [getS]
 |succ n ih=>
  intro s hs0
  by_cases hs:s.2=0
  ·rcases e:one s with ⟨x,s'⟩
   rw [getS_step hs e] at hs0 ⊢
   have h1:=ih s' hs0
   have h3:=(mon_getS hm n s' hs0).1
   have h2:=h s (by rw [e];exact h3)
   rw [e] at h2
   simp only at h2 ⊢
   simp only [List.map_cons,List.sum_cons]
   omega
  ·rw [getS_stop (.inr hs)] at hs0
   exact absurd hs0 hs
theorem msz_L {α:Type} {l:List UInt8} {one:Int×Int→α×Int×Int} {sz:α→Nat} (hm:Mon l one) (h:Msz one sz):∀s,(rdL l one s).2.2=0→64*s.1+64+((((rdL l one s).1.map sz).sum:Nat):Int)≤64*(rdL l one s).2.1:=by
 intro s hs
 unfold rdL at hs ⊢
 split at hs
 ·exact absurd hs (by simp)
 ·rename_i h1
  rw [if_neg h1]
  have h2:=msz_getS hm h _ _ hs
  have h3:=mon_I s (mon_getS hm _ _ hs).1
  omega
theorem msz_one {α:Type} {l:List UInt8} {rd:Int×Int→α×Int×Int} (hm:Mon l rd):Msz rd (fun _=>1):=fun s h=>by
 have:=(hm s h).2.1
 show 64*s.1+((1:Nat):Int)≤_
 omega
theorem sum_one {α:Type} (l:List α):(l.map (fun _=>(1:Nat))).sum=l.length:=by induction l with
 |nil=>rfl
 |cons a l ih=>simp [ih];omega
theorem decVs_len (l:List UInt8):∀(n:Nat) (k:Int) (acc:List Val),(decVs l n k acc).1.length≤acc.length+n:=by
 intro n
 induction n with
 |zero=>intro k acc;simp [decVs]
 |succ n ih=>
  intro k acc
  unfold decVs
  split
  ·simp
  ·have:=ih (decV l k).2.1 (acc++[(decV l k).1])
   simp at this
   omega
theorem rdR_len (l:List UInt8) (s:Int×Int):(rdR l s).1.length≤12:=by
 have h:(decR l s.1).1.length≤12:=by
  unfold decR
  split
  ·simp
  ·split
   ·simp
   ·split
    ·simp
    ·have:=decVs_len l (decI l s.1).1.toNat (decI l s.1).2.1 []
     simp at this
     omega
 unfold rdR rdS
 split
 ·simp
 ·split<;>exact h
theorem msz_Fct (l:List UInt8):Msz (rdFct l) RF.sz:=fun s h=>by
 have:=(mon_Fct s h).2.1
 have h2:=rdR_len l s
 show 64*s.1+(((rdR l s).1.length+1:Nat):Int)≤_
 omega
theorem msz_X (l:List UInt8):∀d:Nat,Msz (rdX l d) RE.nodes
 |0=>fun s h=>by simp [rdX] at h
 |d+1=>fun s h=>by
  have hr:(rdL l (rdX l d) (rdT l (rdV l (rdI l (rdI l s).2).2).2).2).2.2=0:=h
  have h5:=msz_L (mon_X d) (msz_X l d) _ hr
  have h4:=mon_T _ (mon_L (mon_X d) _ hr).1
  have h3:=mon_V _ h4.1
  have h2:=mon_I _ h3.1
  have h1:=mon_I _ h2.1
  show 64*s.1+((RE.nodes (.mk _ _ _ _ none 0 (rdL l (rdX l d) (rdT l (rdV l (rdI l (rdI l s).2).2).2).2).1):Nat):Int)≤64*(rdL l (rdX l d) (rdT l (rdV l (rdI l (rdI l s).2).2).2).2).2.1
  rw [RE.nodes,nodesL_sum]
  omega
theorem msz_For (l:List UInt8):Msz (rdFor l) RFor.sz:=fun s h=>by
 have hr:(rdT l (rdL l (rdI l) s).2).2.2=0:=h
 have h2:=mon_T _ hr
 have h1:=msz_L mon_I (msz_one (l:=l) mon_I) _ h2.1
 rw [sum_one] at h1
 show 64*s.1+(((rdL l (rdI l) s).1.length+1:Nat):Int)≤64*(rdT l (rdL l (rdI l) s).2).2.1
 omega
theorem msz_Del (l:List UInt8):Msz (rdDel l) RDl.sz:=fun s h=>by
 have hr:(rdL l (rdFct l) (rdL l (rdI l) (rdT l s).2).2).2.2=0:=h
 have h3:=msz_L mon_Fct (msz_Fct l) _ hr
 have h2:=msz_L mon_I (msz_one (l:=l) mon_I) _ (mon_L mon_Fct _ hr).1
 have h1:=mon_T _ (mon_L mon_I _ (mon_L mon_Fct _ hr).1).1
 rw [sum_one] at h2
 show 64*s.1+(((rdL l (rdI l) (rdT l s).2).1.length+szL RF.sz (rdL l (rdFct l) (rdL l (rdI l) (rdT l s).2).2).1+1:Nat):Int)≤64*(rdL l (rdFct l) (rdL l (rdI l) (rdT l s).2).2).2.1
 unfold szL
 omega
theorem msz_Tab (l:List UInt8):Msz (rdTab l) RTab.sz:=fun s h=>by
 have hr:(rdL l (rdX l 24) (rdL l (rdFor l) (rdL l (rdI l) (rdL l (rdCol l) (rdT l s).2).2).2).2).2.2=0:=h
 have h5:=msz_L (mon_X 24) (msz_X l 24) _ hr
 have e4:=(mon_L (mon_X 24) _ hr).1
 have h4:=msz_L mon_For (msz_For l) _ e4
 have e3:=(mon_L mon_For _ e4).1
 have h3:=msz_L mon_I (msz_one (l:=l) mon_I) _ e3
 have e2:=(mon_L mon_I _ e3).1
 have h2:=msz_L mon_Col (msz_one (l:=l) mon_Col) _ e2
 have h1:=mon_T _ (mon_L mon_Col _ e2).1
 rw [sum_one] at h2 h3
 show 64*s.1+(((rdL l (rdCol l) (rdT l s).2).1.length+(rdL l (rdI l) (rdL l (rdCol l) (rdT l s).2).2).1.length+szL RFor.sz (rdL l (rdFor l) (rdL l (rdI l) (rdL l (rdCol l) (rdT l s).2).2).2).1+szL RE.nodes (rdL l (rdX l 24) (rdL l (rdFor l) (rdL l (rdI l) (rdL l (rdCol l) (rdT l s).2).2).2).2).1:Nat):Int)≤64*(rdL l (rdX l 24) (rdL l (rdFor l) (rdL l (rdI l) (rdL l (rdCol l) (rdT l s).2).2).2).2).2.1
 unfold szL
 omega
theorem msz_Ent (l:List UInt8):Msz (rdEnt l) REn.sz:=fun s h=>by
 by_cases h0:(rdI l (rdT l (rdI l s).2).2).1=0
 ·have e:rdEnt l s=(⟨(rdI l s).1,(rdT l (rdI l s).2).1,(rdTab l (rdI l (rdT l (rdI l s).2).2).2).1,⟨0,⟨#[]⟩,⟨#[]⟩,⟨#[]⟩,0,false,zeroV⟩⟩,(rdTab l (rdI l (rdT l (rdI l s).2).2).2).2):=by unfold rdEnt;simp only [h0,if_true]
  rw [e] at h ⊢
  have h4:=msz_Tab l _ h
  have h3:=mon_I _ (mon_Tab _ h).1
  have h2:=mon_T _ h3.1
  have h1:=mon_I _ h2.1
  show 64*s.1+(((rdTab l (rdI l (rdT l (rdI l s).2).2).2).1.sz+1:Nat):Int)≤64*(rdTab l (rdI l (rdT l (rdI l s).2).2).2).2.1
  omega
 ·have e:rdEnt l s=(⟨(rdI l s).1,(rdT l (rdI l s).2).1,RTab.none_,(rdChn l (rdI l (rdT l (rdI l s).2).2).1 (rdI l (rdT l (rdI l s).2).2).2).1⟩,(rdChn l (rdI l (rdT l (rdI l s).2).2).1 (rdI l (rdT l (rdI l s).2).2).2).2):=by unfold rdEnt;simp only [if_neg h0]
  have:=(mon_Ent s h).2.1
  rw [e] at this ⊢
  have hz:REn.sz ⟨(rdI l s).1,(rdT l (rdI l s).2).1,RTab.none_,(rdChn l (rdI l (rdT l (rdI l s).2).2).1 (rdI l (rdT l (rdI l s).2).2).2).1⟩=3:=rfl
  rw [hz]
  omega
theorem rdCol_sm (l:List UInt8) (s:Int×Int):(rdCol l s).1.sm:=rdT_size l s
theorem rdTab_sm (l:List UInt8) (s:Int×Int):(rdTab l s).1.sm:=
 ⟨rdT_size l s,rdL_all (p:=fun y:RCol=>y.sm) (one:=rdCol l) (rdCol_sm l) _,rdL_all (p:=fun y:RFor=>y.sm) (one:=rdFor l) (fun _=>rdT_size l _) _⟩
theorem rdEnt_sm (l:List UInt8) (s:Int×Int):(rdEnt l s).1.sm:=by
 unfold rdEnt
 simp only
 split
 ·exact ⟨rdT_size l _,rdTab_sm l _,⟨Nat.zero_le _,Nat.zero_le _,Nat.zero_le _⟩⟩
 ·exact ⟨rdT_size l _,⟨Nat.zero_le _,(fun x hx=>by cases hx),(fun x hx=>by cases hx)⟩,⟨rdT_size l _,rdT_size l _,rdT_size l _⟩⟩
theorem mem_le_sum {α:Type} (f:α→Nat) {l:List α} {a:α} (h:a∈l):f a≤(l.map f).sum:=by
 induction l with
 |nil=>cases h
 |cons b l ih=>
  simp only [List.map_cons,List.sum_cons]
  rcases List.mem_cons.1 h with rfl|h
  ·omega
  ·have:=ih h;omega
theorem tab_er_sm {t:RTab} (h:t.er.sm):t.sm:=⟨h.name,h.cols,fun x hx=>h.fors x.er (List.mem_map_of_mem hx)⟩
theorem tab_er_sz (t:RTab):t.er.sz=t.sz:=by
 have hn:∀e:RE,e.er.nodes=e.nodes:=fun e=>by
  have:∀n,∀e:RE,e.nodes≤n→e.er.nodes=e.nodes:=by
   intro n
   induction n with
   |zero=>intro e he;have:=e.nodes_pos;omega
   |succ n ih=>
    intro e he
    obtain ⟨op,it,v,nm,A,c,args⟩:=e
    rw [RE.er_mk,RE.nodes,RE.nodes,nodesL_sum,nodesL_sum,List.map_map]
    rw [RE.nodes,nodesL_sum] at he
    have:∀a∈args,a.er.nodes=a.nodes:=fun a ha=>ih a (by
     have h1:=mem_le_sum RE.nodes ha
     omega)
    rw [show args.map (RE.nodes ∘ RE.er)=args.map RE.nodes from List.map_congr_left (fun a ha=>this a ha)]
  exact this _ e (Nat.le_refl _)
 have hn2:(RE.nodes ∘ RE.er)=RE.nodes:=funext hn
 have hf2:(RFor.sz ∘ RFor.er)=RFor.sz:=rfl
 simp only [RTab.sz,RTab.er,szL,List.map_map,hn2,hf2]
theorem rdL_lenN {α : Type} {N : Nat} {l : List UInt8} {one : Int × Int → α × Int × Int} (hm : Mon l one) (hl : l.length ≤ N) (s : Int × Int) : (rdL l one s).1.length ≤ N := by
 unfold rdL
 split
 ·simp
 ·have h := getS_lenM hm (rdI l s).1.toNat (rdI l s).2
  by_cases he : (rdI l s).2.2 = 0
  ·have h1 := (mon_I s he).2
   have h2 := rdI_pos he
   omega
  ·rw [getS_stop (.inr he)]
   simp
theorem lim_of {l:List UInt8} (hl:l.length≤2000) (V:World) (C:RCm) (hC:C.er=(rdCm l (0,0)).1) (he:(rdCm l (0,0)).2.2=0) (hx:∀x∈C.ents,∀e∈x.create.chks,exAll V (·<V.heap.size) e):C.lim V:=by
 have hl2:l.length≤1048576:=by omega
 have e10:(rdL l (rdHor l) _).2.2=0:=he
 have e9:=(mon_L mon_Hor _ e10).1
 have e8:=(mon_L mon_Pol _ e9).1
 have e7:=(mon_L mon_T _ e8).1
 have e6:=(mon_L mon_Hld _ e7).1
 have m6:=mon_L mon_Del _ e6
 have e5:=m6.1
 have m5:=mon_L mon_Ent _ e5
 have e4:=m5.1
 have p4:=mon_I _ e4
 have p3:=mon_I _ p4.1
 have p2:=mon_I _ p3.1
 have p1:=mon_I (l:=l) (0,0) p2.1
 have z5:=msz_L mon_Ent (msz_Ent l) _ e5
 have z6:=msz_L mon_Del (msz_Del l) _ e6
 have hE:C.ents.map REn.er=(rdCm l (0,0)).1.ents:=(congrArg RCm.ents hC:C.er.ents=_)
 have hD:C.dels.map RDl.er=(rdCm l (0,0)).1.dels:=(congrArg RCm.dels hC:C.er.dels=_)
 have sE:(C.ents.map REn.sz).sum=((rdCm l (0,0)).1.ents.map REn.sz).sum:=by
  rw [←hE,List.map_map]
  exact congrArg List.sum (List.map_congr_left (fun x _=>by show x.create.sz+1=x.create.er.sz+1;rw [tab_er_sz]))
 have sD:(C.dels.map RDl.sz).sum=((rdCm l (0,0)).1.dels.map RDl.sz).sum:=by
  rw [←hD,List.map_map]
  exact congrArg List.sum (List.map_congr_left (fun x _=>by simp only [Function.comp,RDl.sz,RDl.er,szL,List.map_map];rfl))
 have zE:szL REn.sz C.ents≤1048576:=by
  unfold szL
  rw [sE]
  simp only [rdCm] at z5 ⊢
  omega
 have zD:szL RDl.sz C.dels≤1048576:=by
  unfold szL
  rw [sD]
  simp only [rdCm] at z6 ⊢
  omega
 have lE:C.ents.length=(rdCm l (0,0)).1.ents.length:=by rw [←hE,List.length_map]
 have lD:C.dels.length=(rdCm l (0,0)).1.dels.length:=by rw [←hD,List.length_map]
 have fP:C.pla=(rdCm l (0,0)).1.pla:=(congrArg RCm.pla hC:C.er.pla=_)
 have fR:C.rel=(rdCm l (0,0)).1.rel:=(congrArg RCm.rel hC:C.er.rel=_)
 have fQ:C.pol=(rdCm l (0,0)).1.pol:=(congrArg RCm.pol hC:C.er.pol=_)
 have fH:C.hor=(rdCm l (0,0)).1.hor:=(congrArg RCm.hor hC:C.er.hor=_)
 refine ⟨by rw [lE];exact rdL_lenN mon_Ent hl2 _,by rw [lD];exact rdL_lenN mon_Del hl2 _,by rw [fP];exact rdL_lenN mon_Hld hl2 _,by rw [fR];exact rdL_lenN mon_T hl2 _,by rw [fQ];exact rdL_lenN mon_Pol hl2 _,by rw [fH];exact rdL_lenN mon_Hor hl2 _,
  fun d hd f hf=>?_,fun x hx1 e he1=>⟨hx x hx1 e he1,?_⟩,fun x hx1=>?_,fun x hx1=>?_,fun x hx1=>?_,fun x hx1=>?_,fun x hx1=>?_,fun x hx1=>?_,zE,zD⟩
 ·exact (RDl.sz_few (Nat.le_trans (szL_mem (sz:=RDl.sz) hd) zD)).2.2 f hf
 ·exact (REn.sz_few (Nat.le_trans (szL_mem (sz:=REn.sz) hx1) zE)).2 e he1
 ·have hm:x.er∈(rdCm l (0,0)).1.ents:=by rw [←hE];exact List.mem_map_of_mem hx1
  have g:=rdL_all (p:=fun y:REn=>y.sm) (l:=l) (one:=rdEnt l) (rdEnt_sm l) _ x.er hm
  exact ⟨g.table,tab_er_sm g.create,g.change⟩
 ·have hm:x.er∈(rdCm l (0,0)).1.dels:=by rw [←hD];exact List.mem_map_of_mem hx1
  exact rdL_all (p:=fun y:RDl=>y.sm) (l:=l) (one:=rdDel l) (fun s=>rdT_size l s) _ x.er hm
 ·rw [fP] at hx1
  exact rdL_all (p:=fun y:Hld=>y.sm) (l:=l) (one:=rdHld l) (fun s=>⟨rdT_size l s,rdT_size l _⟩) _ x hx1
 ·rw [fR] at hx1
  exact rdL_all (p:=fun y:ByteArray=>y.size≤maxLen) (l:=l) (one:=rdT l) (fun s=>rdT_size l s) _ x hx1
 ·rw [fQ] at hx1
  exact rdL_all (p:=fun y:Pol=>y.sm) (l:=l) (one:=rdPol l) (fun s=>rdT_size l s) _ x hx1
 ·rw [fH] at hx1
  exact rdL_all (p:=fun y:Hor=>y.sm) (l:=l) (one:=rdHor l) (fun s=>rdT_size l s) _ x hx1
end Go.Proofs.YtbfdegkickjbpaaGreat
