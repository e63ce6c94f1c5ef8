/-
 DcB
-/
import Derived.Test.YtbfdegkickjbpaaGreatHDcA
namespace Go.Proofs.YtbfdegkickjbpaaGreat
open Go.RowKit Go.Lib Go.IntWalk Go.Sort Go.Shelf
theorem encV_len (x:Val):0<(encV x).length:=by
 unfold encV;split
 ·simp
 ·split
  ·simp
  ·split<;>simp
def Mon {α:Type} (l:List UInt8) (rd:Int×Int→α×Int×Int):Prop:=∀s,(rd s).2.2=0→s.2=0∧s.1+1≤(rd s).2.1∧(rd s).2.1≤l.length
theorem mon_S {α:Type} {l:List UInt8} {dec:Int→α×Int×Int} {z:α} (hd:∀k a m,dec k=(a,m,0)→k+1≤m∧m≤l.length):Mon l (rdS dec z):=by
 intro s h
 rcases e:rdS dec z s with ⟨a,m,c⟩
 rw [e] at h
 simp only at h
 subst h
 have:=rdS_mono (fun k a m h=>(hd k a m h).1) e
 exact ⟨this.1,this.2.1,(hd _ _ _ this.2.2).2⟩
theorem mon_I {l:List UInt8}:Mon l (rdI l):=mon_S (fun k a m h=>by
 obtain ⟨x,r,hl,hk,hm⟩:=decI_got h
 have:=encI_pos a
 have hln:l.length=(x++encI a).length+r.length:=by rw [hl];simp [Nat.add_assoc]
 rw [hk,hm]
 rw [List.length_append] at *
 omega)
theorem mon_R {l:List UInt8}:Mon l (rdR l):=mon_S (fun k a m h=>by
 obtain ⟨x,r,hl,hk,hm,_⟩:=decR_got h
 have:=encI_pos a.length
 have hln:l.length=(x++encR a).length+r.length:=by rw [hl];simp [Nat.add_assoc]
 have h2:(encR a).length=(encI a.length).length+(encVs a).length:=by rw [encR,List.length_append]
 rw [hk,hm]
 rw [List.length_append] at *
 omega)
theorem mon_P {l:List UInt8}:Mon l (rdP l):=mon_S (fun k a m h=>by
 obtain ⟨f,t⟩:=a
 obtain ⟨x,r,hl,hk,hm,_⟩:=decP_got h
 have:=encI_pos f
 have hln:l.length=(x++(encI f++encI t)).length+r.length:=by rw [hl];simp [Nat.add_assoc]
 rw [hk,hm]
 simp only [List.length_append] at *
 omega)
theorem mon_T {l:List UInt8}:Mon l (rdT l):=mon_S (fun k a m h=>by
 have hb:=decT_bd l k 200
 simp only [Prod.mk.injEq] at h
 rw [h.2] at hb
 simp only at hb
 rcases hb with hb|hb
 ·exact ⟨hb.2.1,hb.2.2.1⟩
 ·omega)
theorem mon_V {l:List UInt8}:Mon l (rdV l):=mon_S (fun k a m h=>by
 obtain ⟨x,r,hl,hk,hm,_⟩:=decV_got h
 have:=encV_len a
 have hln:l.length=(x++encV a).length+r.length:=by rw [hl];simp [Nat.add_assoc]
 rw [hk,hm]
 rw [List.length_append] at *
 omega)
theorem mon_Bool {l:List UInt8}:Mon l (rdBool l):=by
 intro s h
 unfold rdBool at h ⊢
 split at h
 ·exact absurd h (by simp)
 ·rename_i h1
  rw [if_neg h1]
  exact mon_I s h
theorem mon_getS {α:Type} {l:List UInt8} {one:Int×Int→α×Int×Int} (hm:Mon l one):∀(n:Nat) (s:Int×Int),(getS one n s).2.2=0→s.2=0∧s.1+((getS one n s).1.length:Int)≤(getS one n s).2.1∧(s.1≤l.length→(getS one n s).2.1≤l.length):=by
 intro n
 induction n with
 |zero=>intro s h;exact ⟨h,by simp [getS],fun h=>h⟩
 |succ n ih=>
  intro s h
  by_cases hs:s.2=0
  ·rcases e:one s with ⟨x,s'⟩
   rw [getS_step hs e] at h ⊢
   have h1:=ih s' h
   have h2:=hm s (by rw [e];exact h1.1)
   rw [e] at h2
   simp only at h2 ⊢
   refine ⟨hs,?_,fun _=>h1.2.2 h2.2.2⟩
   have:=h1.2.1
   simp only [List.length_cons]
   omega
  ·rw [getS_stop (.inr hs)] at h
   exact absurd h hs
theorem mon_L {α:Type} {l:List UInt8} {one:Int×Int→α×Int×Int} (hm:Mon l one):Mon l (rdL l one):=by
 intro s h
 unfold rdL at h ⊢
 split at h
 ·exact absurd h (by simp)
 ·rename_i h1
  rw [if_neg h1]
  have h2:=mon_getS hm _ _ h
  have h3:=mon_I s h2.1
  refine ⟨h3.1,?_,h2.2.2 h3.2.2⟩
  have:=h2.2.1
  omega
theorem mon_Col {l:List UInt8}:Mon l (rdCol l):=by
 intro s h
 have h2:=mon_Bool (rdI l (rdT l s).2).2 h
 have h1:=mon_I (rdT l s).2 h2.1
 have h0:=mon_T s h1.1
 refine ⟨h0.1,?_,h2.2.2⟩
 show s.1+1≤(rdBool l (rdI l (rdT l s).2).2).2.1
 have g0:=h0.2.1
 have g1:=h1.2.1
 have g2:=h2.2.1
 omega
theorem mon_For {l:List UInt8}:Mon l (rdFor l):=by
 intro s h
 have h1:=mon_T (rdL l (rdI l) s).2 h
 have h0:=(mon_L mon_I) s h1.1
 refine ⟨h0.1,?_,h1.2.2⟩
 show s.1+1≤(rdT l (rdL l (rdI l) s).2).2.1
 have g0:=h0.2.1
 have g1:=h1.2.1
 omega
theorem mon_X {l:List UInt8}:∀d:Nat,Mon l (rdX l d)
 |0=>fun s h=>absurd h (by show ¬(26:Int)=0;decide)
 |d+1=>by
  intro s h
  have h4:=(mon_L (mon_X d)) (rdT l (rdV l (rdI l (rdI l s).2).2).2).2 h
  have h3:=mon_T (rdV l (rdI l (rdI l s).2).2).2 h4.1
  have h2:=mon_V (rdI l (rdI l s).2).2 h3.1
  have h1:=mon_I (rdI l s).2 h2.1
  have h0:=mon_I s h1.1
  refine ⟨h0.1,?_,h4.2.2⟩
  show s.1+1≤(rdL l (rdX l d) (rdT l (rdV l (rdI l (rdI l s).2).2).2).2).2.1
  have g0:=h0.2.1
  have g1:=h1.2.1
  have g2:=h2.2.1
  have g3:=h3.2.1
  have g4:=h4.2.1
  omega
theorem mon_Tab {l:List UInt8}:Mon l (rdTab l):=by
 intro s h
 have h4:=(mon_L (mon_X 24)) (rdL l (rdFor l) (rdL l (rdI l) (rdL l (rdCol l) (rdT l s).2).2).2).2 h
 have h3:=(mon_L mon_For) (rdL l (rdI l) (rdL l (rdCol l) (rdT l s).2).2).2 h4.1
 have h2:=(mon_L mon_I) (rdL l (rdCol l) (rdT l s).2).2 h3.1
 have h1:=(mon_L mon_Col) (rdT l s).2 h2.1
 have h0:=mon_T s h1.1
 refine ⟨h0.1,?_,h4.2.2⟩
 show s.1+1≤(rdL l (rdX l 24) (rdL l (rdFor l) (rdL l (rdI l) (rdL l (rdCol l) (rdT l s).2).2).2).2).2.1
 have g0:=h0.2.1
 have g1:=h1.2.1
 have g2:=h2.2.1
 have g3:=h3.2.1
 have g4:=h4.2.1
 omega
theorem mon_Chn {l:List UInt8} {k:Int}:Mon l (rdChn l k):=by
 intro s h
 have h3:=mon_V (rdCol l (rdT l (rdT l s).2).2).2 h
 have h2:=mon_Col (rdT l (rdT l s).2).2 h3.1
 have h1:=mon_T (rdT l s).2 h2.1
 have h0:=mon_T s h1.1
 refine ⟨h0.1,?_,h3.2.2⟩
 show s.1+1≤(rdV l (rdCol l (rdT l (rdT l s).2).2).2).2.1
 have g0:=h0.2.1
 have g1:=h1.2.1
 have g2:=h2.2.1
 have g3:=h3.2.1
 omega
theorem mon_Ent {l:List UInt8}:Mon l (rdEnt l):=by
 intro s h
 by_cases hk:(rdI l (rdT l (rdI l s).2).2).1=0
 ·have e:(rdEnt l s).2=(rdTab l (rdI l (rdT l (rdI l s).2).2).2).2:=by unfold rdEnt;simp only [if_pos hk]
  rw [e] at h ⊢
  have h4:=mon_Tab _ h
  have h3:=mon_I _ h4.1
  have h2:=mon_T _ h3.1
  have h1:=mon_I _ h2.1
  refine ⟨h1.1,?_,h4.2.2⟩
  have g1:=h1.2.1
  have g2:=h2.2.1
  have g3:=h3.2.1
  have g4:=h4.2.1
  omega
 ·have e:(rdEnt l s).2=(rdChn l (rdI l (rdT l (rdI l s).2).2).1 (rdI l (rdT l (rdI l s).2).2).2).2:=by unfold rdEnt;simp only [if_neg hk]
  rw [e] at h ⊢
  have h4:=mon_Chn _ h
  have h3:=mon_I _ h4.1
  have h2:=mon_T _ h3.1
  have h1:=mon_I _ h2.1
  refine ⟨h1.1,?_,h4.2.2⟩
  have g1:=h1.2.1
  have g2:=h2.2.1
  have g3:=h3.2.1
  have g4:=h4.2.1
  omega
theorem mon_Fct {l:List UInt8}:Mon l (rdFct l):=by
 intro s h
 have h1:=mon_P (rdR l s).2 h
 have h0:=mon_R s h1.1
 refine ⟨h0.1,?_,h1.2.2⟩
 show s.1+1≤(rdP l (rdR l s).2).2.1
 have g0:=h0.2.1
 have g1:=h1.2.1
 omega
theorem mon_Del {l:List UInt8}:Mon l (rdDel l):=by
 intro s h
 have h2:=(mon_L mon_Fct) (rdL l (rdI l) (rdT l s).2).2 h
 have h1:=(mon_L mon_I) (rdT l s).2 h2.1
 have h0:=mon_T s h1.1
 refine ⟨h0.1,?_,h2.2.2⟩
 show s.1+1≤(rdL l (rdFct l) (rdL l (rdI l) (rdT l s).2).2).2.1
 have g0:=h0.2.1
 have g1:=h1.2.1
 have g2:=h2.2.1
 omega
theorem mon_Hld {l:List UInt8}:Mon l (rdHld l):=by
 intro s h
 have h3:=mon_P (rdP l (rdT l (rdT l s).2).2).2 h
 have h2:=mon_P (rdT l (rdT l s).2).2 h3.1
 have h1:=mon_T (rdT l s).2 h2.1
 have h0:=mon_T s h1.1
 refine ⟨h0.1,?_,h3.2.2⟩
 show s.1+1≤(rdP l (rdP l (rdT l (rdT l s).2).2).2).2.1
 have g0:=h0.2.1
 have g1:=h1.2.1
 have g2:=h2.2.1
 have g3:=h3.2.1
 omega
theorem mon_Pol {l:List UInt8}:Mon l (rdPol l):=by
 intro s h
 have h1:=mon_I (rdT l s).2 h
 have h0:=mon_T s h1.1
 refine ⟨h0.1,?_,h1.2.2⟩
 show s.1+1≤(rdI l (rdT l s).2).2.1
 have g0:=h0.2.1
 have g1:=h1.2.1
 omega
theorem mon_Hor {l:List UInt8}:Mon l (rdHor l):=by
 intro s h
 have h1:=mon_I (rdT l s).2 h
 have h0:=mon_T s h1.1
 refine ⟨h0.1,?_,h1.2.2⟩
 show s.1+1≤(rdI l (rdT l s).2).2.1
 have g0:=h0.2.1
 have g1:=h1.2.1
 omega
end Go.Proofs.YtbfdegkickjbpaaGreat
