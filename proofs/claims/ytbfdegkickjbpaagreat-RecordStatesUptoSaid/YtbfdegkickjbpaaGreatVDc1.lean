/-
 Dc1
-/
import Derived.Test.YtbfdegkickjbpaaGreatVSmA
import Derived.Test.YtbfdegkickjbpaaGreatVSrc1
namespace Go.Proofs.YtbfdegkickjbpaaGreat
set_option maxRecDepth 99999
set_option maxHeartbeats 0
open Go.RowKit Go.Lib Go.IntWalk Go.Sort Go.Shelf
def RF.er (p:RF):RF:=⟨none,0,0,p.row,p.vf,p.vt⟩
def RFor.er (x:RFor):RFor:=⟨none,0,x.cols,x.table⟩
mutual
def RE.er:RE→RE
 | .mk op it v nm _ _ args=>.mk op it v nm none 0 (ersX args)
def ersX:List RE→List RE
 |[]=>[]
 |x::r=>x.er::ersX r
end
theorem ersX_eq:∀l:List RE,ersX l=l.map RE.er
 |[]=>by simp only [ersX,List.map_nil]
 |x::r=>by simp only [ersX,List.map_cons,ersX_eq r]
theorem RE.er_mk (op it:Int) (v:Val) (nm:ByteArray) (A:Option Addr) (c:Nat) (args:List RE):(RE.mk op it v nm A c args).er=.mk op it v nm none 0 (args.map RE.er):=by
 simp only [RE.er,ersX_eq]
def RTab.er (t:RTab):RTab:=⟨t.name,none,0,t.cols,none,0,t.key,none,0,t.fors.map RFor.er,none,0,t.chks.map RE.er⟩
def REn.er (x:REn):REn:=⟨x.time,x.table,x.create.er,x.change⟩
def RDl.er (d:RDl):RDl:=⟨d.name,none,0,d.cl,none,0,d.ops.map RF.er⟩
def RCm.er (c:RCm):RCm:=⟨c.tx,c.time,c.wall,c.first,none,0,c.ents.map REn.er,none,0,c.dels.map RDl.er,none,0,c.pla,none,0,c.rel,none,0,c.pol,none,0,c.hor⟩
abbrev rdT (l:List UInt8):Int×Int→ByteArray×Int×Int:=rdS (fun k=>(strB (decT l k 200).1,(decT l k 200).2)) ⟨#[]⟩
abbrev rdV (l:List UInt8):Int×Int→Val×Int×Int:=rdS (decV l) zeroV
def rdBool (l:List UInt8) (s:Int×Int):Bool×Int×Int:=
 if (rdI l s).2.2=0∧(rdI l s).1≠0∧(rdI l s).1≠1 then (false,(rdI l s).2.1,1) else (decide ((rdI l s).1=1),(rdI l s).2)
def rdL {α:Type} (l:List UInt8) (one:Int×Int→α×Int×Int) (s:Int×Int):List α×Int×Int:=
 if (rdI l s).2.2=0∧(rdI l s).1<0 then ([],(rdI l s).2.1,1) else getS one (rdI l s).1.toNat (rdI l s).2
def rdCol (l:List UInt8) (s:Int×Int):RCol×Int×Int:=
 let a:=rdT l s
 let b:=rdI l a.2
 let c:=rdBool l b.2
 (⟨a.1,b.1,c.1⟩,c.2)
def rdFor (l:List UInt8) (s:Int×Int):RFor×Int×Int:=
 let a:=rdL l (rdI l) s
 let b:=rdT l a.2
 (⟨none,0,a.1,b.1⟩,b.2)
def rdX (l:List UInt8):Nat→Int×Int→RE×Int×Int
 |0,s=>(.mk 0 0 zeroV ⟨#[]⟩ none 0 [],s.1,26)
 |d+1,s=>
  let a:=rdI l s
  let b:=rdI l a.2
  let c:=rdV l b.2
  let t:=rdT l c.2
  let r:=rdL l (rdX l d) t.2
  (.mk a.1 b.1 c.1 t.1 none 0 r.1,r.2)
def rdTab (l:List UInt8) (s:Int×Int):RTab×Int×Int:=
 let a:=rdT l s
 let b:=rdL l (rdCol l) a.2
 let c:=rdL l (rdI l) b.2
 let d:=rdL l (rdFor l) c.2
 let e:=rdL l (rdX l 24) d.2
 (⟨a.1,none,0,b.1,none,0,c.1,none,0,d.1,none,0,e.1⟩,e.2)
def RTab.none_:RTab:=⟨⟨#[]⟩,none,0,[],none,0,[],none,0,[],none,0,[]⟩
def rdChn (l:List UInt8) (k:Int) (s:Int×Int):Chn×Int×Int:=
 let a:=rdT l s
 let b:=rdT l a.2
 let c:=rdCol l b.2
 let d:=rdV l c.2
 (⟨k,a.1,b.1,c.1.name,c.1.kind,c.1.null,d.1⟩,d.2)
def rdEnt (l:List UInt8) (s:Int×Int):REn×Int×Int:=
 let a:=rdI l s
 let b:=rdT l a.2
 let c:=rdI l b.2
 if c.1=0 then (⟨a.1,b.1,(rdTab l c.2).1,⟨0,⟨#[]⟩,⟨#[]⟩,⟨#[]⟩,0,false,zeroV⟩⟩,(rdTab l c.2).2)
 else (⟨a.1,b.1,RTab.none_,(rdChn l c.1 c.2).1⟩,(rdChn l c.1 c.2).2)
def rdFct (l:List UInt8) (s:Int×Int):RF×Int×Int:=
 let a:=rdR l s
 let b:=rdP l a.2
 (⟨none,0,0,a.1,b.1.1,b.1.2⟩,b.2)
def rdDel (l:List UInt8) (s:Int×Int):RDl×Int×Int:=
 let a:=rdT l s
 let b:=rdL l (rdI l) a.2
 let c:=rdL l (rdFct l) b.2
 (⟨a.1,none,0,b.1,none,0,c.1⟩,c.2)
def rdHld (l:List UInt8) (s:Int×Int):Hld×Int×Int:=
 let a:=rdT l s
 let b:=rdT l a.2
 let c:=rdP l b.2
 let d:=rdP l c.2
 (⟨a.1,b.1,c.1.1,c.1.2,d.1.1,d.1.2⟩,d.2)
def rdPol (l:List UInt8) (s:Int×Int):Pol×Int×Int:=
 let a:=rdT l s
 let b:=rdI l a.2
 (⟨a.1,b.1⟩,b.2)
def rdHor (l:List UInt8) (s:Int×Int):Hor×Int×Int:=
 let a:=rdT l s
 let b:=rdI l a.2
 (⟨a.1,b.1⟩,b.2)
def rdCm (l:List UInt8) (s:Int×Int):RCm×Int×Int:=
 let a:=rdI l s
 let b:=rdI l a.2
 let c:=rdI l b.2
 let d:=rdI l c.2
 let e:=rdL l (rdEnt l) d.2
 let f:=rdL l (rdDel l) e.2
 let g:=rdL l (rdHld l) f.2
 let h:=rdL l (rdT l) g.2
 let i:=rdL l (rdPol l) h.2
 let j:=rdL l (rdHor l) i.2
 (⟨a.1,b.1,c.1,d.1,none,0,e.1,none,0,f.1,none,0,g.1,none,0,h.1,none,0,i.1,none,0,j.1⟩,j.2)
def RCm.none_:RCm:=⟨0,0,0,0,none,0,[],none,0,[],none,0,[],none,0,[],none,0,[],none,0,[]⟩
def decCm (l:List UInt8):RCm×Int:=
 if 1048576<l.length then (RCm.none_,5)
 else if endE (rdCm l (0,0)).2 l.length≠0 then (RCm.none_,endE (rdCm l (0,0)).2 l.length)
 else if checkF (rdCm l (0,0)).1≠0 then (RCm.none_,checkF (rdCm l (0,0)).1)
 else ((rdCm l (0,0)).1,0)
theorem encV_len (x:Val):0<(encV x).length:=by
 unfold encV;split
 ·simp
 ·split
  ·simp
  ·split<;>simp
def Mon {α:Type} (l:List UInt8) (rd:Int×Int→α×Int×Int):Prop:=∀s,(rd s).2.2=0→s.2=0∧s.1+1≤(rd s).2.1∧(rd s).2.1≤l.length
theorem mon_S {α:Type} {l:List UInt8} {dec:Int→α×Int×Int} {z:α} (hd:∀k a m,dec k=(a,m,0)→k+1≤m∧m≤l.length):Mon l (rdS dec z):=by
 intro s h
 rcases e:rdS dec z s with ⟨a,m,c⟩
 rw [e] at h
 simp only at h
 subst h
 have:=rdS_mono (fun k a m h=>(hd k a m h).1) e
 exact ⟨this.1,this.2.1,(hd _ _ _ this.2.2).2⟩
theorem mon_I {l:List UInt8}:Mon l (rdI l):=mon_S (fun k a m h=>by
 obtain ⟨x,r,hl,hk,hm⟩:=decI_got h
 have:=encI_pos a
 have hln:l.length=(x++encI a).length+r.length:=by rw [hl];simp [Nat.add_assoc]
 rw [hk,hm]
 rw [List.length_append] at *
 omega)
theorem mon_R {l:List UInt8}:Mon l (rdR l):=mon_S (fun k a m h=>by
 obtain ⟨x,r,hl,hk,hm,_⟩:=decR_got h
 have:=encI_pos a.length
 have hln:l.length=(x++encR a).length+r.length:=by rw [hl];simp [Nat.add_assoc]
 have h2:(encR a).length=(encI a.length).length+(encVs a).length:=by rw [encR,List.length_append]
 rw [hk,hm]
 rw [List.length_append] at *
 omega)
theorem mon_P {l:List UInt8}:Mon l (rdP l):=mon_S (fun k a m h=>by
 obtain ⟨f,t⟩:=a
 obtain ⟨x,r,hl,hk,hm,_⟩:=decP_got h
 have:=encI_pos f
 have hln:l.length=(x++(encI f++encI t)).length+r.length:=by rw [hl];simp [Nat.add_assoc]
 rw [hk,hm]
 simp only [List.length_append] at *
 omega)
theorem mon_T {l:List UInt8}:Mon l (rdT l):=mon_S (fun k a m h=>by
 have hb:=decT_bd l k 200
 simp only [Prod.mk.injEq] at h
 rw [h.2] at hb
 simp only at hb
 rcases hb with hb|hb
 ·exact ⟨hb.2.1,hb.2.2.1⟩
 ·omega)
theorem mon_V {l:List UInt8}:Mon l (rdV l):=mon_S (fun k a m h=>by
 obtain ⟨x,r,hl,hk,hm,_⟩:=decV_got h
 have:=encV_len a
 have hln:l.length=(x++encV a).length+r.length:=by rw [hl];simp [Nat.add_assoc]
 rw [hk,hm]
 rw [List.length_append] at *
 omega)
theorem mon_Bool {l:List UInt8}:Mon l (rdBool l):=by
 intro s h
 unfold rdBool at h ⊢
 split at h
 ·exact absurd h (by simp)
 ·rename_i h1
  rw [if_neg h1]
  exact mon_I s h
theorem mon_getS {α:Type} {l:List UInt8} {one:Int×Int→α×Int×Int} (hm:Mon l one):∀(n:Nat) (s:Int×Int),(getS one n s).2.2=0→s.2=0∧s.1+((getS one n s).1.length:Int)≤(getS one n s).2.1∧(s.1≤l.length→(getS one n s).2.1≤l.length):=by
 intro n
 induction n with
 |zero=>intro s h;exact ⟨h,by simp [getS],fun h=>h⟩
 |succ n ih=>
  intro s h
  by_cases hs:s.2=0
  ·rcases e:one s with ⟨x,s'⟩
   rw [getS_step hs e] at h ⊢
   have h1:=ih s' h
   have h2:=hm s (by rw [e];exact h1.1)
   rw [e] at h2
   simp only at h2 ⊢
   refine ⟨hs,?_,fun _=>h1.2.2 h2.2.2⟩
   have:=h1.2.1
   simp only [List.length_cons]
   omega
  ·rw [getS_stop (.inr hs)] at h
   exact absurd h hs
theorem mon_L {α:Type} {l:List UInt8} {one:Int×Int→α×Int×Int} (hm:Mon l one):Mon l (rdL l one):=by
 intro s h
 unfold rdL at h ⊢
 split at h
 ·exact absurd h (by simp)
 ·rename_i h1
  rw [if_neg h1]
  have h2:=mon_getS hm _ _ h
  have h3:=mon_I s h2.1
  refine ⟨h3.1,?_,h2.2.2 h3.2.2⟩
  have:=h2.2.1
  omega
theorem mon_Col {l:List UInt8}:Mon l (rdCol l):=by
 intro s h
 have h2:=mon_Bool (rdI l (rdT l s).2).2 h
 have h1:=mon_I (rdT l s).2 h2.1
 have h0:=mon_T s h1.1
 refine ⟨h0.1,?_,h2.2.2⟩
 show s.1+1≤(rdBool l (rdI l (rdT l s).2).2).2.1
 have g0:=h0.2.1
 have g1:=h1.2.1
 have g2:=h2.2.1
 omega
theorem mon_For {l:List UInt8}:Mon l (rdFor l):=by
 intro s h
 have h1:=mon_T (rdL l (rdI l) s).2 h
 have h0:=(mon_L mon_I) s h1.1
 refine ⟨h0.1,?_,h1.2.2⟩
 show s.1+1≤(rdT l (rdL l (rdI l) s).2).2.1
 have g0:=h0.2.1
 have g1:=h1.2.1
 omega
theorem mon_X {l:List UInt8}:∀d:Nat,Mon l (rdX l d)
 |0=>fun s h=>absurd h (by show ¬(26:Int)=0;decide)
 |d+1=>by
  intro s h
  have h4:=(mon_L (mon_X d)) (rdT l (rdV l (rdI l (rdI l s).2).2).2).2 h
  have h3:=mon_T (rdV l (rdI l (rdI l s).2).2).2 h4.1
  have h2:=mon_V (rdI l (rdI l s).2).2 h3.1
  have h1:=mon_I (rdI l s).2 h2.1
  have h0:=mon_I s h1.1
  refine ⟨h0.1,?_,h4.2.2⟩
  show s.1+1≤(rdL l (rdX l d) (rdT l (rdV l (rdI l (rdI l s).2).2).2).2).2.1
  have g0:=h0.2.1
  have g1:=h1.2.1
  have g2:=h2.2.1
  have g3:=h3.2.1
  have g4:=h4.2.1
  omega
theorem mon_Tab {l:List UInt8}:Mon l (rdTab l):=by
 intro s h
 have h4:=(mon_L (mon_X 24)) (rdL l (rdFor l) (rdL l (rdI l) (rdL l (rdCol l) (rdT l s).2).2).2).2 h
 have h3:=(mon_L mon_For) (rdL l (rdI l) (rdL l (rdCol l) (rdT l s).2).2).2 h4.1
 have h2:=(mon_L mon_I) (rdL l (rdCol l) (rdT l s).2).2 h3.1
 have h1:=(mon_L mon_Col) (rdT l s).2 h2.1
 have h0:=mon_T s h1.1
 refine ⟨h0.1,?_,h4.2.2⟩
 show s.1+1≤(rdL l (rdX l 24) (rdL l (rdFor l) (rdL l (rdI l) (rdL l (rdCol l) (rdT l s).2).2).2).2).2.1
 have g0:=h0.2.1
 have g1:=h1.2.1
 have g2:=h2.2.1
 have g3:=h3.2.1
 have g4:=h4.2.1
 omega
theorem mon_Chn {l:List UInt8} {k:Int}:Mon l (rdChn l k):=by
 intro s h
 have h3:=mon_V (rdCol l (rdT l (rdT l s).2).2).2 h
 have h2:=mon_Col (rdT l (rdT l s).2).2 h3.1
 have h1:=mon_T (rdT l s).2 h2.1
 have h0:=mon_T s h1.1
 refine ⟨h0.1,?_,h3.2.2⟩
 show s.1+1≤(rdV l (rdCol l (rdT l (rdT l s).2).2).2).2.1
 have g0:=h0.2.1
 have g1:=h1.2.1
 have g2:=h2.2.1
 have g3:=h3.2.1
 omega
theorem mon_Ent {l:List UInt8}:Mon l (rdEnt l):=by
 intro s h
 by_cases hk:(rdI l (rdT l (rdI l s).2).2).1=0
 ·have e:(rdEnt l s).2=(rdTab l (rdI l (rdT l (rdI l s).2).2).2).2:=by unfold rdEnt;simp only [if_pos hk]
  rw [e] at h ⊢
  have h4:=mon_Tab _ h
  have h3:=mon_I _ h4.1
  have h2:=mon_T _ h3.1
  have h1:=mon_I _ h2.1
  refine ⟨h1.1,?_,h4.2.2⟩
  have g1:=h1.2.1
  have g2:=h2.2.1
  have g3:=h3.2.1
  have g4:=h4.2.1
  omega
 ·have e:(rdEnt l s).2=(rdChn l (rdI l (rdT l (rdI l s).2).2).1 (rdI l (rdT l (rdI l s).2).2).2).2:=by unfold rdEnt;simp only [if_neg hk]
  rw [e] at h ⊢
  have h4:=mon_Chn _ h
  have h3:=mon_I _ h4.1
  have h2:=mon_T _ h3.1
  have h1:=mon_I _ h2.1
  refine ⟨h1.1,?_,h4.2.2⟩
  have g1:=h1.2.1
  have g2:=h2.2.1
  have g3:=h3.2.1
  have g4:=h4.2.1
  omega
theorem mon_Fct {l:List UInt8}:Mon l (rdFct l):=by
 intro s h
 have h1:=mon_P (rdR l s).2 h
 have h0:=mon_R s h1.1
 refine ⟨h0.1,?_,h1.2.2⟩
 show s.1+1≤(rdP l (rdR l s).2).2.1
 have g0:=h0.2.1
 have g1:=h1.2.1
 omega
theorem mon_Del {l:List UInt8}:Mon l (rdDel l):=by
 intro s h
 have h2:=(mon_L mon_Fct) (rdL l (rdI l) (rdT l s).2).2 h
 have h1:=(mon_L mon_I) (rdT l s).2 h2.1
 have h0:=mon_T s h1.1
 refine ⟨h0.1,?_,h2.2.2⟩
 show s.1+1≤(rdL l (rdFct l) (rdL l (rdI l) (rdT l s).2).2).2.1
 have g0:=h0.2.1
 have g1:=h1.2.1
 have g2:=h2.2.1
 omega
theorem mon_Hld {l:List UInt8}:Mon l (rdHld l):=by
 intro s h
 have h3:=mon_P (rdP l (rdT l (rdT l s).2).2).2 h
 have h2:=mon_P (rdT l (rdT l s).2).2 h3.1
 have h1:=mon_T (rdT l s).2 h2.1
 have h0:=mon_T s h1.1
 refine ⟨h0.1,?_,h3.2.2⟩
 show s.1+1≤(rdP l (rdP l (rdT l (rdT l s).2).2).2).2.1
 have g0:=h0.2.1
 have g1:=h1.2.1
 have g2:=h2.2.1
 have g3:=h3.2.1
 omega
theorem mon_Pol {l:List UInt8}:Mon l (rdPol l):=by
 intro s h
 have h1:=mon_I (rdT l s).2 h
 have h0:=mon_T s h1.1
 refine ⟨h0.1,?_,h1.2.2⟩
 show s.1+1≤(rdI l (rdT l s).2).2.1
 have g0:=h0.2.1
 have g1:=h1.2.1
 omega
theorem mon_Hor {l:List UInt8}:Mon l (rdHor l):=by
 intro s h
 have h1:=mon_I (rdT l s).2 h
 have h0:=mon_T s h1.1
 refine ⟨h0.1,?_,h1.2.2⟩
 show s.1+1≤(rdI l (rdT l s).2).2.1
 have g0:=h0.2.1
 have g1:=h1.2.1
 omega
end Go.Proofs.YtbfdegkickjbpaaGreat
