/-
 StF
-/
import Derived.Test.YtbfdegkickjbpaaGreatHTn1
import Derived.Test.YtbfdegkickjbpaaGreatHRvA
import Derived.Test.YtbfdegkickjbpaaGreatHDvA
namespace Go.Proofs.YtbfdegkickjbpaaGreat
open Go.RowKit Go.Lib Go.IntWalk Go.Sort Go.Shelf
def Got {α:Type} (rd:Rdn α) (G:α→List UInt8→Prop):Prop:=∀(l:List UInt8) (s:Int×Int) (a:α) (k:Int),rd l s=(a,k,0)→∃pre b suf,G a b∧s=((pre.length:Int),0)∧l=pre++(b++suf)∧k=((pre++b).length:Int)
theorem Got.sq {α β:Type} {r1:Rdn α} {r2:α→Rdn β} {G1:α→List UInt8→Prop} {G2:α→β→List UInt8→Prop} (h1:Got r1 G1) (h2:∀a,Got (r2 a) (G2 a)):Got (sq r1 r2) (fun b t=>∃a t1 t2,G1 a t1∧G2 a b t2∧t=t1++t2):=by
 intro l s b k h
 change r2 (r1 l s).1 l (r1 l s).2=(b,k,0) at h
 obtain ⟨p2,t2,u2,g2,e2,l2,k2⟩:=h2 _ l _ b k h
 obtain ⟨p1,t1,u1,g1,e1,l1,k1⟩:=h1 l s (r1 l s).1 p2.length (by rw [←e2])
 have hl:p2++(t2++u2)=(p1++t1)++u1:=by rw [←l2,l1,List.append_assoc]
 obtain ⟨rfl,_⟩:=List.append_inj hl (by omega)
 exact ⟨p1,t1++t2,u2,⟨_,t1,t2,g1,g2,rfl⟩,e1,by rw [l2];simp only [List.append_assoc],by rw [k2];simp only [List.append_assoc]⟩
theorem Got.mp {α β:Type} {r:Rdn α} {G:α→List UInt8→Prop} (h:Got r G) (f:α→β):Got (mp f r) (fun b t=>∃a,G a t∧b=f a):=by
 intro l s b k e
 change (f (r l s).1,(r l s).2)=(b,k,0) at e
 simp only [Prod.mk.injEq] at e
 obtain ⟨e1,e2⟩:=e
 obtain ⟨p,t,u,g,h1,h2,h3⟩:=h l s (r l s).1 k (by rw [←e2])
 exact ⟨p,t,u,⟨_,g,e1.symm⟩,h1,h2,h3⟩
theorem Got.imp {α:Type} {r:Rdn α} {G G':α→List UInt8→Prop} (h:Got r G) (hi:∀a t,G a t→G' a t):Got r G':=fun l s a k e=>by
 obtain ⟨p,t,u,g,h1,h2,h3⟩:=h l s a k e
 exact ⟨p,t,u,hi _ _ g,h1,h2,h3⟩
theorem got_S {α:Type} {dec:List UInt8→Int→α×Int×Int} {z:α} {G:α→List UInt8→Prop} (hd:∀l k a m,dec l k=(a,m,0)→∃pre b suf,G a b∧l=pre++(b++suf)∧k=(pre.length:Int)∧m=((pre++b).length:Int)):Got (fun l=>rdS (dec l) z) G:=by
 intro l s a k h
 obtain ⟨s1,s2⟩:=s
 change rdS (dec l) z (s1,s2)=(a,k,0) at h
 unfold rdS at h
 split at h
 ·rename_i h0
  simp only [Prod.mk.injEq] at h
  exact absurd h.2.2 h0
 ·rename_i h0
  simp only [ne_eq,Decidable.not_not] at h0
  rcases hq:dec l s1 with ⟨b,q,e⟩
  simp only [hq] at h
  split at h
  ·rename_i he
   subst he
   simp only [Prod.mk.injEq,and_true] at h
   obtain ⟨rfl,rfl⟩:=h
   obtain ⟨pre,t,suf,g,e1,e2,e3⟩:=hd _ _ _ _ hq
   exact ⟨pre,t,suf,g,by rw [e2,h0],e1,e3⟩
  ·rename_i he
   simp only [Prod.mk.injEq] at h
   exact absurd h.2.2 he
theorem got_I:Got rdI (fun n t=>t=encI n):=got_S (fun l k a m h=>by
 obtain ⟨p,r,h1,h2,h3⟩:=decI_got h
 exact ⟨p,_,r,rfl,h1,h2,h3⟩)
theorem got_T:Got rdT (fun s t=>t=encI s.size++s.data.toList):=got_S (dec:=fun l k=>(strB (decT l k 200).1,(decT l k 200).2)) (fun l k a m h=>by
 rcases hq:decT l k 200 with ⟨x,m2,e⟩
 rw [hq] at h
 simp only [Prod.mk.injEq] at h
 obtain ⟨rfl,rfl,rfl⟩:=h
 obtain ⟨p,r,h1,h2,h3,_⟩:=decT_got hq
 exact ⟨p,encI x.length++x,r,by simp [strB,ByteArray.size],h1,h2,h3⟩)
theorem got_V:Got rdV (fun v t=>t=encV v):=got_S (fun l k a m h=>by
 obtain ⟨p,r,h1,h2,h3,_⟩:=decV_got h
 exact ⟨p,_,r,rfl,h1,h2,h3⟩)
theorem got_R:Got rdR (fun v t=>t=encR v):=got_S (fun l k a m h=>by
 obtain ⟨p,r,h1,h2,h3,_⟩:=decR_got h
 exact ⟨p,_,r,rfl,h1,h2,h3⟩)
theorem got_P:Got rdP (fun v t=>t=encI v.1++encI v.2):=got_S (fun l k a m h=>by
 obtain ⟨f,u⟩:=a
 obtain ⟨p,r,h1,h2,h3,_⟩:=decP_got h
 exact ⟨p,_,r,rfl,h1,h2,h3⟩)
theorem got_B:Got rdBool (fun b t=>t=flagE b):=by
 intro l s b k h
 unfold rdBool at h
 split at h
 ·simp at h
 ·rename_i h0
  simp only [Prod.mk.injEq] at h
  obtain ⟨h1,h2⟩:=h
  obtain ⟨p,t,u,g,e1,e2,e3⟩:=got_I l s (rdI l s).1 k (by rw [←h2])
  refine ⟨p,t,u,?_,e1,e2,e3⟩
  have h3:(rdI l s).2.2=0:=by rw [h2]
  have g2:t=encI (rdI l s).1:=g
  show t=flagE b
  rw [g2]
  unfold flagE
  by_cases h4:(rdI l s).1=1
  ·rw [←h1,h4];rfl
  ·have h5:(rdI l s).1=0:=by
    by_cases h6:(rdI l s).1=0
    ·exact h6
    ·exact absurd ⟨h3,h6,h4⟩ h0
   rw [←h1,h5];rfl
theorem got_getS {α:Type} {rd:Rdn α} {enc:α→List UInt8} (h:Got rd (fun a t=>t=enc a)) (l:List UInt8):∀(n:Nat) (pre suf:List UInt8) (xs:List α) (k:Int),l=pre++suf→getS (rd l) n ((pre.length:Int),0)=(xs,k,0)→xs.length=n∧∃suf',l=pre++(xs.flatMap enc++suf')∧k=((pre++xs.flatMap enc).length:Int):=by
 intro n
 induction n with
 |zero=>
  intro pre suf xs k hl e
  simp only [getS,Prod.mk.injEq,and_true] at e
  obtain ⟨rfl,rfl⟩:=e
  exact ⟨rfl,suf,by simpa using hl,by simp⟩
 |succ n ih=>
  intro pre suf xs k hl e
  rcases hx:rd l ((pre.length:Int),0) with ⟨x,s1,s2⟩
  rw [getS_step rfl hx] at e
  have hs:s2=0:=by
   by_cases h0:s2=0
   ·exact h0
   ·rw [getS_stop (.inr h0)] at e
    simp only [Prod.mk.injEq] at e
    exact e.2.2
  subst hs
  obtain ⟨p,t,u,rfl,e1,e2,e3⟩:=h l _ x s1 hx
  have hp:pre++suf=p++(enc x++u):=by rw [←hl,e2]
  simp only [Prod.mk.injEq,and_true] at e1
  obtain ⟨rfl,hu⟩:=List.append_inj hp (by omega)
  rcases hg:getS (rd l) n (s1,0) with ⟨ys,k2,e4⟩
  rw [hg] at e
  simp only [Prod.mk.injEq] at e
  obtain ⟨rfl,rfl,rfl⟩:=e
  rw [e3] at hg
  obtain ⟨i1,suf',i2,i3⟩:=ih (pre++enc x) u ys k2 (by rw [e2,List.append_assoc]) hg
  refine ⟨by rw [List.length_cons,i1],suf',?_,?_⟩
  ·rw [i2,List.flatMap_cons];simp only [List.append_assoc]
  ·rw [i3,List.flatMap_cons];simp only [List.append_assoc]
theorem got_L {α:Type} {rd:Rdn α} {enc:α→List UInt8} (h:Got rd (fun a t=>t=enc a)):Got (fun l=>rdL l (rd l)) (fun xs t=>t=encI xs.length++xs.flatMap enc):=by
 intro l s xs k e
 change rdL l (rd l) s=(xs,k,0) at e
 unfold rdL at e
 split at e
 ·simp at e
 ·rename_i h0
  rcases hi:rdI l s with ⟨n,s1,s2⟩
  rw [hi] at e h0
  simp only at e h0
  have hs:s2=0:=by
   by_cases h1:s2=0
   ·exact h1
   ·rw [getS_stop (.inr h1)] at e
    simp only [Prod.mk.injEq] at e
    exact e.2.2
  subst hs
  obtain ⟨p,t,u,rfl,e1,e2,e3⟩:=got_I l s n s1 hi
  rw [e3] at e
  obtain ⟨i1,suf',i2,i3⟩:=got_getS h l n.toNat (p++encI n) u xs k (by rw [e2,List.append_assoc]) e
  have hn:(xs.length:Int)=n:=by
   by_cases hz:n<0
   ·exact absurd ⟨rfl,hz⟩ h0
   ·omega
  exact ⟨p,encI xs.length++xs.flatMap enc,suf',rfl,e1,by rw [hn,i2];simp only [List.append_assoc],by rw [hn,i3];simp only [List.append_assoc]⟩
theorem got_Col:Got rdCol (fun x t=>t=encCol x):=by
 show Got (sq rdT (fun a=>sq rdI (fun b=>mp (fun c=>(⟨a,b,c⟩:RCol)) rdBool))) _
 exact (got_T.sq (fun a=>got_I.sq (fun b=>got_B.mp _))).imp (by rintro x t ⟨a,t1,t2,rfl,⟨b,t3,t4,rfl,⟨c,rfl,rfl⟩,rfl⟩,rfl⟩;rfl)
theorem got_For:Got rdFor (fun x t=>t=encFor x):=by
 show Got (sq (fun l=>rdL l (rdI l)) (fun a=>mp (fun b=>(⟨none,0,a,b⟩:RFor)) rdT)) _
 exact ((got_L got_I).sq (fun a=>got_T.mp _)).imp (by rintro x t ⟨a,t1,t2,rfl,⟨b,rfl,rfl⟩,rfl⟩;rfl)
theorem got_X:∀d:Nat,Got (fun l=>rdX l d) (fun e t=>t=encX e)
 |0=>fun l s a k h=>by
  simp only [rdX,Prod.mk.injEq] at h
  exact absurd h.2.2 (by decide)
 |d+1=>by
  show Got (sq rdI (fun a=>sq rdI (fun b=>sq rdV (fun c=>sq rdT (fun t=>mp (fun r=>RE.mk a b c t none 0 r) (fun l=>rdL l (rdX l d))))))) _
  exact (got_I.sq (fun a=>got_I.sq (fun b=>got_V.sq (fun c=>got_T.sq (fun t=>(got_L (rd:=fun l=>rdX l d) (got_X d)).mp _))))).imp (by rintro x t ⟨a,t1,t2,rfl,⟨b,t3,t4,rfl,⟨c,t5,t6,rfl,⟨n,t7,t8,rfl,⟨r,rfl,rfl⟩,rfl⟩,rfl⟩,rfl⟩,rfl⟩;rw [encX,encXs_flat])
theorem got_Tab:Got rdTab (fun x t=>t=encTab x):=by
 show Got (sq rdT (fun a=>sq (fun l=>rdL l (rdCol l)) (fun b=>sq (fun l=>rdL l (rdI l)) (fun c=>sq (fun l=>rdL l (rdFor l)) (fun d=>mp (fun e=>(⟨a,none,0,b,none,0,c,none,0,d,none,0,e⟩:RTab)) (fun l=>rdL l (rdX l 24))))))) _
 exact (got_T.sq (fun a=>(got_L got_Col).sq (fun b=>(got_L got_I).sq (fun c=>(got_L got_For).sq (fun d=>(got_L (rd:=fun l=>rdX l 24) (got_X 24)).mp _))))).imp (by rintro x t ⟨a,t1,t2,rfl,⟨b,t3,t4,rfl,⟨c,t5,t6,rfl,⟨n,t7,t8,rfl,⟨r,rfl,rfl⟩,rfl⟩,rfl⟩,rfl⟩,rfl⟩;rfl)
theorem got_Chn (k:Int):Got (fun l=>rdChn l k) (fun x t=>x.kind=k∧t=(encI x.name.size++x.name.data.toList)++((encI x.to.size++x.to.data.toList)++(((encI x.cname.size++x.cname.data.toList)++(encI x.ckind++flagE x.cnull))++encV x.def_))):=by
 show Got (sq rdT (fun a=>sq rdT (fun b=>sq rdCol (fun c=>mp (fun d=>(⟨k,a,b,c.name,c.kind,c.null,d⟩:Chn)) rdV)))) _
 exact (got_T.sq (fun a=>got_T.sq (fun b=>got_Col.sq (fun c=>got_V.mp _)))).imp (by rintro x t ⟨a,t1,t2,rfl,⟨b,t3,t4,rfl,⟨c,t5,t6,rfl,⟨n,rfl,rfl⟩,rfl⟩,rfl⟩,rfl⟩;exact ⟨rfl,rfl⟩)
theorem got_Ent:Got rdEnt (fun x t=>t=encEnt x):=by
 have hf:rdEnt=sq rdI (fun a=>sq rdT (fun b=>sq rdI (fun c=>if c=0 then mp (fun t=>(⟨a,b,t,⟨0,⟨#[]⟩,⟨#[]⟩,⟨#[]⟩,0,false,zeroV⟩⟩:REn)) rdTab else mp (fun x=>(⟨a,b,RTab.none_,x⟩:REn)) (fun l=>rdChn l c)))):=by
  funext l s
  unfold rdEnt sq
  simp only
  split<;>rfl
 rw [hf]
 have h3:∀(a:Int) (b:ByteArray) (c:Int),Got (if c=0 then mp (fun t=>(⟨a,b,t,⟨0,⟨#[]⟩,⟨#[]⟩,⟨#[]⟩,0,false,zeroV⟩⟩:REn)) rdTab else mp (fun x=>(⟨a,b,RTab.none_,x⟩:REn)) (fun l=>rdChn l c)) (fun x t=>encEnt x=encI a++((encI b.size++b.data.toList)++(encI c++t))):=fun a b c=>by
  by_cases h:c=0
  ·rw [if_pos h]
   exact (got_Tab.mp _).imp (by rintro x t ⟨y,rfl,rfl⟩;rw [h];unfold encEnt encEnt0;rw [if_pos rfl])
  ·rw [if_neg h]
   exact ((got_Chn c).mp _).imp (by rintro x t ⟨y,⟨rfl,rfl⟩,rfl⟩;unfold encEnt encEnt1;rw [if_neg h])
 exact (got_I.sq (fun a=>got_T.sq (fun b=>got_I.sq (fun c=>h3 a b c)))).imp (by rintro x t ⟨a,t1,t2,rfl,⟨b,t3,t4,rfl,⟨c,t5,t6,rfl,g,rfl⟩,rfl⟩,rfl⟩;exact g.symm)
theorem got_Fct:Got rdFct (fun x t=>t=encF x):=by
 show Got (sq rdR (fun a=>mp (fun b=>(⟨none,0,0,a,b.1,b.2⟩:RF)) rdP)) _
 exact (got_R.sq (fun a=>got_P.mp _)).imp (by rintro x t ⟨a,t1,t2,rfl,⟨b,rfl,rfl⟩,rfl⟩;rfl)
theorem got_Del:Got rdDel (fun x t=>t=encDel x):=by
 show Got (sq rdT (fun a=>sq (fun l=>rdL l (rdI l)) (fun b=>mp (fun c=>(⟨a,none,0,b,none,0,c⟩:RDl)) (fun l=>rdL l (rdFct l))))) _
 exact (got_T.sq (fun a=>(got_L got_I).sq (fun b=>(got_L got_Fct).mp _))).imp (by rintro x t ⟨a,t1,t2,rfl,⟨b,t3,t4,rfl,⟨c,rfl,rfl⟩,rfl⟩,rfl⟩;rfl)
theorem got_Hld:Got rdHld (fun x t=>t=encHld x):=by
 show Got (sq rdT (fun a=>sq rdT (fun b=>sq rdP (fun c=>mp (fun d=>(⟨a,b,c.1,c.2,d.1,d.2⟩:Hld)) rdP)))) _
 exact (got_T.sq (fun a=>got_T.sq (fun b=>got_P.sq (fun c=>got_P.mp _)))).imp (by rintro x t ⟨a,t1,t2,rfl,⟨b,t3,t4,rfl,⟨c,t5,t6,rfl,⟨n,rfl,rfl⟩,rfl⟩,rfl⟩,rfl⟩;rfl)
theorem got_Pol:Got rdPol (fun x t=>t=encPol x):=by
 show Got (sq rdT (fun a=>mp (fun b=>(⟨a,b⟩:Pol)) rdI)) _
 exact (got_T.sq (fun a=>got_I.mp _)).imp (by rintro x t ⟨a,t1,t2,rfl,⟨b,rfl,rfl⟩,rfl⟩;rfl)
theorem got_Hor:Got rdHor (fun x t=>t=encHor x):=by
 show Got (sq rdT (fun a=>mp (fun b=>(⟨a,b⟩:Hor)) rdI)) _
 exact (got_T.sq (fun a=>got_I.mp _)).imp (by rintro x t ⟨a,t1,t2,rfl,⟨b,rfl,rfl⟩,rfl⟩;rfl)
theorem got_Cm:Got rdCm (fun x t=>t=encC x):=by
 show Got (sq rdI (fun a=>sq rdI (fun b=>sq rdI (fun c=>sq rdI (fun d=>sq (fun l=>rdL l (rdEnt l)) (fun e=>sq (fun l=>rdL l (rdDel l)) (fun f=>sq (fun l=>rdL l (rdHld l)) (fun g=>sq (fun l=>rdL l (rdT l)) (fun h=>sq (fun l=>rdL l (rdPol l)) (fun i=>mp (fun j=>
  (⟨a,b,c,d,none,0,e,none,0,f,none,0,g,none,0,h,none,0,i,none,0,j⟩:RCm)) (fun l=>rdL l (rdHor l)))))))))))) _
 refine (got_I.sq (fun a=>got_I.sq (fun b=>got_I.sq (fun c=>got_I.sq (fun d=>(got_L got_Ent).sq (fun e=>(got_L got_Del).sq (fun f=>(got_L got_Hld).sq (fun g=>(got_L (enc:=encStr) got_T).sq (fun h=>(got_L got_Pol).sq (fun i=>(got_L got_Hor).mp _)))))))))).imp ?_
 rintro x t ⟨a,_,_,rfl,⟨b,_,_,rfl,⟨c,_,_,rfl,⟨d,_,_,rfl,⟨e,_,_,rfl,⟨f,_,_,rfl,⟨g,_,_,rfl,⟨h,_,_,rfl,⟨i,_,_,rfl,⟨j,rfl,rfl⟩,rfl⟩,rfl⟩,rfl⟩,rfl⟩,rfl⟩,rfl⟩,rfl⟩,rfl⟩,rfl⟩
 unfold encC encE encD encH encS encP encZ
 simp only [List.append_assoc]
theorem got_VerP:Got rdVerP (fun p t=>t=encVer p.2):=by
 show Got (sq rdI (fun a=>sq rdI (fun b=>sq rdR (fun c=>sq rdP (fun d=>sq rdP (fun e=>sq rdI (fun f=>mp (fun g=>rvP (⟨a,b,c,d.1,d.2,e.1,e.2,f,g⟩:Ver)) rdI))))))) _
 refine (got_I.sq (fun a=>got_I.sq (fun b=>got_R.sq (fun c=>got_P.sq (fun d=>got_P.sq (fun e=>got_I.sq (fun f=>got_I.mp _))))))).imp ?_
 rintro x t ⟨a,_,_,rfl,⟨b,_,_,rfl,⟨c,_,_,rfl,⟨d,_,_,rfl,⟨e,_,_,rfl,⟨f,_,_,rfl,⟨g,rfl,rfl⟩,rfl⟩,rfl⟩,rfl⟩,rfl⟩,rfl⟩,rfl⟩
 show _=encVer ⟨a,b,c,d.1,d.2,e.1,e.2,f,g⟩
 unfold encVer
 simp only [List.append_assoc]
theorem Got.all {α:Type} {rd:Rdn α} {enc:α→List UInt8} (h:Got rd (fun a t=>t=enc a)) {l:List UInt8} (he:endE (rd l (0,0)).2 l.length=0):l=enc (rd l (0,0)).1:=by
 rcases hr:rd l (0,0) with ⟨a,k,e⟩
 rw [hr] at he
 unfold endE at he
 simp only at he
 by_cases h0:e=0
 ·subst h0
  obtain ⟨p,t,u,rfl,e1,e2,e3⟩:=h l _ a k hr
  simp only [Prod.mk.injEq,and_true] at e1
  have hp:p=[]:=List.eq_nil_of_length_eq_zero (by omega)
  subst hp
  have hk:¬k<l.length:=fun hk=>by rw [if_pos ⟨rfl,hk⟩] at he;omega
  have hl:l.length=(enc a).length+u.length:=by rw [e2];simp
  have hu:u=[]:=List.eq_nil_of_length_eq_zero (by simp only [List.nil_append] at e3;omega)
  subst hu
  simpa using e2
 ·rw [if_neg (fun h=>h0 h.1)] at he
  exact absurd he h0
theorem decCm_got {l:List UInt8} (h:(decCm l).2=0):l=encC (decCm l).1∧checkF (decCm l).1=0∧l.length≤1048576∧(decCm l).1=(rdCm l (0,0)).1∧(rdCm l (0,0)).2.2=0:=by
 unfold decCm at h ⊢
 split at h
 ·simp at h
 ·rename_i h1
  split at h
  ·rename_i h2;exact absurd h h2
  ·rename_i h2
   split at h
   ·rename_i h3;exact absurd h h3
   ·rename_i h3
    simp only [ne_eq,Decidable.not_not] at h2 h3
    rw [if_neg h1,if_neg (by simpa using h2),if_neg (by simpa using h3)]
    refine ⟨got_Cm.all h2,h3,by omega,rfl,?_⟩
    unfold endE at h2
    by_cases h4:(rdCm l (0,0)).2.2=0
    ·exact h4
    ·rw [if_neg (fun h=>h4 h.1)] at h2
     exact h2
theorem decV2_got {l:List UInt8} (h:(decV2 l).2=0):l=encVsB (decV2 l).1∧encVsE (decV2 l).1=0:=by
 unfold decV2 at h ⊢
 split at h
 ·simp at h
 ·rename_i h1
  split at h
  ·rename_i h2;exact absurd h h2
  ·rename_i h2
   split at h
   ·simp at h
   ·rename_i h3
    split at h
    ·rename_i h4;exact absurd h h4
    ·rename_i h4
     simp only [ne_eq,Decidable.not_not] at h2 h4
     rw [if_neg h1,if_neg (by simpa using h2),if_neg h3,if_neg (by simpa using h4)]
     have e:l=encVsB ((rdL l (rdVerP l) (0,0)).1.map (·.2)):=by
      have g:=Got.all (rd:=fun l=>rdL l (rdVerP l)) (got_L got_VerP) h2
      unfold encVsB encVers
      rw [List.length_map,List.flatMap_map]
      exact g
     refine ⟨e,?_⟩
     unfold encVsE
     rw [if_neg (by rw [List.length_map];exact h3),if_neg (by simpa using h4),if_neg (by rw [←e];exact h1)]
mutual
theorem encX_er:∀e:RE,encX e.er=encX e
 | .mk op it v nm A c args=>by
  rw [RE.er,encX,encX,encXs_er args]
  rw [show (ersX args).length=args.length by rw [ersX_eq,List.length_map]]
theorem encXs_er:∀l:List RE,encXs (ersX l)=encXs l
 |[]=>rfl
 |e::r=>by rw [ersX,encXs,encXs,encX_er e,encXs_er r]
end
theorem encTab_er (t:RTab):encTab t.er=encTab t:=by
 unfold encTab RTab.er
 simp only [List.length_map,List.flatMap_map,encX_er]
 rfl
theorem encEnt_er (x:REn):encEnt x.er=encEnt x:=by
 unfold encEnt encEnt0 encEnt1 REn.er
 simp only [encTab_er]
theorem encDel_er (x:RDl):encDel x.er=encDel x:=by
 unfold encDel RDl.er
 simp only [List.length_map,List.flatMap_map]
 rfl
theorem encC_er (c:RCm):encC c.er=encC c:=by
 unfold encC encE encD RCm.er
 simp only [List.length_map,List.flatMap_map,encEnt_er,encDel_er]
end Go.Proofs.YtbfdegkickjbpaaGreat
