/-
 PaB
-/
import Derived.Test.YtgfhknnklapldaaGreatDoorBDuO
import Derived.Test.YtgfhknnklapldaaGreatDoorBSt1
import Derived.Lib.AtoiAllCases
namespace Go.Proofs.YtgfhknnklapldaaGreatDoor
open Go.RowKit Go.Lib Go.IntWalk Go.Sort Go.Shelf
def txG:List UInt8→Nat×Option (List UInt8)
 |[]=>(0,none)
 |x::r=>
  if x=39 then
   match r with
   |[]=>(1,some [])
   |y::r'=>if y=39 then ((txG r').1+2,(txG r').2.map (39:: ·)) else (1,some [])
  else if chP x=true then ((txG r).1+1,(txG r).2.map (x:: ·)) else (1,none)
def pText (l:List UInt8) (st:Nat×Bool):ByteArray×Nat×Bool:=
 let s:=spI l st
 if l[s.1]? =some 39 then
  let g:=txG (l.drop (s.1+1))
  match g.2 with
  |some o=>(strB o,s.1+1+g.1,s.2)
  |none=>(⟨#[]⟩,s.1+1+g.1,true)
 else (⟨#[]⟩,s.1,true)
def pFlag (l:List UInt8) (st:Nat×Bool):Bool×Nat×Bool:=
 let t:=tokI l st
 (decide (t.1=[49]),t.2.1,t.2.2|| !(decide (t.1=[48])||decide (t.1=[49])))
def wNull:List UInt8:=[78,85,76,76]
def wTrue:List UInt8:=[84,82,85,69]
def wFalse:List UInt8:=[70,65,76,83,69]
def pVal (l:List UInt8) (st:Nat×Bool):Val×Nat×Bool:=
 if l[st.1]? =some 32∧l[st.1+1]? =some 39 then (⟨2,0,(pText l st).1⟩,(pText l st).2)
 else if (tokI l st).1=wNull then (zeroV,(tokI l st).2)
 else if (tokI l st).1=wTrue then (⟨3,1,⟨#[]⟩⟩,(tokI l st).2)
 else if (tokI l st).1=wFalse then (⟨3,0,⟨#[]⟩⟩,(tokI l st).2)
 else (⟨1,(cnumI l st).1,⟨#[]⟩⟩,(cnumI l st).2)
def pLoop {α:Type} (one:Nat×Bool→α×Nat×Bool):Nat→Nat×Bool→List α×Nat×Bool
 |0,st=>([],st)
 |k+1,st=>if st.2=true then ([],st) else ((one st).1::(pLoop one k (one st).2).1,(pLoop one k (one st).2).2)
def pMany {α:Type} (l:List UInt8) (one:Nat×Bool→α×Nat×Bool) (st:Nat×Bool):List α×Nat×Bool:=
 let n:=cnumI l st
 pLoop one n.1.toNat (n.2.1,n.2.2||decide (n.1<0))
def pExp (l:List UInt8):Nat→Nat×Bool→RE×Nat×Bool
 |0,st=>(.mk 0 0 zeroV ⟨#[]⟩ none 0 [],st.1,true)
 |d+1,st=>
  let a:=cnumI l st
  let b:=cnumI l a.2
  let c:=pVal l b.2
  let t:=pText l c.2
  let r:=pMany l (pExp l d) t.2
  (.mk a.1 b.1 c.1 t.1 none 0 r.1,r.2)
def pCol (l:List UInt8) (st:Nat×Bool):RCol×Nat×Bool:=
 let a:=pText l st
 let b:=cnumI l a.2
 let c:=pFlag l b.2
 (⟨a.1,b.1,c.1⟩,c.2)
def pFor (l:List UInt8) (st:Nat×Bool):RFor×Nat×Bool:=
 let a:=pMany l (cnumI l) st
 let b:=pText l a.2
 (⟨none,0,a.1,b.1⟩,b.2)
def pTab (l:List UInt8) (st:Nat×Bool):RTab×Nat×Bool:=
 let a:=pText l st
 let b:=pMany l (pCol l) a.2
 let c:=pMany l (cnumI l) b.2
 let d:=pMany l (pFor l) c.2
 let e:=pMany l (pExp l 24) d.2
 (⟨a.1,none,0,b.1,none,0,c.1,none,0,d.1,none,0,e.1⟩,e.2)
def pChn (l:List UInt8) (k:Int) (st:Nat×Bool):Chn×Nat×Bool:=
 let a:=pText l st
 let b:=pText l a.2
 let c:=pCol l b.2
 let d:=pVal l c.2
 (⟨k,a.1,b.1,c.1.name,c.1.kind,c.1.null,d.1⟩,d.2)
def tab0:RTab:=⟨⟨#[]⟩,none,0,[],none,0,[],none,0,[],none,0,[]⟩
def chn0:Chn:=⟨0,⟨#[]⟩,⟨#[]⟩,⟨#[]⟩,0,false,zeroV⟩
def pEnt (l:List UInt8) (st:Nat×Bool):REn×Nat×Bool:=
 let a:=cnumI l st
 let b:=pText l a.2
 let c:=cnumI l b.2
 if c.1=0 then (⟨a.1,b.1,(pTab l c.2).1,chn0⟩,(pTab l c.2).2)
 else (⟨a.1,b.1,tab0,(pChn l c.1 c.2).1⟩,(pChn l c.1 c.2).2)
def pPer (l:List UInt8) (st:Nat×Bool):(Int×Int)×Nat×Bool:=
 let a:=cnumI l st
 let b:=cnumI l a.2
 ((a.1,b.1),b.2)
def pVer (l:List UInt8) (st:Nat×Bool):Ver×Nat×Bool:=
 let a:=cnumI l st
 let b:=cnumI l a.2
 let c:=pMany l (pVal l) b.2
 let d:=pPer l c.2
 let e:=pPer l d.2
 let f:=cnumI l e.2
 let g:=cnumI l f.2
 (⟨a.1,b.1,c.1,d.1.1,d.1.2,e.1.1,e.1.2,f.1,g.1⟩,g.2)
def pStm (l:List UInt8) (st:Nat×Bool):Stm×Nat×Bool:=
 let a:=cnumI l st
 let b:=cnumI l a.2
 (⟨a.1,b.1⟩,b.2)
def pHld (l:List UInt8) (st:Nat×Bool):Hld×Nat×Bool:=
 let a:=pText l st
 let b:=pText l a.2
 let c:=pPer l b.2
 let d:=pPer l c.2
 (⟨a.1,b.1,c.1.1,c.1.2,d.1.1,d.1.2⟩,d.2)
def pPol (l:List UInt8) (st:Nat×Bool):Pol×Nat×Bool:=
 let a:=pText l st
 let b:=cnumI l a.2
 (⟨a.1,b.1⟩,b.2)
def pHor (l:List UInt8) (st:Nat×Bool):Hor×Nat×Bool:=
 let a:=pText l st
 let b:=cnumI l a.2
 (⟨a.1,b.1⟩,b.2)
def addVer (x:VP):List RTv→List RTv
 |[]=>[]
 |[t]=>[⟨t.table,t.A,t.C,t.vers++[x]⟩]
 |t::r=>t::addVer x r
def pPart (l:List UInt8) (r:Nat) (c:RSt) (st:Nat×Bool):RSt×Nat×Bool:=
 if r=1 then ({ c with ents:=c.ents++[(pEnt l st).1] },(pEnt l st).2)
 else if r=2 then ({ c with stms:=c.stms++[(pStm l st).1] },(pStm l st).2)
 else if r=3 then ({ c with tabs:=c.tabs++[⟨(pText l st).1,none,0,[]⟩] },(pText l st).2)
 else if r=4 then ({ c with tabs:=addVer (rvP (pVer l st).1) c.tabs },(pVer l st).2)
 else if r=5 then ({ c with pla:=c.pla++[(pHld l st).1] },(pHld l st).2)
 else if r=6 then ({ c with pol:=c.pol++[(pPol l st).1] },(pPol l st).2)
 else if r=7 then ({ c with hor:=c.hor++[(pHor l st).1] },(pHor l st).2)
 else (c,st)
def lessR (r before:Nat):Bool:=decide (r<before)&& !(decide (r=3)&&decide (before=4))
def pBody (l:List UInt8) (before:Nat) (c:RSt):RSt×Nat:=
 let t:=tokI l (0,false)
 let r:=rankV t.1
 if r=4∧before≠3∧before≠4 then (c,0)
 else
  let p:=pPart l r c t.2
  (p.1,if (p.2.2||(decide (p.2.1<l.length)||lessR r before))=true then 0 else r)
def st0_:RSt:=⟨0,0,0,0,none,0,[],none,0,[],none,0,[],none,0,[],none,0,[],none,0,[]⟩
def secS (l:List UInt8) (c:RSt):RSt:= { c with tx:=(sec1 l).1,time:=(sec2 l).1,wall:=(sec3 l).1,next:=(sec4 l).1 }
def cutL:List UInt8→Option (List UInt8×List UInt8)
 |[]=>none
 |x::r=>if x=10 then some ([],r) else (cutL r).map fun p=>(x::p.1,p.2)
theorem cutL_len:∀ {t l r:List UInt8},cutL t=some (l,r)→l.length+r.length+1=t.length
 |[],_,_,h=>by cases h
 |x::t,l,r,h=>by
  unfold cutL at h
  split at h
  ·injection h with h;injection h with h1 h2;subst h1;subst h2;simp
  ·cases hc:cutL t with
   |none=>rw [hc] at h;cases h
   |some p=>
    rw [hc] at h
    injection h with h;injection h with h1 h2
    have:=cutL_len (t:=t) (l:=p.1) (r:=p.2) hc
    subst h1;subst h2
    simp only [List.length_cons]
    omega
def pRun:Nat→List UInt8→Nat→Nat→RSt→RSt×Nat×Int
 |0,_,n,_,_=>(st0_,n,2)
 |f+1,t,n,at_,c=>
  if at_=8 then (if t=[] then (c,0,0) else (st0_,n,3))
  else match cutL t with
   |none=>(st0_,n,2)
   |some (l,r)=>
    if n=1 then (if l=wTitle then pRun f r 2 at_ c else (st0_,n,1))
    else if n=2 then (if secB l=true then pRun f r 3 at_ (secS l c) else (st0_,n,1))
    else if (pBody l at_ c).2=0 then (st0_,n,1)
    else pRun f r (n+1) (pBody l at_ c).2 (pBody l at_ c).1
def pAll (t:List UInt8):RSt×Nat×Int:=pRun (t.length+2) t 1 0 st0_
end Go.Proofs.YtgfhknnklapldaaGreatDoor
namespace Go.Proofs.YtgfhknnklapldaaGreatDoor
open Go.RowKit Go.Lib Go.IntWalk Go.Sort Go.Shelf
abbrev Rdr (α:Type):=List UInt8→Nat×Bool→α×Nat×Bool
def spc (l:List (List UInt8)):List UInt8:=l.flatMap (32:: ·)
theorem spc_nil:spc []=[]:=rfl
theorem spc_cons (a:List UInt8) (l:List (List UInt8)):spc (a::l)=32::(a++spc l):=by simp [spc]
theorem spc_app (a b:List (List UInt8)):spc (a++b)=spc a++spc b:=by simp [spc]
def nxt (suf:List UInt8):Prop:=suf=[]∨∃r,suf=32::r
theorem nxt_spc {l:List (List UInt8)} {suf:List UInt8} (h:nxt suf):nxt (spc l++suf):=by
 cases l with
 |nil=>exact h
 |cons a r=>exact .inr ⟨_,by rw [spc_cons];rfl⟩
structure Bk {α:Type} (one:Rdr α) (it:α→List (List UInt8)) (ok:α→Prop):Prop where
 put:∀x,ok x→∀pre suf,pre≠[]→nxt suf→one (pre++(spc (it x)++suf)) (pre.length,false)=(x,pre.length+(spc (it x)).length,false)
 got:∀l st,0<st.1→st.1≤l.length→(one l st).2.2=false→ok (one l st).1∧st.1≤(one l st).2.1∧(one l st).2.1≤l.length∧l.drop st.1=spc (it (one l st).1)++l.drop (one l st).2.1
 bad:∀l st,st.2=true→(one l st).2.2=true
theorem Bk.was {α:Type} {one:Rdr α} {it:α→List (List UInt8)} {ok:α→Prop} (h:Bk one it ok) {l:List UInt8} {st:Nat×Bool} (hf:(one l st).2.2=false):st.2=false:=by
 cases hb:st.2 with
 |false=>rfl
 |true=>rw [h.bad l st hb] at hf;cases hf
def sq {α β:Type} (A:Rdr α) (B:α→Rdr β):Rdr (α×β):=fun l st=>(((A l st).1,(B (A l st).1 l (A l st).2).1),(B (A l st).1 l (A l st).2).2)
theorem Bk.sq {α β:Type} {A:Rdr α} {B:α→Rdr β} {ia:α→List (List UInt8)} {ib:α→β→List (List UInt8)} {oa:α→Prop} {ob:α→β→Prop}
  (ha:Bk A ia oa) (hb:∀a,Bk (B a) (ib a) (ob a)):Bk (sq A B) (fun p=>ia p.1++ib p.1 p.2) (fun p=>oa p.1∧ob p.1 p.2):=by
 refine ⟨fun x hx pre suf hp hs=>?_,fun l st h0 hl hf=>?_,fun l st hb'=>(hb _).bad _ _ (ha.bad l st hb')⟩
 ·have h1:=ha.put x.1 hx.1 pre (spc (ib x.1 x.2)++suf) hp (nxt_spc hs)
  have h2:=(hb x.1).put x.2 hx.2 (pre++spc (ia x.1)) suf (by simp [hp]) hs
  rw [List.length_append,List.append_assoc] at h2
  unfold Go.Proofs.YtgfhknnklapldaaGreatDoor.sq
  simp only [spc_app,List.append_assoc,List.length_append] at h1 h2 ⊢
  rw [h1]
  simp only
  rw [h2]
  simp only [Nat.add_assoc]
 ·unfold Go.Proofs.YtgfhknnklapldaaGreatDoor.sq at hf ⊢
  simp only at hf ⊢
  obtain ⟨a2,a3,a4,a5⟩:=ha.got l st h0 hl ((hb _).was hf)
  obtain ⟨b2,b3,b4,b5⟩:=(hb _).got l (A l st).2 (by omega) a4 hf
  refine ⟨⟨a2,b2⟩,by omega,b4,?_⟩
  rw [a5,b5,spc_app,List.append_assoc]
theorem Bk.map {α β:Type} {A:Rdr α} {it:α→List (List UInt8)} {ok:α→Prop} (h:Bk A it ok) (f:α→β) (it':β→List (List UInt8)) (ok':β→Prop)
  (hp:∀y,ok' y→∃x,ok x∧it x=it' y∧f x=y) (hg:∀x,ok x→ok' (f x)∧it' (f x)=it x):Bk (fun l st=>(f (A l st).1,(A l st).2)) it' ok':=by
 refine ⟨fun y hy pre suf h1 h2=>?_,fun l st h0 hl hf=>?_,fun l st hb=>h.bad l st hb⟩
 ·obtain ⟨x,hx,e1,e2⟩:=hp y hy
  have:=h.put x hx pre suf h1 h2
  rw [e1] at this
  simp only [this,e2]
 ·obtain ⟨a2,a3,a4,a5⟩:=h.got l st h0 hl hf
  exact ⟨(hg _ a2).1,a3,a4,by rw [(hg _ a2).2];exact a5⟩
/-! the space, the item -/
theorem at_pre (pre r:List UInt8) (x:UInt8):(pre++x::r)[pre.length]? =some x:=by simp
theorem drop_pre (pre r:List UInt8) (x:UInt8):(pre++x::r).drop (pre.length+1)=r:=by
 rw [show pre++x::r=(pre++[x])++r by simp,List.drop_left' (by simp)]
theorem spI_put {pre r:List UInt8} (hp:pre≠[]):spI (pre++32::r) (pre.length,false)=(pre.length+1,false):=by
 unfold spI
 rw [if_neg (by cases pre with|nil=>exact absurd rfl hp|cons _ _=>simp),if_pos (by simp)]
theorem spI_bad {l:List UInt8} {st:Nat×Bool} (h:st.2=true):(spI l st).2=true:=by
 unfold spI
 split
 ·exact h
 ·split
  ·exact h
  ·rfl
theorem spI_got {l:List UInt8} {st:Nat×Bool} (h0:0<st.1) (hf:(spI l st).2=false):l[st.1]? =some 32∧(spI l st).1=st.1+1∧st.2=false:=by
 unfold spI at hf ⊢
 rw [if_neg (by omega)] at hf ⊢
 split at hf
 ·rename_i h;rw [if_pos h];exact ⟨h,rfl,hf⟩
 ·cases hf
theorem drop_at {l:List UInt8} {i:Nat} {x:UInt8} (h:l[i]? =some x):l.drop i=x::l.drop (i+1):=by
 obtain ⟨hl,rfl⟩:=List.getElem?_eq_some_iff.1 h
 exact List.drop_eq_getElem_cons hl
theorem takeW_put {t suf:List UInt8} (ht:∀c∈t,c≠32) (hs:nxt suf):(t++suf).takeWhile (fun x=>x != 32)=t:=by
 induction t with
 |nil=>
  rcases hs with rfl|⟨r,rfl⟩
  ·rfl
  ·rfl
 |cons c r ih=>
  rw [List.cons_append,List.takeWhile_cons,if_pos (by simpa using ht c List.mem_cons_self),ih fun x hx=>ht x (List.mem_cons_of_mem _ hx)]
theorem tokI_put {pre t suf:List UInt8} (hp:pre≠[]) (ht:∀c∈t,c≠32) (hs:nxt suf):tokI (pre++32::(t++suf)) (pre.length,false)=(t,pre.length+1+t.length,false):=by
 unfold tokI itB
 rw [spI_put hp]
 simp only
 rw [drop_pre,takeW_put ht hs]
theorem tokI_bad {l:List UInt8} {st:Nat×Bool} (h:st.2=true):(tokI l st).2.2=true:=spI_bad h
theorem itB_drop (l:List UInt8) (i:Nat):l.drop i=itB l i++l.drop (i+(itB l i).length):=by
 unfold itB
 rw [←List.drop_drop]
 exact (List.prefix_iff_eq_append.1 (List.takeWhile_prefix _)).symm
theorem tokI_got {l:List UInt8} {st:Nat×Bool} (h0:0<st.1) (hf:(tokI l st).2.2=false):st.2=false∧st.1≤(tokI l st).2.1∧l.drop st.1=spc [(tokI l st).1]++l.drop (tokI l st).2.1:=by
 obtain ⟨h1,h2,h3⟩:=spI_got h0 hf
 refine ⟨h3,?_,?_⟩
 ·unfold tokI;simp only;omega
 ·rw [drop_at h1,spc_cons,spc_nil,List.append_nil]
  have:=itB_drop l (spI l st).1
  rw [h2] at this
  rw [List.cons_append]
  congr 1
  unfold tokI
  simp only
  rw [h2]
  exact this
/-! numbers -/
theorem decDigits_digit:∀(u:Nat),∀c∈decDigits u,48≤c.toNat∧c.toNat≤57:=by
 intro u
 induction u using Nat.strongRecOn with
 |_ u ih=>
  intro c hc
  have hd:∀k,k<10→48≤(UInt8.ofNat (48+k)).toNat∧(UInt8.ofNat (48+k)).toNat≤57:=fun k hk=>by
   rw [UInt8.toNat_ofNat_of_lt' (by show 48+k<256;omega)];omega
  rw [decDigits] at hc
  split at hc
  ·rename_i h
   rw [List.mem_singleton] at hc
   subst hc
   exact hd u h
  ·rename_i h
   rcases List.mem_append.1 hc with hc|hc
   ·exact ih _ (by omega) c hc
   ·rw [List.mem_singleton] at hc
    subst hc
    exact hd _ (by omega)
theorem decDigits_ne (u:Nat):decDigits u≠[]:=by
 rw [decDigits];split<;>simp
theorem parse_dec:∀(u:Nat) (r:List UInt8),u<18446744073709551616→parseUint10 0 (decDigits u++r)=parseUint10 u r:=by
 intro u
 induction u using Nat.strongRecOn with
 |_ u ih=>
  intro r hu
  have hd:∀k,k<10→(UInt8.ofNat (48+k)).toNat=48+k:=fun k hk=>UInt8.toNat_ofNat_of_lt' (by show 48+k<256;omega)
  rw [decDigits]
  split
  ·rename_i h
   rw [List.cons_append,List.nil_append,parseUint10,hd u h,if_pos (by omega),if_neg (by omega),if_neg (by omega)]
   congr 1
   omega
  ·rename_i h
   rw [List.append_assoc,ih (u / 10) (by omega) _ (by omega),List.cons_append,List.nil_append,parseUint10,hd _ (by omega),if_pos (by omega),if_neg (by omega),if_neg (by omega)]
   congr 1
   omega
theorem parseMag_dec {u:Nat} (hu:u<18446744073709551616):parseMag (decDigits u)=.ok u:=by
 unfold parseMag
 rw [if_neg (decDigits_ne u)]
 have:=parse_dec u [] hu
 rw [List.append_nil] at this
 rw [this];rfl
theorem atoi_itoa {n:Int} (h1: -9223372036854775808≤n) (h2:n≤9223372036854775807):atoiAll (itoa n)=.ok n:=by
 unfold itoa
 split
 ·rw [atoiAll_minus,parseMag_dec (by omega),signed,if_neg (by omega)]
  congr 1
  omega
 ·obtain ⟨c,r,hcr⟩:∃c r,decDigits n.toNat=c::r:=by
   cases h:decDigits n.toNat with
   |nil=>exact absurd h (decDigits_ne _)
   |cons c r=>exact ⟨c,r,rfl⟩
  have hc:=decDigits_digit n.toNat c (by rw [hcr];exact List.mem_cons_self)
  rw [hcr,atoiAll_plain c r (by omega) (by omega),←hcr,parseMag_dec (by omega),signless,if_neg (by omega)]
  congr 1
  omega
theorem itoa_char {n:Int} {c:UInt8} (h:c∈itoa n):c=45∨(48≤c.toNat∧c.toNat≤57):=by
 unfold itoa at h
 split at h
 ·rcases List.mem_cons.1 h with h|h
  ·exact .inl h
  ·exact .inr (decDigits_digit _ _ h)
 ·exact .inr (decDigits_digit _ _ h)
theorem itoa_nsp {n:Int} {c:UInt8} (h:c∈itoa n):c≠32:=by
 rintro rfl
 rcases itoa_char h with h|h
 ·exact absurd h (by decide)
 ·exact absurd h.1 (by decide)
def i64 (n:Int):Prop:= -9223372036854775808≤n∧n≤9223372036854775807
theorem numV_itoa {n:Int} (h:i64 n):numV (itoa n)=some n:=by
 unfold numV
 rw [atoi_itoa h.1 h.2]
 exact if_pos rfl
theorem numV_some {t:List UInt8} {n:Int} (h:numV t=some n):itoa n=t∧i64 n:=by
 unfold numV at h
 split at h
 ·rename_i v hv
  split at h
  ·rename_i he
   injection h with h
   subst h
   exact ⟨he,atoiAll_bd hv⟩
  ·cases h
 ·cases h
theorem bk_num:Bk cnumI numI i64:=by
 refine ⟨fun n hn pre suf hp hs=>?_,fun l st h0 hl hf=>?_,fun l st hb=>?_⟩
 ·unfold numI
  rw [spc_cons,spc_nil,List.append_nil,List.cons_append]
  unfold cnumI
  rw [tokI_put hp (fun _ h=>itoa_nsp h) hs]
  simp only
  rw [numV_itoa hn]
  simp only [numR,List.length_cons]
  rw [Nat.add_assoc,Nat.add_comm 1]
 ·have hle:=cnumI_le (l:=l) (st:=st) hl
  unfold cnumI at hf hle ⊢
  cases hv:numV (tokI l st).1 with
  |none=>rw [hv] at hf;cases hf
  |some v=>
   rw [hv] at hf hle
   obtain ⟨e,hi⟩:=numV_some hv
   simp only [numR] at hf hle ⊢
   obtain ⟨_,a3,a5⟩:=tokI_got h0 hf
   exact ⟨hi,a3,hle,by unfold numI;rw [e];exact a5⟩
 ·unfold cnumI
  cases numV (tokI l st).1 with
  |none=>rfl
  |some v=>exact tokI_bad hb
/-! strings -/
theorem chP_39:chP 39=true:=by decide
def okS (s:ByteArray):Prop:=∀c∈s.data.toList,chP c=true
theorem txG_put:∀(s suf:List UInt8),(∀c∈s,chP c=true)→(suf=[]∨∃y r,suf=y::r∧y≠39)→txG (qB s++39::suf)=((qB s).length+1,some s)
 |[],suf,_,hs=>by
  show txG (39::suf)=_
  rcases hs with rfl|⟨y,r,rfl,hy⟩
  ·rfl
  ·unfold txG
   rw [if_pos rfl]
   simp only
   rw [if_neg hy];rfl
 |c::r,suf,hc,hs=>by
  have ih:=txG_put r suf (fun x hx=>hc x (List.mem_cons_of_mem _ hx)) hs
  by_cases h:c=39
  ·subst h
   have e:qB (39::r)=39::39::qB r:=rfl
   rw [e,List.cons_append,List.cons_append]
   unfold txG
   simp [ih]
  ·have e:qB (c::r)=c::qB r:=by unfold qB;rw [List.flatMap_cons,if_neg h];rfl
   rw [e,List.cons_append]
   unfold txG
   rw [if_neg h,if_pos (hc c List.mem_cons_self),ih]
   simp
theorem txG_got:∀(n:Nat) (r o:List UInt8),r.length≤n→(txG r).2=some o→r=qB o++39::r.drop (txG r).1∧(∀c∈o,chP c=true)∧(txG r).1≤r.length
 |_,[],o,_,h=>by simp [txG] at h
 |0,_::_,_,hn,_=>absurd hn (by simp)
 |n+1,x::r,o,hn,h=>by
  simp only [List.length_cons] at hn
  unfold txG at h ⊢
  by_cases h39:x=39
  ·subst h39
   rw [if_pos rfl] at h ⊢
   cases r with
   |nil=>
    simp only at h ⊢
    injection h with h
    subst h
    exact ⟨rfl,fun c hc=>(by cases hc),by simp⟩
   |cons y r'=>
    simp only at h ⊢
    by_cases hy:y=39
    ·subst hy
     rw [if_pos rfl] at h ⊢
     obtain ⟨o',ho',rfl⟩:=Option.map_eq_some_iff.1 h
     simp only [List.length_cons] at hn
     obtain ⟨e1,e2,e3⟩:=txG_got n r' o' (by omega) ho'
     refine ⟨?_,?_,?_⟩
     ·show 39::39::r'=39::39::qB o'++_
      simp only [List.cons_append,List.drop_succ_cons]
      rw [←e1]
     ·intro c hc
      rcases List.mem_cons.1 hc with rfl|hc
      ·exact chP_39
      ·exact e2 c hc
     ·simp only [List.length_cons];omega
    ·rw [if_neg hy] at h ⊢
     injection h with h
     subst h
     exact ⟨rfl,fun c hc=>(by cases hc),by simp⟩
  ·rw [if_neg h39] at h ⊢
   by_cases hc:chP x=true
   ·rw [if_pos hc] at h ⊢
    obtain ⟨o',ho',rfl⟩:=Option.map_eq_some_iff.1 h
    obtain ⟨e1,e2,e3⟩:=txG_got n r o' (by omega) ho'
    refine ⟨?_,?_,?_⟩
    ·have e:qB (x::o')=x::qB o':=by unfold qB;rw [List.flatMap_cons,if_neg h39];rfl
     rw [e]
     simp only [List.cons_append,List.drop_succ_cons]
     rw [←e1]
    ·intro c hcc
     rcases List.mem_cons.1 hcc with rfl|hcc
     ·exact hc
     ·exact e2 c hcc
    ·simp only [List.length_cons];omega
   ·rw [if_neg hc] at h
    cases h
theorem bk_text:Bk pText (fun s=>[qS s]) okS:=by
 refine ⟨fun s hs pre suf hp hn=>?_,fun l st h0 hl hf=>?_,fun l st hb=>?_⟩
 ·have e:pre++(spc [qS s]++suf)=pre++32::39::(qB s.data.toList++39::suf):=by
   rw [spc_cons,spc_nil]
   simp [qS,quoteB]
  have hl:(spc [qS s]).length=(qB s.data.toList).length+3:=by
   rw [spc_cons,spc_nil]
   simp [qS,quoteB]
  rw [e,hl]
  unfold pText
  rw [spI_put hp]
  simp only
  have e2:(pre++32::39::(qB s.data.toList++39::suf))=(pre++[32])++39::(qB s.data.toList++39::suf):=by simp
  have el:pre.length+1=(pre++[32]).length:=by simp
  rw [e2,el,at_pre,if_pos rfl,drop_pre,txG_put _ _ hs (by
   rcases hn with rfl|⟨r,rfl⟩
   ·exact .inl rfl
   ·exact .inr ⟨_,_,rfl,by decide⟩)]
  simp only [Prod.mk.injEq,and_true]
  exact ⟨bas_eq (bas_s _),by simp;omega⟩
 ·unfold pText at hf ⊢
  simp only at hf ⊢
  by_cases h39:l[(spI l st).1]? =some 39
  ·rw [if_pos h39] at hf ⊢
   cases hg:(txG (l.drop ((spI l st).1+1))).2 with
   |none=>rw [hg] at hf;cases hf
   |some o=>
    rw [hg] at hf
    simp only at hf ⊢
    obtain ⟨h1,h2,h3⟩:=spI_got h0 hf
    obtain ⟨e1,e2,e3⟩:=txG_got _ _ o (Nat.le_refl _) hg
    rw [List.length_drop] at e3
    have hlt:=(List.getElem?_eq_some_iff.1 h39).1
    refine ⟨fun c hc=>e2 c (by simpa [strB] using hc),by omega,by omega,?_⟩
    rw [h2] at h39 e1 ⊢
    rw [drop_at h1,drop_at h39,spc_cons,spc_nil,show l.drop (st.1+1+1+(txG (l.drop (st.1+1+1))).1)=(l.drop (st.1+1+1)).drop (txG (l.drop (st.1+1+1))).1 from by rw [List.drop_drop]]
    generalize l.drop (st.1+1+1)=r at *
    generalize (txG r).1=m at *
    conv=>lhs;rw [e1]
    simp [qS,quoteB,strB]
  ·rw [if_neg h39] at hf
   cases hf
 ·unfold pText
  simp only
  split
  ·split
   ·exact spI_bad hb
   ·rfl
  ·rfl
/-! flags, values -/
theorem bk_flag:Bk pFlag (fun b=>[flagB b]) (fun _=>True):=by
 refine ⟨fun b _ pre suf hp hs=>?_,fun l st h0 hl hf=>?_,fun l st hb=>?_⟩
 ·rw [spc_cons,spc_nil,List.append_nil,List.cons_append]
  unfold pFlag
  rw [tokI_put hp (by cases b<;>simp [flagB]) hs]
  cases b<;>simp [flagB]
 ·have hle:=tokI_le (l:=l) (st:=st) hl
  unfold pFlag at hf ⊢
  simp only [Bool.or_eq_false_iff] at hf ⊢
  obtain ⟨_,a3,a5⟩:=tokI_got h0 hf.1
  refine ⟨trivial,a3,hle,?_⟩
  rw [a5]
  congr 2
  have h2:=hf.2
  by_cases h1:(tokI l st).1=[49]
  ·rw [h1];rfl
  ·by_cases h0:(tokI l st).1=[48]
   ·rw [h0];rfl
   ·simp [h0,h1] at h2
 ·unfold pFlag
  simp only
  rw [tokI_bad hb,Bool.true_or]
def okVa (v:Val):Prop:=v=zeroV∨(v.kind=1∧i64 v.int∧v.text=⟨#[]⟩)∨(v.kind=2∧v.int=0∧okS v.text)∨(v.kind=3∧(v.int=0∨v.int=1)∧v.text=⟨#[]⟩)
theorem itoa_head {n:Int}:∃c r,itoa n=c::r∧(c=45∨(48≤c.toNat∧c.toNat≤57)):=by
 cases h:itoa n with
 |nil=>
  unfold itoa at h
  split at h
  ·cases h
  ·exact absurd h (decDigits_ne _)
 |cons c r=>exact ⟨c,r,rfl,itoa_char (by rw [h];exact List.mem_cons_self)⟩
theorem itoa_word {n:Int} {x:UInt8} {t:List UInt8} (h1:x≠45) (h2:¬(48≤x.toNat∧x.toNat≤57)):itoa n≠x::t:=by
 obtain ⟨c,r,hc,hh⟩:=itoa_head (n:=n)
 rw [hc]
 intro e
 injection e with e
 subst e
 rcases hh with h|h
 ·exact h1 h
 ·exact h2 h
theorem pVal_word {pre suf t:List UInt8} (hp:pre≠[]) (hs:nxt suf) (ht:∀c∈t,c≠32) (hq:∀r,t≠39::r) (h0:t≠[] ):
  pVal (pre++(spc [t]++suf)) (pre.length,false)=if t=wNull then (zeroV,pre.length+(spc [t]).length,false) else if t=wTrue then (⟨3,1,⟨#[]⟩⟩,pre.length+(spc [t]).length,false) else if t=wFalse then (⟨3,0,⟨#[]⟩⟩,pre.length+(spc [t]).length,false)
   else (⟨1,(numR (numV t) (pre.length+(spc [t]).length,false)).1,⟨#[]⟩⟩,(numR (numV t) (pre.length+(spc [t]).length,false)).2):=by
 have e:pre++(spc [t]++suf)=pre++32::(t++suf):=by rw [spc_cons,spc_nil];simp
 have el:pre.length+(spc [t]).length=pre.length+1+t.length:=by rw [spc_cons,spc_nil];simp;omega
 rw [e,el]
 unfold pVal cnumI
 rw [tokI_put hp ht hs,if_neg]
 rintro ⟨-,h⟩
 simp only at h
 cases t with
 |nil=>exact h0 rfl
 |cons a r=>
  rw [show pre++32::(a::r++suf)=(pre++[32])++a::(r++suf) by simp,show pre.length+1=(pre++[32]).length by simp,at_pre] at h
  injection h with h
  exact hq r (by rw [h])
theorem bk_val:Bk pVal litI okVa:=by
 refine ⟨fun v hv pre suf hp hs=>?_,fun l st h0 hl hf=>?_,fun l st hb=>?_⟩
 ·unfold litI
  rcases hv with rfl|⟨h1,h2,h3⟩|⟨h1,h2,h3⟩|⟨h1,h2,h3⟩
  ·rw [show valB zeroV=wNull from rfl,pVal_word hp hs (by decide) (fun r=>by unfold wNull;simp) (by decide),if_pos rfl]
  ·obtain ⟨k,n,s⟩:=v
   simp only at h1 h2 h3
   subst h1
   subst h3
   have e:valB ⟨1,n,⟨#[]⟩⟩=itoa n:=rfl
   rw [e,pVal_word hp hs (fun _ h=>itoa_nsp h) (fun r=>itoa_word (by decide) (by decide)) (by obtain ⟨c,r,h,_⟩:=itoa_head (n:=n);rw [h];simp),
    if_neg (by unfold wNull;exact itoa_word (by decide) (by decide)),if_neg (by unfold wTrue;exact itoa_word (by decide) (by decide)),if_neg (by unfold wFalse;exact itoa_word (by decide) (by decide)),numV_itoa h2]
   rfl
  ·obtain ⟨k,n,s⟩:=v
   simp only at h1 h2 h3
   subst h1
   subst h2
   have e:valB ⟨2,0,s⟩=qS s:=rfl
   rw [e]
   have h:=bk_text.put s h3 pre suf hp hs
   unfold pVal
   rw [if_pos,h]
   have e:pre++(spc [qS s]++suf)=pre++32::39::(qB s.data.toList++39::suf):=by
    rw [spc_cons,spc_nil]
    simp [qS,quoteB]
   rw [e]
   refine ⟨at_pre _ _ _,?_⟩
   rw [show pre++32::39::(qB s.data.toList++39::suf)=(pre++[32])++39::(qB s.data.toList++39::suf) by simp]
   show ((pre++[32])++39::(qB s.data.toList++39::suf))[pre.length+1]? =_
   rw [show pre.length+1=(pre++[32]).length by simp,at_pre]
  ·obtain ⟨k,n,s⟩:=v
   simp only at h1 h2 h3
   subst h1
   subst h3
   rcases h2 with rfl|rfl
   ·rw [show valB ⟨3,0,⟨#[]⟩⟩=wFalse from rfl,pVal_word hp hs (by decide) (fun r=>by unfold wFalse;simp) (by decide),if_neg (by decide),if_neg (by decide),if_pos rfl]
   ·rw [show valB ⟨3,1,⟨#[]⟩⟩=wTrue from rfl,pVal_word hp hs (by decide) (fun r=>by unfold wTrue;simp) (by decide),if_neg (by decide),if_pos rfl]
 ·have hle:=tokI_le (l:=l) (st:=st) hl
  unfold pVal at hf ⊢
  by_cases hq:l[st.1]? =some 32∧l[st.1+1]? =some 39
  ·rw [if_pos hq] at hf ⊢
   obtain ⟨a2,a3,a4,a5⟩:=bk_text.got l st h0 hl hf
   exact ⟨.inr (.inr (.inl ⟨rfl,rfl,a2⟩)),a3,a4,a5⟩
  ·rw [if_neg hq] at hf ⊢
   by_cases h1:(tokI l st).1=wNull
   ·rw [if_pos h1] at hf ⊢
    obtain ⟨_,a3,a5⟩:=tokI_got h0 hf
    exact ⟨.inl rfl,a3,hle,by rw [a5,h1];rfl⟩
   ·rw [if_neg h1] at hf ⊢
    by_cases h2:(tokI l st).1=wTrue
    ·rw [if_pos h2] at hf ⊢
     obtain ⟨_,a3,a5⟩:=tokI_got h0 hf
     exact ⟨.inr (.inr (.inr ⟨rfl,.inr rfl,rfl⟩)),a3,hle,by rw [a5,h2];rfl⟩
    ·rw [if_neg h2] at hf ⊢
     by_cases h3:(tokI l st).1=wFalse
     ·rw [if_pos h3] at hf ⊢
      obtain ⟨_,a3,a5⟩:=tokI_got h0 hf
      exact ⟨.inr (.inr (.inr ⟨rfl,.inl rfl,rfl⟩)),a3,hle,by rw [a5,h3];rfl⟩
     ·rw [if_neg h3] at hf ⊢
      obtain ⟨a2,a3,a4,a5⟩:=bk_num.got l st h0 hl hf
      exact ⟨.inr (.inl ⟨rfl,a2,rfl⟩),a3,a4,a5⟩
 ·unfold pVal
  split
  ·exact bk_text.bad l st hb
  ·split
   ·exact tokI_bad hb
   ·split
    ·exact tokI_bad hb
    ·split
     ·exact tokI_bad hb
     ·exact bk_num.bad l st hb
/-! lists -/
theorem pLoop_bad {α:Type} {one:Nat×Bool→α×Nat×Bool}:∀(k:Nat) (st:Nat×Bool),st.2=true→pLoop one k st=([],st)
 |0,_,_=>rfl
 |k+1,st,h=>by unfold pLoop;rw [if_pos h]
theorem pLoop_put {α:Type} {one:Rdr α} {it:α→List (List UInt8)} {ok:α→Prop} (h:Bk one it ok):∀(xs:List α),(∀x∈xs,ok x)→∀pre suf,pre≠[]→nxt suf→
  pLoop (one (pre++(spc (xs.flatMap it)++suf))) xs.length (pre.length,false)=(xs,pre.length+(spc (xs.flatMap it)).length,false)
 |[],_,pre,suf,_,_=>rfl
 |x::r,hx,pre,suf,hp,hs=>by
  have h1:=h.put x (hx x List.mem_cons_self) pre (spc (r.flatMap it)++suf) hp (nxt_spc hs)
  have h2:=pLoop_put h r (fun y hy=>hx y (List.mem_cons_of_mem _ hy)) (pre++spc (it x)) suf (by simp [hp]) hs
  rw [List.flatMap_cons,spc_app,List.length_cons]
  rw [List.append_assoc,List.length_append] at h2
  rw [List.append_assoc]
  unfold pLoop
  rw [if_neg (by simp),h1]
  simp only
  rw [h2]
  simp only [List.length_append,Nat.add_assoc]
theorem pLoop_got {α:Type} {one:Rdr α} {it:α→List (List UInt8)} {ok:α→Prop} (h:Bk one it ok) (l:List UInt8):∀(k:Nat) (st:Nat×Bool),0<st.1→st.1≤l.length→(pLoop (one l) k st).2.2=false→
  st.2=false∧(∀x∈(pLoop (one l) k st).1,ok x)∧(pLoop (one l) k st).1.length=k∧st.1≤(pLoop (one l) k st).2.1∧(pLoop (one l) k st).2.1≤l.length∧l.drop st.1=spc ((pLoop (one l) k st).1.flatMap it)++l.drop (pLoop (one l) k st).2.1
 |0,st,_,hl,hf=>⟨hf,fun x hx=>(by cases hx),rfl,Nat.le_refl _,hl,rfl⟩
 |k+1,st,h0,hl,hf=>by
  cases hb:st.2 with
  |true=>rw [pLoop_bad _ _ hb,hb] at hf;cases hf
  |false=>
   unfold pLoop at hf ⊢
   rw [if_neg (by rw [hb];simp)] at hf ⊢
   simp only at hf ⊢
   have hw:(one l st).2.2=false:=by
    cases hc:(one l st).2.2 with
    |false=>rfl
    |true=>rw [pLoop_bad _ _ hc,hc] at hf;cases hf
   obtain ⟨a2,a3,a4,a5⟩:=h.got l st h0 hl hw
   obtain ⟨b1,b2,b3,b4,b5,b6⟩:=pLoop_got h l k (one l st).2 (by omega) a4 hf
   refine ⟨trivial,fun x hx=>?_,by simp [b3],by omega,b5,?_⟩
   ·rcases List.mem_cons.1 hx with rfl|hx
    ·exact a2
    ·exact b2 x hx
   ·rw [a5,b6,List.flatMap_cons,spc_app,List.append_assoc]
def okL {α:Type} (ok:α→Prop) (xs:List α):Prop:=(∀x∈xs,ok x)∧xs.length≤9223372036854775807
theorem Bk.many {α:Type} {one:Rdr α} {it:α→List (List UInt8)} {ok:α→Prop} (h:Bk one it ok):Bk (fun l=>pMany l (one l)) (lstI it) (okL ok):=by
 refine ⟨fun xs hx pre suf hp hs=>?_,fun l st h0 hl hf=>?_,fun l st hb=>?_⟩
 ·have hn:i64 (xs.length:Int):=⟨by omega,by have:=hx.2;omega⟩
  have h1:=bk_num.put (xs.length:Int) hn pre (spc (xs.flatMap it)++suf) hp (nxt_spc hs)
  have h2:=pLoop_put h xs hx.1 (pre++spc (numI (xs.length:Int))) suf (by simp [hp]) hs
  have e:lstI it xs=numI (xs.length:Int)++xs.flatMap it:=rfl
  rw [e,spc_app]
  rw [List.append_assoc,List.length_append] at h2
  rw [List.append_assoc]
  unfold pMany
  rw [h1]
  simp only
  rw [show (false||decide ((xs.length:Int)<0))=false by simp,show ((xs.length:Int)).toNat=xs.length by omega,h2]
  simp only [List.length_append,Nat.add_assoc]
 ·unfold pMany at hf ⊢
  simp only at hf ⊢
  have hb:((cnumI l st).2.2||decide ((cnumI l st).1<0))=false:=by
   cases hc:((cnumI l st).2.2||decide ((cnumI l st).1<0)) with
   |false=>rfl
   |true=>rw [pLoop_bad _ _ hc] at hf;simp only at hf;rw [hc] at hf;cases hf
  rw [Bool.or_eq_false_iff] at hb
  obtain ⟨a2,a3,a4,a5⟩:=bk_num.got l st h0 hl hb.1
  obtain ⟨b1,b2,b3,b4,b5,b6⟩:=pLoop_got h l (cnumI l st).1.toNat ((cnumI l st).2.1,(cnumI l st).2.2||decide ((cnumI l st).1<0)) (by show 0<(cnumI l st).2.1;omega) a4 hf
  have hn:¬(cnumI l st).1<0:=by simpa using hb.2
  refine ⟨⟨b2,by have:=a2.2;omega⟩,by have:(cnumI l st).2.1≤_:=b4;omega,b5,?_⟩
  unfold lstI
  rw [b3,Int.toNat_of_nonneg (by omega),a5]
  simp only at b6
  rw [b6]
  show spc (numI (cnumI l st).1)++_=_
  unfold numI
  rw [←List.append_assoc,←spc_app]
  rfl
 ·unfold pMany
  simp only
  rw [bk_num.bad l st hb,Bool.true_or,pLoop_bad _ _ rfl]
theorem Bk.let2 {α β ω:Type} {A:Rdr α} {B:Rdr β} {ta_:α→List (List UInt8)} {ka_:α→Prop} {tb_:β→List (List UInt8)} {kb_:β→Prop} (ha:Bk A ta_ ka_) (hb:Bk B tb_ kb_) (f:α→β→ω) (it':ω→List (List UInt8)) (ok':ω→Prop)
  (hp:∀y,ok' y→∃a b,(ka_ a∧kb_ b)∧(ta_ a++tb_ b)=it' y∧f a b=y) (hg:∀a b,(ka_ a∧kb_ b)→ok' (f a b)∧it' (f a b)=(ta_ a++tb_ b)):
  Bk (fun l st=>let a:=A l st;let b:=B l a.2;(f a.1 b.1,b.2)) it' ok':=by
 have h:=((ha.sq fun _=>hb)).map (fun p=>f p.1 p.2) it' ok' (fun y hy=>by
  obtain ⟨a,b,h1,h2,h3⟩:=hp y hy
  exact ⟨(a,b),h1,h2,h3⟩) (fun p hq=>by
  obtain ⟨a,b⟩:=p
  exact hg a b hq)
 exact h
theorem Bk.let3 {α β γ ω:Type} {A:Rdr α} {B:Rdr β} {C:Rdr γ} {ta_:α→List (List UInt8)} {ka_:α→Prop} {tb_:β→List (List UInt8)} {kb_:β→Prop} {tc_:γ→List (List UInt8)} {kc_:γ→Prop} (ha:Bk A ta_ ka_) (hb:Bk B tb_ kb_) (hc:Bk C tc_ kc_) (f:α→β→γ→ω) (it':ω→List (List UInt8)) (ok':ω→Prop)
  (hp:∀y,ok' y→∃a b c,(ka_ a∧kb_ b∧kc_ c)∧(ta_ a++(tb_ b++tc_ c))=it' y∧f a b c=y) (hg:∀a b c,(ka_ a∧kb_ b∧kc_ c)→ok' (f a b c)∧it' (f a b c)=(ta_ a++(tb_ b++tc_ c))):
  Bk (fun l st=>let a:=A l st;let b:=B l a.2;let c:=C l b.2;(f a.1 b.1 c.1,c.2)) it' ok':=by
 have h:=((ha.sq fun _=>(hb.sq fun _=>hc))).map (fun p=>f p.1 p.2.1 p.2.2) it' ok' (fun y hy=>by
  obtain ⟨a,b,c,h1,h2,h3⟩:=hp y hy
  exact ⟨(a,b,c),h1,h2,h3⟩) (fun p hq=>by
  obtain ⟨a,b,c⟩:=p
  exact hg a b c hq)
 exact h
theorem Bk.let4 {α β γ δ ω:Type} {A:Rdr α} {B:Rdr β} {C:Rdr γ} {D:Rdr δ} {ta_:α→List (List UInt8)} {ka_:α→Prop} {tb_:β→List (List UInt8)} {kb_:β→Prop} {tc_:γ→List (List UInt8)} {kc_:γ→Prop} {td_:δ→List (List UInt8)} {kd_:δ→Prop} (ha:Bk A ta_ ka_) (hb:Bk B tb_ kb_) (hc:Bk C tc_ kc_) (hd:Bk D td_ kd_) (f:α→β→γ→δ→ω) (it':ω→List (List UInt8)) (ok':ω→Prop)
  (hp:∀y,ok' y→∃a b c d,(ka_ a∧kb_ b∧kc_ c∧kd_ d)∧(ta_ a++(tb_ b++(tc_ c++td_ d)))=it' y∧f a b c d=y) (hg:∀a b c d,(ka_ a∧kb_ b∧kc_ c∧kd_ d)→ok' (f a b c d)∧it' (f a b c d)=(ta_ a++(tb_ b++(tc_ c++td_ d)))):
  Bk (fun l st=>let a:=A l st;let b:=B l a.2;let c:=C l b.2;let d:=D l c.2;(f a.1 b.1 c.1 d.1,d.2)) it' ok':=by
 have h:=((ha.sq fun _=>(hb.sq fun _=>(hc.sq fun _=>hd)))).map (fun p=>f p.1 p.2.1 p.2.2.1 p.2.2.2) it' ok' (fun y hy=>by
  obtain ⟨a,b,c,d,h1,h2,h3⟩:=hp y hy
  exact ⟨(a,b,c,d),h1,h2,h3⟩) (fun p hq=>by
  obtain ⟨a,b,c,d⟩:=p
  exact hg a b c d hq)
 exact h
theorem Bk.let5 {α β γ δ ε ω:Type} {A:Rdr α} {B:Rdr β} {C:Rdr γ} {D:Rdr δ} {E:Rdr ε} {ta_:α→List (List UInt8)} {ka_:α→Prop} {tb_:β→List (List UInt8)} {kb_:β→Prop} {tc_:γ→List (List UInt8)} {kc_:γ→Prop} {td_:δ→List (List UInt8)} {kd_:δ→Prop} {te_:ε→List (List UInt8)} {ke_:ε→Prop} (ha:Bk A ta_ ka_) (hb:Bk B tb_ kb_) (hc:Bk C tc_ kc_) (hd:Bk D td_ kd_) (he:Bk E te_ ke_) (f:α→β→γ→δ→ε→ω) (it':ω→List (List UInt8)) (ok':ω→Prop)
  (hp:∀y,ok' y→∃a b c d e,(ka_ a∧kb_ b∧kc_ c∧kd_ d∧ke_ e)∧(ta_ a++(tb_ b++(tc_ c++(td_ d++te_ e))))=it' y∧f a b c d e=y) (hg:∀a b c d e,(ka_ a∧kb_ b∧kc_ c∧kd_ d∧ke_ e)→ok' (f a b c d e)∧it' (f a b c d e)=(ta_ a++(tb_ b++(tc_ c++(td_ d++te_ e))))):
  Bk (fun l st=>let a:=A l st;let b:=B l a.2;let c:=C l b.2;let d:=D l c.2;let e:=E l d.2;(f a.1 b.1 c.1 d.1 e.1,e.2)) it' ok':=by
 have h:=((ha.sq fun _=>(hb.sq fun _=>(hc.sq fun _=>(hd.sq fun _=>he))))).map (fun p=>f p.1 p.2.1 p.2.2.1 p.2.2.2.1 p.2.2.2.2) it' ok' (fun y hy=>by
  obtain ⟨a,b,c,d,e,h1,h2,h3⟩:=hp y hy
  exact ⟨(a,b,c,d,e),h1,h2,h3⟩) (fun p hq=>by
  obtain ⟨a,b,c,d,e⟩:=p
  exact hg a b c d e hq)
 exact h
theorem Bk.let7 {α β γ δ ε ζ η ω:Type} {A:Rdr α} {B:Rdr β} {C:Rdr γ} {D:Rdr δ} {E:Rdr ε} {M:Rdr ζ} {N:Rdr η} {ta_:α→List (List UInt8)} {ka_:α→Prop} {tb_:β→List (List UInt8)} {kb_:β→Prop} {tc_:γ→List (List UInt8)} {kc_:γ→Prop} {td_:δ→List (List UInt8)} {kd_:δ→Prop} {te_:ε→List (List UInt8)} {ke_:ε→Prop} {tm_:ζ→List (List UInt8)} {km_:ζ→Prop} {tn_:η→List (List UInt8)} {kn_:η→Prop} (ha:Bk A ta_ ka_) (hb:Bk B tb_ kb_) (hc:Bk C tc_ kc_) (hd:Bk D td_ kd_) (he:Bk E te_ ke_) (hm:Bk M tm_ km_) (hn:Bk N tn_ kn_) (f:α→β→γ→δ→ε→ζ→η→ω) (it':ω→List (List UInt8)) (ok':ω→Prop)
  (hp:∀y,ok' y→∃a b c d e m n,(ka_ a∧kb_ b∧kc_ c∧kd_ d∧ke_ e∧km_ m∧kn_ n)∧(ta_ a++(tb_ b++(tc_ c++(td_ d++(te_ e++(tm_ m++tn_ n))))))=it' y∧f a b c d e m n=y) (hg:∀a b c d e m n,(ka_ a∧kb_ b∧kc_ c∧kd_ d∧ke_ e∧km_ m∧kn_ n)→ok' (f a b c d e m n)∧it' (f a b c d e m n)=(ta_ a++(tb_ b++(tc_ c++(td_ d++(te_ e++(tm_ m++tn_ n))))))):
  Bk (fun l st=>let a:=A l st;let b:=B l a.2;let c:=C l b.2;let d:=D l c.2;let e:=E l d.2;let m:=M l e.2;let n:=N l m.2;(f a.1 b.1 c.1 d.1 e.1 m.1 n.1,n.2)) it' ok':=by
 have h:=((ha.sq fun _=>(hb.sq fun _=>(hc.sq fun _=>(hd.sq fun _=>(he.sq fun _=>(hm.sq fun _=>hn))))))).map (fun p=>f p.1 p.2.1 p.2.2.1 p.2.2.2.1 p.2.2.2.2.1 p.2.2.2.2.2.1 p.2.2.2.2.2.2) it' ok' (fun y hy=>by
  obtain ⟨a,b,c,d,e,m,n,h1,h2,h3⟩:=hp y hy
  exact ⟨(a,b,c,d,e,m,n),h1,h2,h3⟩) (fun p hq=>by
  obtain ⟨a,b,c,d,e,m,n⟩:=p
  exact hg a b c d e m n hq)
 exact h
theorem Bk.let4d {α β γ δ ω:Type} {A:Rdr α} {B:Rdr β} {C:Rdr γ} {D:γ→Rdr δ} {ta_:α→List (List UInt8)} {ka_:α→Prop} {tb_:β→List (List UInt8)} {kb_:β→Prop} {tc_:γ→List (List UInt8)} {kc_:γ→Prop} {td_:γ→δ→List (List UInt8)} {kd_:γ→δ→Prop} (ha:Bk A ta_ ka_) (hb:Bk B tb_ kb_) (hc:Bk C tc_ kc_) (hd:∀c,Bk (D c) (td_ c) (kd_ c)) (f:α→β→γ→δ→ω) (it':ω→List (List UInt8)) (ok':ω→Prop)
  (hp:∀y,ok' y→∃a b c d,(ka_ a∧kb_ b∧kc_ c∧kd_ c d)∧(ta_ a++(tb_ b++(tc_ c++td_ c d)))=it' y∧f a b c d=y) (hg:∀a b c d,(ka_ a∧kb_ b∧kc_ c∧kd_ c d)→ok' (f a b c d)∧it' (f a b c d)=(ta_ a++(tb_ b++(tc_ c++td_ c d)))):
  Bk (fun l st=>let a:=A l st;let b:=B l a.2;let c:=C l b.2;let d:=D c.1 l c.2;(f a.1 b.1 c.1 d.1,d.2)) it' ok':=by
 have h:=(ha.sq fun _=>(hb.sq fun _=>(hc.sq fun c=>hd c))).map (fun p=>f p.1 p.2.1 p.2.2.1 p.2.2.2) it' ok' (fun y hy=>by
  obtain ⟨a,b,c,d,h1,h2,h3⟩:=hp y hy
  exact ⟨(a,b,c,d),h1,h2,h3⟩) (fun p hq=>by
  obtain ⟨a,b,c,d⟩:=p
  exact hg a b c d hq)
 exact h
/-! the parts of a state -/
def okE:Nat→RE→Prop
 |0,_=>False
 |d+1,.mk op it v nm A c args=>i64 op∧i64 it∧okVa v∧okS nm∧A=none∧c=0∧okL (okE d) args
theorem bk_exp:∀d,Bk (fun l=>pExp l d) exI (okE d)
 |0=>⟨fun x hx=>hx.elim,fun l st _ _ hf=>(by cases hf),fun l st _=>rfl⟩
 |d+1=>Bk.let5 bk_num bk_num bk_val bk_text (bk_exp d).many (fun a b c t r=>RE.mk a b c t none 0 r) exI (okE (d+1))
  (by
   rintro ⟨op,it,v,nm,A,c,args⟩ ⟨h1,h2,h3,h4,rfl,rfl,h7⟩
   refine ⟨op,it,v,nm,args,⟨h1,h2,h3,h4,h7⟩,?_,rfl⟩
   rw [exI_eq];simp [numI,litI])
  (by
   rintro op it v nm args ⟨h1,h2,h3,h4,h7⟩
   refine ⟨⟨h1,h2,h3,h4,rfl,rfl,h7⟩,?_⟩
   rw [exI_eq];simp [numI,litI])
def okC (x:RCol):Prop:=okS x.name∧i64 x.kind
theorem bk_col:Bk pCol colI okC:=Bk.let3 bk_text bk_num bk_flag (fun a b c=>(⟨a,b,c⟩:RCol)) colI okC
 (by rintro ⟨a,b,c⟩ ⟨h1,h2⟩;exact ⟨a,b,c,⟨h1,h2,trivial⟩,by simp [colI,numI],rfl⟩)
 (by rintro a b c ⟨h1,h2,_⟩;exact ⟨⟨h1,h2⟩,by simp [colI,numI]⟩)
def okF (x:RFor):Prop:=okL i64 x.cols∧okS x.table∧x.cA=none∧x.cc=0
theorem bk_for:Bk pFor forI okF:=Bk.let2 bk_num.many bk_text (fun a b=>(⟨none,0,a,b⟩:RFor)) forI okF
 (by rintro ⟨A,c,a,b⟩ ⟨h1,h2,rfl,rfl⟩;exact ⟨a,b,⟨h1,h2⟩,by simp [forI],rfl⟩)
 (by rintro a b ⟨h1,h2⟩;exact ⟨⟨h1,h2,rfl,rfl⟩,by simp [forI]⟩)
structure okT (t:RTab):Prop where
 name:okS t.name
 cols:okL okC t.cols
 key:okL i64 t.key
 fors:okL okF t.fors
 chks:okL (okE 24) t.chks
 er:t.colA=none∧t.colC=0∧t.keyA=none∧t.keyC=0∧t.forA=none∧t.forC=0∧t.chkA=none∧t.chkC=0
theorem bk_tab:Bk pTab tabI okT:=Bk.let5 bk_text bk_col.many bk_num.many bk_for.many (bk_exp 24).many (fun a b c d e=>(⟨a,none,0,b,none,0,c,none,0,d,none,0,e⟩:RTab)) tabI okT
 (by
  rintro ⟨a,A1,C1,b,A2,C2,c,A3,C3,d,A4,C4,e⟩ ⟨h1,h2,h3,h4,h5,e1,e2,e3,e4,e5,e6,e7,e8⟩
  simp only at h1 h2 h3 h4 h5 e1 e2 e3 e4 e5 e6 e7 e8
  subst e1 e2 e3 e4 e5 e6 e7 e8
  exact ⟨a,b,c,d,e,⟨h1,h2,h3,h4,h5⟩,by simp [tabI],rfl⟩)
 (by rintro a b c d e ⟨h1,h2,h3,h4,h5⟩;exact ⟨⟨h1,h2,h3,h4,h5,rfl,rfl,rfl,rfl,rfl,rfl,rfl,rfl⟩,by simp [tabI]⟩)
structure okCh (k:Int) (x:Chn):Prop where
 kind:x.kind=k
 name:okS x.name
 to:okS x.to
 col:okC ⟨x.cname,x.ckind,x.cnull⟩
 def_:okVa x.def_
theorem bk_chn (k:Int):Bk (fun l=>pChn l k) chnI (okCh k):=Bk.let4 bk_text bk_text bk_col bk_val (fun a b c d=>(⟨k,a,b,c.name,c.kind,c.null,d⟩:Chn)) chnI (okCh k)
 (by rintro ⟨a,b,c,d,e,f,g⟩ ⟨h1,h2,h3,h4,h5⟩;simp only at h1;subst h1;exact ⟨b,c,⟨d,e,f⟩,g,⟨h2,h3,h4,h5⟩,by simp [chnI,litI],rfl⟩)
 (by rintro b c ⟨d,e,f⟩ g ⟨h2,h3,h4,h5⟩;exact ⟨⟨rfl,h2,h3,h4,h5⟩,by simp [chnI,litI]⟩)
def pRest (k:Int):Rdr (RTab×Chn):=fun l st=>if k=0 then (((pTab l st).1,chn0),(pTab l st).2) else ((tab0,(pChn l k st).1),(pChn l k st).2)
def okR (k:Int) (p:RTab×Chn):Prop:=if k=0 then okT p.1∧p.2=chn0 else p.1=tab0∧okCh k p.2
def itR (k:Int) (p:RTab×Chn):List (List UInt8):=if k=0 then tabI p.1 else chnI p.2
theorem bk_rest (k:Int):Bk (pRest k) (itR k) (okR k):=by
 by_cases hk:k=0
 ·have h:=bk_tab.map (fun t=>(t,chn0)) (itR k) (okR k)
   (by
    rintro ⟨t,c⟩ hy
    unfold okR at hy
    rw [if_pos hk] at hy
    obtain ⟨h1,h2⟩:=hy
    simp only at h2
    subst h2
    exact ⟨t,h1,by unfold itR;rw [if_pos hk],rfl⟩)
   (fun t ht=>⟨by unfold okR;rw [if_pos hk];exact ⟨ht,rfl⟩,by unfold itR;rw [if_pos hk]⟩)
  have e:pRest k=fun l st=>(((pTab l st).1,chn0),(pTab l st).2):=by funext l st;unfold pRest;rw [if_pos hk]
  rw [e];exact h
 ·have h:=(bk_chn k).map (fun c=>(tab0,c)) (itR k) (okR k)
   (by
    rintro ⟨t,c⟩ hy
    unfold okR at hy
    rw [if_neg hk] at hy
    obtain ⟨h1,h2⟩:=hy
    simp only at h1
    subst h1
    exact ⟨c,h2,by unfold itR;rw [if_neg hk],rfl⟩)
   (fun c hc=>⟨by unfold okR;rw [if_neg hk];exact ⟨rfl,hc⟩,by unfold itR;rw [if_neg hk]⟩)
  have e:pRest k=fun l st=>((tab0,(pChn l k st).1),(pChn l k st).2):=by funext l st;unfold pRest;rw [if_neg hk]
  rw [e];exact h
structure okEn (x:REn):Prop where
 time:i64 x.time
 table:okS x.table
 kind:i64 x.change.kind
 rest:okR x.change.kind (x.create,x.change)
theorem bk_ent:Bk pEnt (fun x=>(entI x).tail) okEn:=by
 have h:=Bk.let4d bk_num bk_text bk_num bk_rest (fun a b _ p=>(⟨a,b,p.1,p.2⟩:REn)) (fun x=>(entI x).tail) okEn
  (by
   rintro ⟨a,b,t,c⟩ ⟨h1,h2,h3,h4⟩
   refine ⟨a,b,c.kind,(t,c),⟨h1,h2,h3,h4⟩,?_,rfl⟩
   unfold entI itR
   simp [numI])
  (by
   rintro a b k ⟨t,c⟩ ⟨h1,h2,h3,h4⟩
   have hk:c.kind=k:=by
    unfold okR at h4
    split at h4
    ·rename_i h
     have h42:c=chn0:=h4.2
     rw [h42,h];rfl
    ·exact h4.2.kind
   refine ⟨⟨h1,h2,by simp only;rw [hk];exact h3,by simp only;rw [hk];exact h4⟩,?_⟩
   unfold entI itR
   simp [numI,hk])
 have e:pEnt=fun l st=>let a:=cnumI l st;let b:=pText l a.2;let c:=cnumI l b.2;let d:=pRest c.1 l c.2;((⟨a.1,b.1,d.1.1,d.1.2⟩:REn),d.2):=by
  funext l st
  unfold pEnt pRest
  simp only
  by_cases h0:(cnumI l (pText l (cnumI l st).2).2).1=0
  ·rw [if_pos h0,if_pos h0]
  ·rw [if_neg h0,if_neg h0]
 rw [e];exact h
theorem bk_per:Bk pPer (fun p=>[itoa p.1,itoa p.2]) (fun p=>i64 p.1∧i64 p.2):=Bk.let2 bk_num bk_num (fun a b=>(a,b)) _ _
 (by rintro ⟨a,b⟩ h;exact ⟨a,b,h,by simp [numI],rfl⟩) (by rintro a b h;exact ⟨h,by simp [numI]⟩)
structure okVe (x:Ver):Prop where
 id:i64 x.id
 sch:i64 x.sch
 row:okL okVa x.row
 v:i64 x.vf∧i64 x.vt
 s:i64 x.sf∧i64 x.st
 by_:i64 x.by_
 un:i64 x.un
theorem bk_ver:Bk pVer (fun x=>(verI x).tail) okVe:=Bk.let7 bk_num bk_num bk_val.many bk_per bk_per bk_num bk_num
 (fun a b c d e f g=>(⟨a,b,c,d.1,d.2,e.1,e.2,f,g⟩:Ver)) (fun x=>(verI x).tail) okVe
 (by rintro ⟨a,b,c,d,e,f,g,h,i⟩ ⟨h1,h2,h3,h4,h5,h6,h7⟩;exact ⟨a,b,c,(d,e),(f,g),h,i,⟨h1,h2,h3,h4,h5,h6,h7⟩,by simp [verI,numI],rfl⟩)
 (by rintro a b c ⟨d,e⟩ ⟨f,g⟩ h i ⟨h1,h2,h3,h4,h5,h6,h7⟩;exact ⟨⟨h1,h2,h3,h4,h5,h6,h7⟩,by simp [verI,numI]⟩)
theorem bk_stm:Bk pStm (fun x=>(stmI x).tail) (fun x=>i64 x.time∧i64 x.wall):=Bk.let2 bk_num bk_num (fun a b=>(⟨a,b⟩:Stm)) _ _
 (by rintro ⟨a,b⟩ h;exact ⟨a,b,h,by simp [numI,stmI],rfl⟩) (by rintro a b h;exact ⟨h,by simp [numI,stmI]⟩)
structure okH (x:Hld):Prop where
 name:okS x.name
 table:okS x.table
 v:i64 x.vf∧i64 x.vt
 s:i64 x.sf∧i64 x.st
theorem bk_hld:Bk pHld (fun x=>(hldI x).tail) okH:=Bk.let4 bk_text bk_text bk_per bk_per (fun a b c d=>(⟨a,b,c.1,c.2,d.1,d.2⟩:Hld)) (fun x=>(hldI x).tail) okH
 (by rintro ⟨a,b,c,d,e,f⟩ ⟨h1,h2,h3,h4⟩;exact ⟨a,b,(c,d),(e,f),⟨h1,h2,h3,h4⟩,by simp [hldI],rfl⟩)
 (by rintro a b ⟨c,d⟩ ⟨e,f⟩ ⟨h1,h2,h3,h4⟩;exact ⟨⟨h1,h2,h3,h4⟩,by simp [hldI]⟩)
theorem bk_pol:Bk pPol (fun x=>(polI x).tail) (fun x=>okS x.table∧i64 x.keep):=Bk.let2 bk_text bk_num (fun a b=>(⟨a,b⟩:Pol)) _ _
 (by rintro ⟨a,b⟩ h;exact ⟨a,b,h,by simp [numI,polI],rfl⟩) (by rintro a b h;exact ⟨h,by simp [numI,polI]⟩)
theorem bk_hor:Bk pHor (fun x=>(horI x).tail) (fun x=>okS x.table∧i64 x.time):=Bk.let2 bk_text bk_num (fun a b=>(⟨a,b⟩:Hor)) _ _
 (by rintro ⟨a,b⟩ h;exact ⟨a,b,h,by simp [numI,horI],rfl⟩) (by rintro a b h;exact ⟨h,by simp [numI,horI]⟩)
end Go.Proofs.YtgfhknnklapldaaGreatDoor
