/-
 PaA
-/
import Derived.Test.YtgfhknnklapldaaGreatDoorQDuO
import Derived.Test.YtgfhknnklapldaaGreatDoorQSt1
namespace Go.Proofs.YtgfhknnklapldaaGreatDoor
open Go.RowKit Go.Lib Go.IntWalk Go.Sort Go.Shelf
def txG:List UInt8→Nat×Option (List UInt8)
 |[]=>(0,none)
 |x::r=>
  if x=39 then
   match r with
   |[]=>(1,some [])
   |y::r'=>if y=39 then ((txG r').1+2,(txG r').2.map (39:: ·)) else (1,some [])
  else if chP x=true then ((txG r).1+1,(txG r).2.map (x:: ·)) else (1,none)
def pText (l:List UInt8) (st:Nat×Bool):ByteArray×Nat×Bool:=
 let s:=spI l st
 if l[s.1]? =some 39 then
  let g:=txG (l.drop (s.1+1))
  match g.2 with
  |some o=>(strB o,s.1+1+g.1,s.2)
  |none=>(⟨#[]⟩,s.1+1+g.1,true)
 else (⟨#[]⟩,s.1,true)
def pFlag (l:List UInt8) (st:Nat×Bool):Bool×Nat×Bool:=
 let t:=tokI l st
 (decide (t.1=[49]),t.2.1,t.2.2|| !(decide (t.1=[48])||decide (t.1=[49])))
def wNull:List UInt8:=[78,85,76,76]
def wTrue:List UInt8:=[84,82,85,69]
def wFalse:List UInt8:=[70,65,76,83,69]
def pVal (l:List UInt8) (st:Nat×Bool):Val×Nat×Bool:=
 if l[st.1]? =some 32∧l[st.1+1]? =some 39 then (⟨2,0,(pText l st).1⟩,(pText l st).2)
 else if (tokI l st).1=wNull then (zeroV,(tokI l st).2)
 else if (tokI l st).1=wTrue then (⟨3,1,⟨#[]⟩⟩,(tokI l st).2)
 else if (tokI l st).1=wFalse then (⟨3,0,⟨#[]⟩⟩,(tokI l st).2)
 else (⟨1,(cnumI l st).1,⟨#[]⟩⟩,(cnumI l st).2)
def pLoop {α:Type} (one:Nat×Bool→α×Nat×Bool):Nat→Nat×Bool→List α×Nat×Bool
 |0,st=>([],st)
 |k+1,st=>if st.2=true then ([],st) else ((one st).1::(pLoop one k (one st).2).1,(pLoop one k (one st).2).2)
def pMany {α:Type} (l:List UInt8) (one:Nat×Bool→α×Nat×Bool) (st:Nat×Bool):List α×Nat×Bool:=
 let n:=cnumI l st
 pLoop one n.1.toNat (n.2.1,n.2.2||decide (n.1<0))
def pExp (l:List UInt8):Nat→Nat×Bool→RE×Nat×Bool
 |0,st=>(.mk 0 0 zeroV ⟨#[]⟩ none 0 [],st.1,true)
 |d+1,st=>
  let a:=cnumI l st
  let b:=cnumI l a.2
  let c:=pVal l b.2
  let t:=pText l c.2
  let r:=pMany l (pExp l d) t.2
  (.mk a.1 b.1 c.1 t.1 none 0 r.1,r.2)
def pCol (l:List UInt8) (st:Nat×Bool):RCol×Nat×Bool:=
 let a:=pText l st
 let b:=cnumI l a.2
 let c:=pFlag l b.2
 (⟨a.1,b.1,c.1⟩,c.2)
def pFor (l:List UInt8) (st:Nat×Bool):RFor×Nat×Bool:=
 let a:=pMany l (cnumI l) st
 let b:=pText l a.2
 (⟨none,0,a.1,b.1⟩,b.2)
def pTab (l:List UInt8) (st:Nat×Bool):RTab×Nat×Bool:=
 let a:=pText l st
 let b:=pMany l (pCol l) a.2
 let c:=pMany l (cnumI l) b.2
 let d:=pMany l (pFor l) c.2
 let e:=pMany l (pExp l 24) d.2
 (⟨a.1,none,0,b.1,none,0,c.1,none,0,d.1,none,0,e.1⟩,e.2)
def pChn (l:List UInt8) (k:Int) (st:Nat×Bool):Chn×Nat×Bool:=
 let a:=pText l st
 let b:=pText l a.2
 let c:=pCol l b.2
 let d:=pVal l c.2
 (⟨k,a.1,b.1,c.1.name,c.1.kind,c.1.null,d.1⟩,d.2)
def tab0:RTab:=⟨⟨#[]⟩,none,0,[],none,0,[],none,0,[],none,0,[]⟩
def chn0:Chn:=⟨0,⟨#[]⟩,⟨#[]⟩,⟨#[]⟩,0,false,zeroV⟩
def pEnt (l:List UInt8) (st:Nat×Bool):REn×Nat×Bool:=
 let a:=cnumI l st
 let b:=pText l a.2
 let c:=cnumI l b.2
 if c.1=0 then (⟨a.1,b.1,(pTab l c.2).1,chn0⟩,(pTab l c.2).2)
 else (⟨a.1,b.1,tab0,(pChn l c.1 c.2).1⟩,(pChn l c.1 c.2).2)
def pPer (l:List UInt8) (st:Nat×Bool):(Int×Int)×Nat×Bool:=
 let a:=cnumI l st
 let b:=cnumI l a.2
 ((a.1,b.1),b.2)
def pVer (l:List UInt8) (st:Nat×Bool):Ver×Nat×Bool:=
 let a:=cnumI l st
 let b:=cnumI l a.2
 let c:=pMany l (pVal l) b.2
 let d:=pPer l c.2
 let e:=pPer l d.2
 let f:=cnumI l e.2
 let g:=cnumI l f.2
 (⟨a.1,b.1,c.1,d.1.1,d.1.2,e.1.1,e.1.2,f.1,g.1⟩,g.2)
def pStm (l:List UInt8) (st:Nat×Bool):Stm×Nat×Bool:=
 let a:=cnumI l st
 let b:=cnumI l a.2
 (⟨a.1,b.1⟩,b.2)
def pHld (l:List UInt8) (st:Nat×Bool):Hld×Nat×Bool:=
 let a:=pText l st
 let b:=pText l a.2
 let c:=pPer l b.2
 let d:=pPer l c.2
 (⟨a.1,b.1,c.1.1,c.1.2,d.1.1,d.1.2⟩,d.2)
def pPol (l:List UInt8) (st:Nat×Bool):Pol×Nat×Bool:=
 let a:=pText l st
 let b:=cnumI l a.2
 (⟨a.1,b.1⟩,b.2)
def pHor (l:List UInt8) (st:Nat×Bool):Hor×Nat×Bool:=
 let a:=pText l st
 let b:=cnumI l a.2
 (⟨a.1,b.1⟩,b.2)
def addVer (x:VP):List RTv→List RTv
 |[]=>[]
 |[t]=>[⟨t.table,t.A,t.C,t.vers++[x]⟩]
 |t::r=>t::addVer x r
def pPart (l:List UInt8) (r:Nat) (c:RSt) (st:Nat×Bool):RSt×Nat×Bool:=
 if r=1 then ({ c with ents:=c.ents++[(pEnt l st).1] },(pEnt l st).2)
 else if r=2 then ({ c with stms:=c.stms++[(pStm l st).1] },(pStm l st).2)
 else if r=3 then ({ c with tabs:=c.tabs++[⟨(pText l st).1,none,0,[]⟩] },(pText l st).2)
 else if r=4 then ({ c with tabs:=addVer (rvP (pVer l st).1) c.tabs },(pVer l st).2)
 else if r=5 then ({ c with pla:=c.pla++[(pHld l st).1] },(pHld l st).2)
 else if r=6 then ({ c with pol:=c.pol++[(pPol l st).1] },(pPol l st).2)
 else if r=7 then ({ c with hor:=c.hor++[(pHor l st).1] },(pHor l st).2)
 else (c,st)
def lessR (r before:Nat):Bool:=decide (r<before)&& !(decide (r=3)&&decide (before=4))
def pBody (l:List UInt8) (before:Nat) (c:RSt):RSt×Nat:=
 let t:=tokI l (0,false)
 let r:=rankV t.1
 if r=4∧before≠3∧before≠4 then (c,0)
 else
  let p:=pPart l r c t.2
  (p.1,if (p.2.2||(decide (p.2.1<l.length)||lessR r before))=true then 0 else r)
def st0_:RSt:=⟨0,0,0,0,none,0,[],none,0,[],none,0,[],none,0,[],none,0,[],none,0,[]⟩
def secS (l:List UInt8) (c:RSt):RSt:= { c with tx:=(sec1 l).1,time:=(sec2 l).1,wall:=(sec3 l).1,next:=(sec4 l).1 }
def cutL:List UInt8→Option (List UInt8×List UInt8)
 |[]=>none
 |x::r=>if x=10 then some ([],r) else (cutL r).map fun p=>(x::p.1,p.2)
theorem cutL_len:∀ {t l r:List UInt8},cutL t=some (l,r)→l.length+r.length+1=t.length
 |[],_,_,h=>by cases h
 |x::t,l,r,h=>by
  unfold cutL at h
  split at h
  ·injection h with h;injection h with h1 h2;subst h1;subst h2;simp
  ·cases hc:cutL t with
   |none=>rw [hc] at h;cases h
   |some p=>
    rw [hc] at h
    injection h with h;injection h with h1 h2
    have:=cutL_len (t:=t) (l:=p.1) (r:=p.2) hc
    subst h1;subst h2
    simp only [List.length_cons]
    omega
def pRun:Nat→List UInt8→Nat→Nat→RSt→RSt×Nat×Int
 |0,_,n,_,_=>(st0_,n,2)
 |f+1,t,n,at_,c=>
  if at_=8 then (if t=[] then (c,0,0) else (st0_,n,3))
  else match cutL t with
   |none=>(st0_,n,2)
   |some (l,r)=>
    if n=1 then (if l=wTitle then pRun f r 2 at_ c else (st0_,n,1))
    else if n=2 then (if secB l=true then pRun f r 3 at_ (secS l c) else (st0_,n,1))
    else if (pBody l at_ c).2=0 then (st0_,n,1)
    else pRun f r (n+1) (pBody l at_ c).2 (pBody l at_ c).1
def pAll (t:List UInt8):RSt×Nat×Int:=pRun (t.length+2) t 1 0 st0_
end Go.Proofs.YtgfhknnklapldaaGreatDoor
