/-
 DcA
-/
import Derived.Test.YtbfdegkickjbpaaGreatHSmA
import Derived.Test.YtbfdegkickjbpaaGreatHSrc1
namespace Go.Proofs.YtbfdegkickjbpaaGreat
open Go.RowKit Go.Lib Go.IntWalk Go.Sort Go.Shelf
def RF.er (p:RF):RF:=⟨none,0,0,p.row,p.vf,p.vt⟩
def RFor.er (x:RFor):RFor:=⟨none,0,x.cols,x.table⟩
mutual
def RE.er:RE→RE
 | .mk op it v nm _ _ args=>.mk op it v nm none 0 (ersX args)
def ersX:List RE→List RE
 |[]=>[]
 |x::r=>x.er::ersX r
end
theorem ersX_eq:∀l:List RE,ersX l=l.map RE.er
 |[]=>by simp only [ersX,List.map_nil]
 |x::r=>by simp only [ersX,List.map_cons,ersX_eq r]
theorem RE.er_mk (op it:Int) (v:Val) (nm:ByteArray) (A:Option Addr) (c:Nat) (args:List RE):(RE.mk op it v nm A c args).er=.mk op it v nm none 0 (args.map RE.er):=by
 simp only [RE.er,ersX_eq]
def RTab.er (t:RTab):RTab:=⟨t.name,none,0,t.cols,none,0,t.key,none,0,t.fors.map RFor.er,none,0,t.chks.map RE.er⟩
def REn.er (x:REn):REn:=⟨x.time,x.table,x.create.er,x.change⟩
def RDl.er (d:RDl):RDl:=⟨d.name,none,0,d.cl,none,0,d.ops.map RF.er⟩
def RCm.er (c:RCm):RCm:=⟨c.tx,c.time,c.wall,c.first,none,0,c.ents.map REn.er,none,0,c.dels.map RDl.er,none,0,c.pla,none,0,c.rel,none,0,c.pol,none,0,c.hor⟩
abbrev rdT (l:List UInt8):Int×Int→ByteArray×Int×Int:=rdS (fun k=>(strB (decT l k 200).1,(decT l k 200).2)) ⟨#[]⟩
abbrev rdV (l:List UInt8):Int×Int→Val×Int×Int:=rdS (decV l) zeroV
def rdBool (l:List UInt8) (s:Int×Int):Bool×Int×Int:=
 if (rdI l s).2.2=0∧(rdI l s).1≠0∧(rdI l s).1≠1 then (false,(rdI l s).2.1,1) else (decide ((rdI l s).1=1),(rdI l s).2)
def rdL {α:Type} (l:List UInt8) (one:Int×Int→α×Int×Int) (s:Int×Int):List α×Int×Int:=
 if (rdI l s).2.2=0∧(rdI l s).1<0 then ([],(rdI l s).2.1,1) else getS one (rdI l s).1.toNat (rdI l s).2
def rdCol (l:List UInt8) (s:Int×Int):RCol×Int×Int:=
 let a:=rdT l s
 let b:=rdI l a.2
 let c:=rdBool l b.2
 (⟨a.1,b.1,c.1⟩,c.2)
def rdFor (l:List UInt8) (s:Int×Int):RFor×Int×Int:=
 let a:=rdL l (rdI l) s
 let b:=rdT l a.2
 (⟨none,0,a.1,b.1⟩,b.2)
def rdX (l:List UInt8):Nat→Int×Int→RE×Int×Int
 |0,s=>(.mk 0 0 zeroV ⟨#[]⟩ none 0 [],s.1,26)
 |d+1,s=>
  let a:=rdI l s
  let b:=rdI l a.2
  let c:=rdV l b.2
  let t:=rdT l c.2
  let r:=rdL l (rdX l d) t.2
  (.mk a.1 b.1 c.1 t.1 none 0 r.1,r.2)
def rdTab (l:List UInt8) (s:Int×Int):RTab×Int×Int:=
 let a:=rdT l s
 let b:=rdL l (rdCol l) a.2
 let c:=rdL l (rdI l) b.2
 let d:=rdL l (rdFor l) c.2
 let e:=rdL l (rdX l 24) d.2
 (⟨a.1,none,0,b.1,none,0,c.1,none,0,d.1,none,0,e.1⟩,e.2)
def RTab.none_:RTab:=⟨⟨#[]⟩,none,0,[],none,0,[],none,0,[],none,0,[]⟩
def rdChn (l:List UInt8) (k:Int) (s:Int×Int):Chn×Int×Int:=
 let a:=rdT l s
 let b:=rdT l a.2
 let c:=rdCol l b.2
 let d:=rdV l c.2
 (⟨k,a.1,b.1,c.1.name,c.1.kind,c.1.null,d.1⟩,d.2)
def rdEnt (l:List UInt8) (s:Int×Int):REn×Int×Int:=
 let a:=rdI l s
 let b:=rdT l a.2
 let c:=rdI l b.2
 if c.1=0 then (⟨a.1,b.1,(rdTab l c.2).1,⟨0,⟨#[]⟩,⟨#[]⟩,⟨#[]⟩,0,false,zeroV⟩⟩,(rdTab l c.2).2)
 else (⟨a.1,b.1,RTab.none_,(rdChn l c.1 c.2).1⟩,(rdChn l c.1 c.2).2)
def rdFct (l:List UInt8) (s:Int×Int):RF×Int×Int:=
 let a:=rdR l s
 let b:=rdP l a.2
 (⟨none,0,0,a.1,b.1.1,b.1.2⟩,b.2)
def rdDel (l:List UInt8) (s:Int×Int):RDl×Int×Int:=
 let a:=rdT l s
 let b:=rdL l (rdI l) a.2
 let c:=rdL l (rdFct l) b.2
 (⟨a.1,none,0,b.1,none,0,c.1⟩,c.2)
def rdHld (l:List UInt8) (s:Int×Int):Hld×Int×Int:=
 let a:=rdT l s
 let b:=rdT l a.2
 let c:=rdP l b.2
 let d:=rdP l c.2
 (⟨a.1,b.1,c.1.1,c.1.2,d.1.1,d.1.2⟩,d.2)
def rdPol (l:List UInt8) (s:Int×Int):Pol×Int×Int:=
 let a:=rdT l s
 let b:=rdI l a.2
 (⟨a.1,b.1⟩,b.2)
def rdHor (l:List UInt8) (s:Int×Int):Hor×Int×Int:=
 let a:=rdT l s
 let b:=rdI l a.2
 (⟨a.1,b.1⟩,b.2)
def rdCm (l:List UInt8) (s:Int×Int):RCm×Int×Int:=
 let a:=rdI l s
 let b:=rdI l a.2
 let c:=rdI l b.2
 let d:=rdI l c.2
 let e:=rdL l (rdEnt l) d.2
 let f:=rdL l (rdDel l) e.2
 let g:=rdL l (rdHld l) f.2
 let h:=rdL l (rdT l) g.2
 let i:=rdL l (rdPol l) h.2
 let j:=rdL l (rdHor l) i.2
 (⟨a.1,b.1,c.1,d.1,none,0,e.1,none,0,f.1,none,0,g.1,none,0,h.1,none,0,i.1,none,0,j.1⟩,j.2)
def RCm.none_:RCm:=⟨0,0,0,0,none,0,[],none,0,[],none,0,[],none,0,[],none,0,[],none,0,[]⟩
def decCm (l:List UInt8):RCm×Int:=
 if 1048576<l.length then (RCm.none_,5)
 else if endE (rdCm l (0,0)).2 l.length≠0 then (RCm.none_,endE (rdCm l (0,0)).2 l.length)
 else if checkF (rdCm l (0,0)).1≠0 then (RCm.none_,checkF (rdCm l (0,0)).1)
 else ((rdCm l (0,0)).1,0)
end Go.Proofs.YtbfdegkickjbpaaGreat
