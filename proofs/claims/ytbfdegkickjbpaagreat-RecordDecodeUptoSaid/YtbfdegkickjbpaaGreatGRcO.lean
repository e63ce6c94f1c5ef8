/-
 RcO
-/
import Derived.Test.YtbfdegkickjbpaaGreatGRcG
import Derived.Test.YtbfdegkickjbpaaGreatGArg1
namespace Go.Proofs.YtbfdegkickjbpaaGreat
open Go.ChangeShapes Go.WideShapes Go.ChangeAt Go.RowKit Go.Lib Go.Deep
section
variable {H:Type} {enc:TypeId×Value→H} {w:World}
theorem rdE_slice {α:Type} {K:Nat} {en:α→List Value} {F:Nat→Prop} {v:Value} {l:List α} (h:RdE K en w F v l):∃A c,v=.slice A l.length c:=by
 obtain ⟨A,c,rfl,_⟩:=Rd.open_ (show Rd w F K v l.length (l.flatMap en) from h)
 exact ⟨A,c,rfl⟩
instance:Inhabited Int:=⟨0⟩
instance:Inhabited Hld:=⟨⟨⟨#[]⟩,⟨#[]⟩,0,0,0,0⟩⟩
instance:Inhabited Pol:=⟨⟨⟨#[]⟩,0⟩⟩
instance:Inhabited Hor:=⟨⟨⟨#[]⟩,0⟩⟩
instance:Inhabited RF:=⟨⟨none,0,0,[],0,0⟩⟩
instance:Inhabited RDl:=⟨⟨⟨#[]⟩,none,0,[],none,0,[]⟩⟩
instance:Inhabited RCol:=⟨⟨⟨#[]⟩,0,false⟩⟩
instance:Inhabited RFor:=⟨⟨none,0,[],⟨#[]⟩⟩⟩
instance:Inhabited RE:=⟨.mk 0 0 ⟨0,0,⟨#[]⟩⟩ ⟨#[]⟩ none 0 []⟩
instance:Inhabited RTab:=⟨⟨⟨#[]⟩,none,0,[],none,0,[],none,0,[],none,0,[]⟩⟩
instance:Inhabited Chn:=⟨⟨0,⟨#[]⟩,⟨#[]⟩,⟨#[]⟩,0,false,⟨0,0,⟨#[]⟩⟩⟩⟩
instance:Inhabited REn:=⟨⟨0,⟨#[]⟩,default,default⟩⟩
def OpnB {H α:Type} (B:Nat) (enc:TypeId×Value→H) (w:World) (t:TypeId) (R:List Value→α→Prop) (sz:α→Nat):Prop:=
 ∀(fuel:Nat) (cs:List Value) (x:DataW H×List MemPlace),DataW.trod enc Tryz.prog w 0 (fun _=>true) true fuel t cs=some x→Rows.uptoBulk x.1≤B→∃a,R cs a∧sz a≤Rows.uptoBulk x.1
theorem Opn.b {α:Type} {B:Nat} {t:TypeId} {R:List Value→α→Prop} {sz:α→Nat} (h:Opn enc w t R sz):OpnB B enc w t R sz:=fun fuel cs x hx _=>h fuel cs x hx
theorem szL_len {α:Type} {sz:α→Nat} (hs:∀a,1≤sz a) (l:List α):l.length≤szL sz l:=by
 unfold szL
 induction l with
 |nil=>simp
 |cons x r ih=>have:=hs x;simp only [List.length_cons,List.map_cons,List.sum_cons];omega
theorem szL_mem {α:Type} {sz:α→Nat} {l:List α} {x:α} (h:x∈l):sz x≤szL sz l:=by
 unfold szL
 induction l with
 |nil=>cases h
 |cons y r ih=>
  simp only [List.map_cons,List.sum_cons]
  rcases List.mem_cons.1 h with rfl|h
  ·omega
  ·have:=ih h;omega
mutual
def RE.nodes:RE→Nat
 | .mk _ _ _ _ _ _ args=>nodesL args+1
def nodesL:List RE→Nat
 |[]=>0
 |e::r=>e.nodes+nodesL r
end
theorem nodesL_sum (l:List RE):nodesL l=(l.map RE.nodes).sum:=by
 induction l with
 |nil=>simp [nodesL]
 |cons x r ih=>simp only [nodesL,List.map_cons,List.sum_cons,ih]
theorem RE.nodes_pos (e:RE):1≤e.nodes:=by cases e;simp only [RE.nodes];omega
def exAll (w:World) (F:Nat→Prop) (e:RE):Prop:=∀d,exIs d w F e
def RF.sz (f:RF):Nat:=f.row.length+1
def RFor.sz (f:RFor):Nat:=f.cols.length+1
def RDl.sz (d:RDl):Nat:=d.cl.length+szL RF.sz d.ops+1
def RTab.sz (t:RTab):Nat:=t.cols.length+t.key.length+szL RFor.sz t.fors+szL RE.nodes t.chks
def REn.sz (x:REn):Nat:=x.create.sz+1
def Hld.sm (x:Hld):Prop:=x.name.size≤maxLen∧x.table.size≤maxLen
def Pol.sm (x:Pol):Prop:=x.table.size≤maxLen
def Hor.sm (x:Hor):Prop:=x.table.size≤maxLen
def RCol.sm (x:RCol):Prop:=x.name.size≤maxLen
def RFor.sm (x:RFor):Prop:=x.table.size≤maxLen
structure RTab.sm (t:RTab):Prop where
 name:t.name.size≤maxLen
 cols:∀x∈t.cols,x.sm
 fors:∀x∈t.fors,x.sm
structure Chn.sm (x:Chn):Prop where
 name:x.name.size≤maxLen
 to:x.to.size≤maxLen
 cname:x.cname.size≤maxLen
structure REn.sm (x:REn):Prop where
 table:x.table.size≤maxLen
 create:x.create.sm
 change:x.change.sm
def RDl.sm (x:RDl):Prop:=x.name.size≤maxLen
structure RCm.lim (w:World) (c:RCm):Prop where
 ents:c.ents.length≤1048576
 dels:c.dels.length≤1048576
 pla:c.pla.length≤1048576
 rel:c.rel.length≤1048576
 pol:c.pol.length≤1048576
 hor:c.hor.length≤1048576
 rows:∀d∈c.dels,∀f∈d.ops,f.row.length≤1048576
 exps:∀x∈c.ents,∀e∈x.create.chks,exAll w (·<w.heap.size) e∧e.nodes≤1048576
 entS:∀x∈c.ents,x.sm
 delS:∀x∈c.dels,x.sm
 plaS:∀x∈c.pla,x.sm
 relS:∀x∈c.rel,x.size≤maxLen
 polS:∀x∈c.pol,x.sm
 horS:∀x∈c.hor,x.sm
 entZ:szL REn.sz c.ents≤1048576
 delZ:szL RDl.sz c.dels≤1048576
theorem RDl.sz_few {d:RDl} {n:Nat} (h:d.sz≤n):d.cl.length≤n∧d.ops.length≤n∧∀f∈d.ops,f.row.length≤n:=by
 unfold RDl.sz at h
 have h1:=szL_len (sz:=RF.sz) (fun a=>by unfold RF.sz;omega) d.ops
 refine ⟨by omega,by omega,fun f hf=>?_⟩
 have h2:=szL_mem (sz:=RF.sz) hf
 have h3:f.row.length≤RF.sz f:=by unfold RF.sz;omega
 omega
theorem REn.sz_few {x:REn} {n:Nat} (h:x.sz≤n):(x.create.cols.length≤n∧x.create.key.length≤n∧x.create.fors.length≤n∧x.create.chks.length≤n)∧∀e∈x.create.chks,e.nodes≤n:=by
 unfold REn.sz RTab.sz at h
 have h1:=szL_len (sz:=RFor.sz) (fun a=>by unfold RFor.sz;omega) x.create.fors
 have h2:=szL_len (sz:=RE.nodes) RE.nodes_pos x.create.chks
 refine ⟨⟨by omega,by omega,by omega,by omega⟩,fun e he=>?_⟩
 have h3:=szL_mem (sz:=RE.nodes) he
 omega
end
end Go.Proofs.YtbfdegkickjbpaaGreat
