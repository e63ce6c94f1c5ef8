/-
 RcO
-/
import Derived.Test.YtbfdegkickjbpaaGreatHRcG
import Derived.Test.YtbfdegkickjbpaaGreatHArg1
namespace Go.Proofs.YtbfdegkickjbpaaGreat
set_option maxRecDepth 1000000
set_option maxHeartbeats 32000000
open Go.ChangeShapes Go.WideShapes Go.ChangeAt Go.RowKit Go.Lib Go.Deep
theorem zq14 {P:Prop} (i:Nat) (h:Tg i→P:=by
 intro zT14
 intro fuel cs x h hB
 first
  |guard_hyp zT14:Tg 1
   obtain ⟨hl,n,xs,hxl,hb,hf⟩:=opn_fields Tryz.underlying47 h
   rw [show Tryz.prog.cellsOf 47 =10 from by kernel_rfl] at hl
  |obtain ⟨hl,n,xs,hxl,hb,hf⟩:=opn_fields Tryz.underlying29 h
   rw [show Tryz.prog.cellsOf 29 =10 from by kernel_rfl] at hl
 match cs,hl with
 |[c0,c1,c2,c3,c4,c5,c6,c7,c8,c9],_=>
 match xs,hxl with
 |[y0,y1,y2,y3,y4,y5,y6,y7,y8,y9],_=>
 simp only [List.map_cons,List.map_nil,Rows.uptoBulkAll] at hb
 have h0:=hf 0 _ rfl
 have h1:=hf 1 _ rfl
 have h2:=hf 2 _ rfl
 have h3:=hf 3 _ rfl
 have h4:=hf 4 _ rfl
 have h5:=hf 5 _ rfl
 have h6:=hf 6 _ rfl
 have h7:=hf 7 _ rfl
 have h8:=hf 8 _ rfl
 have h9:=hf 9 _ rfl
 obtain ⟨a,⟨e0,_⟩,_⟩:=opn_int Tryz.underlying3 _ _ _ h0
 have e0':[c0]=[.int .i64 a]:=e0
 obtain ⟨b,⟨e1,_⟩,_⟩:=opn_int Tryz.underlying3 _ _ _ h1
 have e1':[c1]=[.int .i64 b]:=e1
 obtain ⟨c,⟨e2,_⟩,_⟩:=opn_int Tryz.underlying3 _ _ _ h2
 have e2':[c2]=[.int .i64 c]:=e2
 obtain ⟨d,⟨e3,_⟩,_⟩:=opn_int Tryz.underlying3 _ _ _ h3
 have e3':[c3]=[.int .i64 d]:=e3
 obtain ⟨ents,⟨v4,e4,r4⟩,s4⟩:=opn_listB (c:=16) (B:=B) Tryz.underlying22 (by kernel_rfl) opn_en (by omega) _ _ _ h4 (by omega)
 have e4':[c4]=[v4]:=e4
 first
  |guard_hyp zT14:Tg 1
   obtain ⟨stms,⟨v5,e5,r5⟩,s5⟩:=opn_listB (c:=2) (B:=B) Tryz.underlying44 (by kernel_rfl) opn_stm (by omega) _ _ _ h5 (by omega)
  |obtain ⟨dels,⟨v5,e5,r5⟩,s5⟩:=opn_listB (c:=3) (B:=B) Tryz.underlying23 (by kernel_rfl) opn_delta (by omega) _ _ _ h5 (by omega)
 have e5':[c5]=[v5]:=e5
 first
  |guard_hyp zT14:Tg 1
   obtain ⟨tabs,⟨v6,e6,r6⟩,s6⟩:=opn_listB (c:=2) (B:=B) Tryz.underlying45 (by kernel_rfl) opn_tv (by omega) _ _ _ h6 (by omega)
  |obtain ⟨pla,⟨v6,e6,r6⟩,s6⟩:=opn_listB (c:=6) (B:=B) Tryz.underlying24 (by kernel_rfl) opn_hold (by omega) _ _ _ h6 (by omega)
 have e6':[c6]=[v6]:=e6
 first
  |guard_hyp zT14:Tg 1
   obtain ⟨pla,⟨v7,e7,r7⟩,s7⟩:=opn_listB (c:=6) (B:=B) Tryz.underlying24 (by kernel_rfl) opn_hold (by omega) _ _ _ h7 (by omega)
  |obtain ⟨rel,⟨v7,e7,r7⟩,s7⟩:=opn_listB (c:=1) (B:=B) Tryz.underlying25 (by kernel_rfl) opn_strE (by omega) _ _ _ h7 (by omega)
 have e7':[c7]=[v7]:=e7
 obtain ⟨pol,⟨v8,e8,r8⟩,s8⟩:=opn_listB (c:=2) (B:=B) Tryz.underlying26 (by kernel_rfl) opn_pol (by omega) _ _ _ h8 (by omega)
 have e8':[c8]=[v8]:=e8
 obtain ⟨hor,⟨v9,e9,r9⟩,s9⟩:=opn_listB (c:=2) (B:=B) Tryz.underlying27 (by kernel_rfl) opn_hor (by omega) _ _ _ h9 (by omega)
 have e9':[c9]=[v9]:=e9
 simp only [List.cons.injEq,and_true] at e0' e1' e2' e3' e4' e5' e6' e7' e8' e9'
 subst e0'
 subst e1'
 subst e2'
 subst e3'
 subst e4'
 subst e5'
 subst e6'
 subst e7'
 subst e8'
 subst e9'
 obtain ⟨hr4,hi4⟩:=rdE_of r4
 obtain ⟨A4,q4,rfl⟩:=rdE_slice hr4
 have z4:=szL_len (sz:=REn.sz) (fun a=>by unfold REn.sz;omega) ents
 obtain ⟨hr5,hi5⟩:=rdE_of r5
 obtain ⟨A5,q5,rfl⟩:=rdE_slice hr5
 first
  |guard_hyp zT14:Tg 1
   have z5:=szL_len (sz:=(fun _:Stm=>1)) (fun a=>by exact Nat.le_refl _) stms
  |have z5:=szL_len (sz:=RDl.sz) (fun a=>by unfold RDl.sz;omega) dels
 obtain ⟨hr6,hi6⟩:=rdE_of r6
 obtain ⟨A6,q6,rfl⟩:=rdE_slice hr6
 first
  |guard_hyp zT14:Tg 1
   have z6:=szL_len (sz:=RTv.sz) (fun a=>by unfold RTv.sz;omega) tabs
  |have z6:=szL_len (sz:=(fun _:Hld=>1)) (fun a=>by exact Nat.le_refl _) pla
 obtain ⟨hr7,hi7⟩:=rdE_of r7
 obtain ⟨A7,q7,rfl⟩:=rdE_slice hr7
 first
  |guard_hyp zT14:Tg 1
   have z7:=szL_len (sz:=(fun _:Hld=>1)) (fun a=>by exact Nat.le_refl _) pla
  |have z7:=szL_len (sz:=(fun _:ByteArray=>1)) (fun a=>by exact Nat.le_refl _) rel
 obtain ⟨hr8,hi8⟩:=rdE_of r8
 obtain ⟨A8,q8,rfl⟩:=rdE_slice hr8
 have z8:=szL_len (sz:=(fun _:Pol=>1)) (fun a=>by exact Nat.le_refl _) pol
 obtain ⟨hr9,hi9⟩:=rdE_of r9
 obtain ⟨A9,q9,rfl⟩:=rdE_slice hr9
 have z9:=szL_len (sz:=(fun _:Hor=>1)) (fun a=>by exact Nat.le_refl _) hor
 first
  |guard_hyp zT14:Tg 1
   refine ⟨⟨a,b,c,d,A4,q4,ents,A5,q5,stms,A6,q6,tabs,A7,q7,pla,A8,q8,pol,A9,q9,hor⟩,⟨rfl,⟨hr4,fun x hx=>?_,hr5,hr6,fun x hx=>hi6 x hx,hr7,hr8,hr9⟩,⟨by dsimp only;omega,by dsimp only;omega,by dsimp only;omega,by dsimp only;omega,by dsimp only;omega,by dsimp only;omega,fun x hx=>?_,fun x hx e he=>?_,fun x hx=>(hi4 x hx).2.2.2,hi7,hi8,hi9,by dsimp only;omega,by dsimp only;omega⟩⟩,bulk_one _⟩
  |refine ⟨⟨a,b,c,d,A4,q4,ents,A5,q5,dels,A6,q6,pla,A7,q7,rel,A8,q8,pol,A9,q9,hor⟩,⟨rfl,⟨hr4,fun x hx=>?_,hr5,fun x hx=>?_,hr6,hr7,hr8,hr9⟩,⟨by dsimp only;omega,by dsimp only;omega,by dsimp only;omega,by dsimp only;omega,by dsimp only;omega,by dsimp only;omega,fun x hx=>?_,fun x hx e he=>?_,fun x hx=>(hi4 x hx).2.2.2,fun x hx=>(hi5 x hx).2.2,hi6,hi7,hi8,hi9,by dsimp only;omega,by dsimp only;omega⟩⟩,bulk_one _⟩
 ·have h1:REn.sz x≤szL REn.sz ents:=szL_mem hx
  have h2:=REn.sz_few (x:=x) (n:=10000000000) (by omega)
  exact ⟨(hi4 x hx).1,h2.1,(hi4 x hx).2.2.1⟩
 ·first
   |guard_hyp zT14:Tg 1
    have h1:RTv.sz x≤szL RTv.sz tabs:=szL_mem hx
    exact RTv.sz_few (d:=x) (n:=1048576) (by omega)
   |have h1:RDl.sz x≤szL RDl.sz dels:=szL_mem hx
    have h2:=RDl.sz_few (d:=x) (n:=10000000000) (by omega)
    exact ⟨(hi5 x hx).1,(hi5 x hx).2.1,⟨h2.1,h2.2.1⟩⟩
 ·first
   |guard_hyp zT14:Tg 1
    have h1:REn.sz x≤szL REn.sz ents:=szL_mem hx
    exact ⟨(hi4 x hx).2.1 e he,(REn.sz_few (x:=x) (n:=1048576) (by omega)).2 e he⟩
   |have h1:RDl.sz x≤szL RDl.sz dels:=szL_mem hx
    exact (RDl.sz_few (d:=x) (n:=1048576) (by omega)).2.2
 first
  |guard_hyp zT14:Tg 1
  |·have h1:REn.sz x≤szL REn.sz ents:=szL_mem hx
    exact ⟨(hi4 x hx).2.1 e he,(REn.sz_few (x:=x) (n:=1048576) (by omega)).2 e he⟩) : P := h ⟨⟩
theorem zq20 {P:Prop} (i:Nat) (h:Tg i→P:=by
 intro zT20
 intro fuel cs x h hB
 first
  |guard_hyp zT20:Tg 1
   obtain ⟨hl,n,xs,hxl,hb,hf⟩:=opn_fields Tryz.underlying77 h
   rw [show Tryz.prog.cellsOf 77 =3 from by kernel_rfl] at hl
  |obtain ⟨hl,n,xs,hxl,hb,hf⟩:=opn_fields Tryz.underlying63 h
   rw [show Tryz.prog.cellsOf 63 =3 from by kernel_rfl] at hl
 match cs,hl with
 |[c0,c1,c2],_=>
 match xs,hxl with
 |[y0,y1,y2],_=>
 simp only [List.map_cons,List.map_nil,Rows.uptoBulkAll] at hb
 have h0:=hf 0 _ rfl
 have h1:=hf 1 _ rfl
 have h2:=hf 2 _ rfl
 obtain ⟨a,⟨e0,l0⟩,_⟩:=opn_str Tryz.underlying9 _ _ _ h0
 have e0':[c0]=[.string (strB a)]:=e0
 first
  |guard_hyp zT20:Tg 1
   obtain ⟨k,⟨e1,_⟩,_⟩:=opn_int Tryz.underlying3 _ _ _ h1
   have e1':[c1]=[.int .i64 k]:=e1
   obtain ⟨b,e2,_⟩:=opn_bool Tryz.underlying4 _ _ _ h2
   have e2':[c2]=[.bool b]:=e2
  |obtain ⟨l,⟨v1,e1,r1⟩,s1⟩:=opn_listB (c:=1) (B:=B) Tryz.underlying60 (by kernel_rfl) opn_intE (by omega) _ _ _ h1 (by omega)
   have e1':[c1]=[v1]:=e1
   obtain ⟨o,⟨v2,e2,r2⟩,s2⟩:=opn_listB (c:=3) (B:=B) Tryz.underlying61 (by kernel_rfl) opn_fact (by omega) _ _ _ h2 (by omega)
   have e2':[c2]=[v2]:=e2
 simp only [List.cons.injEq,and_true] at e0' e1' e2'
 subst e0'
 subst e1'
 subst e2'
 first
  |guard_hyp zT20:Tg 1
   exact ⟨⟨strB a,k,b⟩,⟨rfl,by show (strB a).size≤maxLen;rw [strB_size];exact l0⟩,bulk_one _⟩
  |obtain ⟨hr,_⟩:=rdE_of r1
   obtain ⟨A,c,rfl⟩:=rdE_slice hr
   obtain ⟨hr2,hi2⟩:=rdE_of r2
   obtain ⟨A2,c2,rfl⟩:=rdE_slice hr2
   have z0:=szL_len (sz:=fun _:Int=>1) (fun _=>Nat.le_refl _) l
   exact ⟨⟨strB a,A,c,l,A2,c2,o⟩,⟨rfl,hr,⟨hr2,hi2⟩,by show (strB a).size≤maxLen;rw [strB_size];exact l0⟩,by show l.length+szL RF.sz o+1≤_;omega⟩) : P := h ⟨⟩
theorem zq22 {P:Prop} (i:Nat) (h:Tg i→P:=by
 intro zT22
 intro fuel cs x h hB
 first
  |guard_hyp zT22:Tg 1
   obtain ⟨hl,n,xs,hxl,hb,hf⟩:=opn_fields Tryz.underlying117 h
   rw [show Tryz.prog.cellsOf 117 =2 from by kernel_rfl] at hl
  |obtain ⟨hl,n,xs,hxl,hb,hf⟩:=opn_fields Tryz.underlying122 h
   rw [show Tryz.prog.cellsOf 122 =2 from by kernel_rfl] at hl
 match cs,hl with
 |[c0,c1],_=>
 match xs,hxl with
 |[y0,y1],_=>
 simp only [List.map_cons,List.map_nil,Rows.uptoBulkAll] at hb
 have h0:=hf 0 _ rfl
 have h1:=hf 1 _ rfl
 obtain ⟨a,⟨e0,l0⟩,_⟩:=opn_str Tryz.underlying9 _ _ _ h0
 have e0':[c0]=[.string (strB a)]:=e0
 obtain ⟨k,⟨e1,_⟩,_⟩:=opn_int Tryz.underlying3 _ _ _ h1
 have e1':[c1]=[.int .i64 k]:=e1
 simp only [List.cons.injEq,and_true] at e0' e1'
 subst e0'
 subst e1'
 exact ⟨⟨strB a,k⟩,⟨rfl,by show (strB a).size≤maxLen;rw [strB_size];exact l0⟩,bulk_one _⟩) : P := h ⟨⟩
section
variable {H:Type} {enc:TypeId×Value→H} {w:World}
theorem rdE_of {α:Type} {K:Nat} {en:α→List Value} {P:α→Prop} {F:Nat→Prop} {v:Value} {l:List α} (h:RdL w F K (fun cs x=>cs=en x∧P x) v l):RdE K en w F v l∧∀x∈l,P x:=by
 obtain ⟨ps,rfl,hr,hp⟩:=h
 have e:ps.flatMap (·.1)=(ps.map (·.2)).flatMap en:=by
  clear hr
  induction ps with
  |nil=>rfl
  |cons p ps ih=>
   obtain ⟨_,h1,_⟩:=hp p (List.mem_cons_self ..)
   rw [List.flatMap_cons,ih (fun q hq=>hp q (List.mem_cons_of_mem _ hq)),h1]
   rfl
 refine ⟨?_,fun x hx=>?_⟩
 ·unfold RdE
  rw [List.length_map,←e]
  exact hr
 ·obtain ⟨q,hq,rfl⟩:=List.mem_map.1 hx
  exact (hp q hq).2.2
theorem rdE_slice {α:Type} {K:Nat} {en:α→List Value} {F:Nat→Prop} {v:Value} {l:List α} (h:RdE K en w F v l):∃A c,v=.slice A l.length c:=by
 obtain ⟨A,c,rfl,_⟩:=Rd.open_ (show Rd w F K v l.length (l.flatMap en) from h)
 exact ⟨A,c,rfl⟩
instance:Inhabited Int:=⟨0⟩
instance:Inhabited Hld:=⟨⟨⟨#[]⟩,⟨#[]⟩,0,0,0,0⟩⟩
instance:Inhabited Pol:=⟨⟨⟨#[]⟩,0⟩⟩
instance:Inhabited Hor:=⟨⟨⟨#[]⟩,0⟩⟩
instance:Inhabited RF:=⟨⟨none,0,0,[],0,0⟩⟩
instance:Inhabited RDl:=⟨⟨⟨#[]⟩,none,0,[],none,0,[]⟩⟩
instance:Inhabited RCol:=⟨⟨⟨#[]⟩,0,false⟩⟩
instance:Inhabited RFor:=⟨⟨none,0,[],⟨#[]⟩⟩⟩
instance:Inhabited RE:=⟨.mk 0 0 ⟨0,0,⟨#[]⟩⟩ ⟨#[]⟩ none 0 []⟩
instance:Inhabited RTab:=⟨⟨⟨#[]⟩,none,0,[],none,0,[],none,0,[],none,0,[]⟩⟩
instance:Inhabited Chn:=⟨⟨0,⟨#[]⟩,⟨#[]⟩,⟨#[]⟩,0,false,⟨0,0,⟨#[]⟩⟩⟩⟩
instance:Inhabited REn:=⟨⟨0,⟨#[]⟩,default,default⟩⟩
def OpnB {H α:Type} (B:Nat) (enc:TypeId×Value→H) (w:World) (t:TypeId) (R:List Value→α→Prop) (sz:α→Nat):Prop:=
 ∀(fuel:Nat) (cs:List Value) (x:DataW H×List MemPlace),DataW.trod enc Tryz.prog w 0 (fun _=>true) true fuel t cs=some x→Rows.uptoBulk x.1≤B→∃a,R cs a∧sz a≤Rows.uptoBulk x.1
theorem Opn.b {α:Type} {B:Nat} {t:TypeId} {R:List Value→α→Prop} {sz:α→Nat} (h:Opn enc w t R sz):OpnB B enc w t R sz:=fun fuel cs x hx _=>h fuel cs x hx
theorem opn_listB {α:Type} [Inhabited α] {B:Nat} {t e:TypeId} {R:List Value→α→Prop} {sz:α→Nat} {c:Nat} (ht:Tryz.prog.underlying t=some (.slice e)) (hc:Tryz.prog.cellsOf e=c) (he:OpnB B enc w e R sz) (hc0:0<c):
  OpnB B enc w t (fun cs l=>∃v,cs=[v]∧RdL w (·<w.heap.size) c R v l) (szL sz):=by
 exact zq18 0
theorem szL_len {α:Type} {sz:α→Nat} (hs:∀a,1≤sz a) (l:List α):l.length≤szL sz l:=by
 unfold szL
 induction l with
 |nil=>simp
 |cons x r ih=>have:=hs x;simp only [List.length_cons,List.map_cons,List.sum_cons];omega
theorem szL_mem {α:Type} {sz:α→Nat} {l:List α} {x:α} (h:x∈l):sz x≤szL sz l:=by
 unfold szL
 induction l with
 |nil=>cases h
 |cons y r ih=>
  simp only [List.map_cons,List.sum_cons]
  rcases List.mem_cons.1 h with rfl|h
  ·omega
  ·have:=ih h;omega
mutual
def RE.nodes:RE→Nat
 | .mk _ _ _ _ _ _ args=>nodesL args+1
def nodesL:List RE→Nat
 |[]=>0
 |e::r=>e.nodes+nodesL r
end
theorem nodesL_sum (l:List RE):nodesL l=(l.map RE.nodes).sum:=by
 induction l with
 |nil=>simp [nodesL]
 |cons x r ih=>simp only [nodesL,List.map_cons,List.sum_cons,ih]
theorem RE.nodes_pos (e:RE):1≤e.nodes:=by cases e;simp only [RE.nodes];omega
def exAll (w:World) (F:Nat→Prop) (e:RE):Prop:=∀d,exIs d w F e
def RF.sz (f:RF):Nat:=f.row.length+1
def RFor.sz (f:RFor):Nat:=f.cols.length+1
def RDl.sz (d:RDl):Nat:=d.cl.length+szL RF.sz d.ops+1
def RTab.sz (t:RTab):Nat:=t.cols.length+t.key.length+szL RFor.sz t.fors+szL RE.nodes t.chks
def REn.sz (x:REn):Nat:=x.create.sz+1
def Hld.sm (x:Hld):Prop:=x.name.size≤maxLen∧x.table.size≤maxLen
def Pol.sm (x:Pol):Prop:=x.table.size≤maxLen
def Hor.sm (x:Hor):Prop:=x.table.size≤maxLen
def RCol.sm (x:RCol):Prop:=x.name.size≤maxLen
def RFor.sm (x:RFor):Prop:=x.table.size≤maxLen
structure RTab.sm (t:RTab):Prop where
 name:t.name.size≤maxLen
 cols:∀x∈t.cols,x.sm
 fors:∀x∈t.fors,x.sm
structure Chn.sm (x:Chn):Prop where
 name:x.name.size≤maxLen
 to:x.to.size≤maxLen
 cname:x.cname.size≤maxLen
structure REn.sm (x:REn):Prop where
 table:x.table.size≤maxLen
 create:x.create.sm
 change:x.change.sm
def RDl.sm (x:RDl):Prop:=x.name.size≤maxLen
theorem opn_intE {B:Nat}:OpnB B enc w 3 (fun cs x=>cs=intE x∧True) (fun _=>1):=by
 intro fuel cs x h _
 obtain ⟨n,⟨e,_⟩,hb⟩:=opn_int Tryz.underlying3 _ _ _ h
 exact ⟨n,⟨e,trivial⟩,hb⟩
theorem opn_strE {B:Nat}:OpnB B enc w 9 (fun cs x=>cs=strE x∧x.size≤maxLen) (fun _=>1):=by
 intro fuel cs x h _
 obtain ⟨l,⟨e,hl⟩,hb⟩:=opn_str Tryz.underlying9 _ _ _ h
 exact ⟨strB l,⟨e,by rw [strB_size];exact hl⟩,Nat.le_trans (Nat.succ_le_succ (Nat.zero_le _)) hb⟩
theorem opn_rect2 {B:Nat}:OpnB B enc w 107 (fun cs (x:(Int×Int)×(Int×Int))=>cs=[.int .i64 x.1.1,.int .i64 x.1.2,.int .i64 x.2.1,.int .i64 x.2.2]∧True) (fun _=>1):=by
 intro fuel cs x h hB
 obtain ⟨hl,n,xs,hxl,hb,hf⟩:=opn_fields Tryz.underlying107 h
 rw [show Tryz.prog.cellsOf 107 =4 from by kernel_rfl] at hl
 match cs,hl with
 |[c0,c1,c2,c3],_=>
 match xs,hxl with
 |[y0,y1],_=>
 simp only [List.map_cons,List.map_nil,Rows.uptoBulkAll] at hb
 have h0:=hf 0 _ rfl
 have h1:=hf 1 _ rfl
 obtain ⟨⟨a,b⟩,e0,_⟩:=opn_per _ _ _ h0
 have e0':[c0,c1]=[.int .i64 a,.int .i64 b]:=e0
 obtain ⟨⟨c,d⟩,e1,_⟩:=opn_per _ _ _ h1
 have e1':[c2,c3]=[.int .i64 c,.int .i64 d]:=e1
 simp only [List.cons.injEq,and_true] at e0' e1'
 obtain ⟨f0_0,f0_1⟩:=e0'
 subst f0_0
 subst f0_1
 obtain ⟨f1_0,f1_1⟩:=e1'
 subst f1_0
 subst f1_1
 exact ⟨((a,b),(c,d)),⟨rfl,trivial⟩,bulk_one _⟩
theorem opn_hold {B:Nat}:OpnB B enc w 109 (fun cs x=>cs=Hld.enc x∧x.sm) (fun _=>1):=by
 intro fuel cs x h hB
 obtain ⟨hl,n,xs,hxl,hb,hf⟩:=opn_fields Tryz.underlying109 h
 rw [show Tryz.prog.cellsOf 109 =6 from by kernel_rfl] at hl
 match cs,hl with
 |[c0,c1,c2,c3,c4,c5],_=>
 match xs,hxl with
 |[y0,y1,y2],_=>
 simp only [List.map_cons,List.map_nil,Rows.uptoBulkAll] at hb
 have h0:=hf 0 _ rfl
 have h1:=hf 1 _ rfl
 have h2:=hf 2 _ rfl
 obtain ⟨a,⟨e0,l0⟩,_⟩:=opn_str Tryz.underlying9 _ _ _ h0
 have e0':[c0]=[.string (strB a)]:=e0
 obtain ⟨b,⟨e1,l1⟩,_⟩:=opn_str Tryz.underlying9 _ _ _ h1
 have e1':[c1]=[.string (strB b)]:=e1
 obtain ⟨R,⟨e2,g2⟩,s2⟩:=opn_rect2 (B:=B) _ _ _ h2 (by omega)
 have e2':[c2,c3,c4,c5]=[.int .i64 R.1.1,.int .i64 R.1.2,.int .i64 R.2.1,.int .i64 R.2.2]:=e2
 simp only [List.cons.injEq,and_true] at e0' e1' e2'
 subst e0'
 subst e1'
 obtain ⟨f2_0,f2_1,f2_2,f2_3⟩:=e2'
 subst f2_0
 subst f2_1
 subst f2_2
 subst f2_3
 exact ⟨⟨strB a,strB b,R.1.1,R.1.2,R.2.1,R.2.2⟩,⟨rfl,⟨by rw [strB_size];exact l0,by rw [strB_size];exact l1⟩⟩,bulk_one _⟩
theorem opn_pol {B:Nat}:OpnB B enc w 117 (fun cs x=>cs=Pol.enc x∧x.sm) (fun _=>1):=by
 exact zq22 1
theorem opn_hor {B:Nat}:OpnB B enc w 122 (fun cs x=>cs=Hor.enc x∧x.sm) (fun _=>1):=by
 exact zq22 0
theorem opn_col {B:Nat}:OpnB B enc w 77 (fun cs x=>cs=RCol.enc x∧x.sm) (fun _=>1):=by
 exact zq20 1
theorem opn_fact {B:Nat}:OpnB B enc w 68 (fun cs x=>cs=RF.enc x∧x.is w (·<w.heap.size)) RF.sz:=by
 intro fuel cs x h hB
 obtain ⟨hl,n,xs,hxl,hb,hf⟩:=opn_fields Tryz.underlying68 h
 rw [show Tryz.prog.cellsOf 68 =3 from by kernel_rfl] at hl
 match cs,hl with
 |[c0,c1,c2],_=>
 match xs,hxl with
 |[y0,y1],_=>
 simp only [List.map_cons,List.map_nil,Rows.uptoBulkAll] at hb
 have h0:=hf 0 _ rfl
 have h1:=hf 1 _ rfl
 obtain ⟨row,⟨v0,e0,r0⟩,s0⟩:=opn_listB (c:=3) (B:=B) Tryz.underlying64 (by kernel_rfl) opn_val.b (by omega) _ _ _ h0 (by omega)
 have e0':[c0]=[v0]:=e0
 obtain ⟨⟨a,b⟩,e1,_⟩:=opn_per _ _ _ h1
 have e1':[c1,c2]=[.int .i64 a,.int .i64 b]:=e1
 simp only [List.cons.injEq,and_true] at e0' e1'
 subst e0'
 obtain ⟨f1_0,f1_1⟩:=e1'
 subst f1_0
 subst f1_1
 obtain ⟨hr,hg⟩:=rdV_of r0
 obtain ⟨A,c,rfl,_⟩:=hr.open_
 have z0:=szL_len (sz:=fun _:Val=>1) (fun _=>Nat.le_refl _) row
 exact ⟨⟨A,row.length,c,row,a,b⟩,⟨rfl,hr,hg⟩,by show row.length+1≤_;omega⟩
theorem opn_for {B:Nat}:OpnB B enc w 278 (fun cs x=>cs=RFor.enc x∧x.is w (·<w.heap.size)∧x.sm) RFor.sz:=by
 intro fuel cs x h hB
 obtain ⟨hl,n,xs,hxl,hb,hf⟩:=opn_fields Tryz.underlying278 h
 rw [show Tryz.prog.cellsOf 278 =2 from by kernel_rfl] at hl
 match cs,hl with
 |[c0,c1],_=>
 match xs,hxl with
 |[y0,y1],_=>
 simp only [List.map_cons,List.map_nil,Rows.uptoBulkAll] at hb
 have h0:=hf 0 _ rfl
 have h1:=hf 1 _ rfl
 obtain ⟨l,⟨v0,e0,r0⟩,s0⟩:=opn_listB (c:=1) (B:=B) Tryz.underlying60 (by kernel_rfl) opn_intE (by omega) _ _ _ h0 (by omega)
 have e0':[c0]=[v0]:=e0
 obtain ⟨a,⟨e1,l1⟩,_⟩:=opn_str Tryz.underlying9 _ _ _ h1
 have e1':[c1]=[.string (strB a)]:=e1
 simp only [List.cons.injEq,and_true] at e0' e1'
 subst e0'
 subst e1'
 obtain ⟨hr,_⟩:=rdE_of r0
 obtain ⟨A,c,rfl⟩:=rdE_slice hr
 have z0:=szL_len (sz:=fun _:Int=>1) (fun _=>Nat.le_refl _) l
 exact ⟨⟨A,c,l,strB a⟩,⟨rfl,hr,by show (strB a).size≤maxLen;rw [strB_size];exact l1⟩,by show l.length+1≤_;omega⟩
theorem opn_delta {B:Nat}:OpnB B enc w 63 (fun cs (x:RDl)=>cs=x.enc∧RdE 1 intE w (·<w.heap.size) (.slice x.cA x.cl.length x.cc) x.cl∧RdFs w (·<w.heap.size) (.slice x.oA x.ops.length x.oc) x.ops∧x.sm) RDl.sz:=by
 exact zq20 0
theorem opn_chn {B:Nat}:OpnB B enc w 81 (fun cs (x:Chn)=>cs=x.enc∧goV x.def_∧x.sm) (fun _=>1):=by
 intro fuel cs x h hB
 obtain ⟨hl,n,xs,hxl,hb,hf⟩:=opn_fields Tryz.underlying81 h
 rw [show Tryz.prog.cellsOf 81 =9 from by kernel_rfl] at hl
 match cs,hl with
 |[c0,c1,c2,c3,c4,c5,c6,c7,c8],_=>
 match xs,hxl with
 |[y0,y1,y2,y3,y4],_=>
 simp only [List.map_cons,List.map_nil,Rows.uptoBulkAll] at hb
 have h0:=hf 0 _ rfl
 have h1:=hf 1 _ rfl
 have h2:=hf 2 _ rfl
 have h3:=hf 3 _ rfl
 have h4:=hf 4 _ rfl
 obtain ⟨k,⟨e0,_⟩,_⟩:=opn_int Tryz.underlying3 _ _ _ h0
 have e0':[c0]=[.int .i64 k]:=e0
 obtain ⟨a,⟨e1,l1⟩,_⟩:=opn_str Tryz.underlying9 _ _ _ h1
 have e1':[c1]=[.string (strB a)]:=e1
 obtain ⟨b,⟨e2,l2⟩,_⟩:=opn_str Tryz.underlying9 _ _ _ h2
 have e2':[c2]=[.string (strB b)]:=e2
 obtain ⟨C,⟨e3,g3⟩,s3⟩:=opn_col (B:=B) _ _ _ h3 (by omega)
 have e3':[c3,c4,c5]=[.string C.name,.int .i64 C.kind,.bool C.null]:=e3
 obtain ⟨V,⟨e4,g4⟩,_⟩:=opn_val _ _ _ h4
 have e4':[c6,c7,c8]=[.int .i64 V.kind,.int .i64 V.int,.string V.text]:=e4
 simp only [List.cons.injEq,and_true] at e0' e1' e2' e3' e4'
 subst e0'
 subst e1'
 subst e2'
 obtain ⟨f3_0,f3_1,f3_2⟩:=e3'
 subst f3_0
 subst f3_1
 subst f3_2
 obtain ⟨f4_0,f4_1,f4_2⟩:=e4'
 subst f4_0
 subst f4_1
 subst f4_2
 exact ⟨⟨k,strB a,strB b,C.name,C.kind,C.null,V⟩,⟨rfl,g4,by show (strB a).size≤maxLen;rw [strB_size];exact l1,by show (strB b).size≤maxLen;rw [strB_size];exact l2,g3⟩,bulk_one _⟩
theorem opn_exp:∀(B:Nat),OpnB B enc w 212 (fun cs (x:RE)=>cs=x.enc∧exAll w (·<w.heap.size) x) RE.nodes:=by
 intro B
 induction B with
 |zero=>intro fuel cs x _ hB;have:=bulk_one x.1;omega
 |succ B ih=>
 intro fuel cs x h hB
 obtain ⟨hl,n,xs,hxl,hb,hf⟩:=opn_fields Tryz.underlying212 h
 rw [show Tryz.prog.cellsOf 212 =7 from by kernel_rfl] at hl
 match cs,hl with
 |[c0,c1,c2,c3,c4,c5,c6],_=>
 match xs,hxl with
 |[y0,y1,y2,y3,y4],_=>
 simp only [List.map_cons,List.map_nil,Rows.uptoBulkAll] at hb
 have h0:=hf 0 _ rfl
 have h1:=hf 1 _ rfl
 have h2:=hf 2 _ rfl
 have h3:=hf 3 _ rfl
 have h4:=hf 4 _ rfl
 obtain ⟨k,⟨e0,_⟩,_⟩:=opn_int Tryz.underlying3 _ _ _ h0
 have e0':[c0]=[.int .i64 k]:=e0
 obtain ⟨k2,⟨e1,_⟩,_⟩:=opn_int Tryz.underlying3 _ _ _ h1
 have e1':[c1]=[.int .i64 k2]:=e1
 obtain ⟨V,⟨e2,g2⟩,_⟩:=opn_val _ _ _ h2
 have e2':[c2,c3,c4]=[.int .i64 V.kind,.int .i64 V.int,.string V.text]:=e2
 obtain ⟨a,⟨e3,l3⟩,_⟩:=opn_str Tryz.underlying9 _ _ _ h3
 have e3':[c5]=[.string (strB a)]:=e3
 obtain ⟨l,⟨v4,e4,r4⟩,s4⟩:=opn_listB (c:=7) (B:=B) Tryz.underlying73 (by kernel_rfl) ih (by omega) _ _ _ h4 (by omega)
 have e4':[c6]=[v4]:=e4
 simp only [List.cons.injEq,and_true] at e0' e1' e2' e3' e4'
 subst e0'
 subst e1'
 obtain ⟨f2_0,f2_1,f2_2⟩:=e2'
 subst f2_0
 subst f2_1
 subst f2_2
 subst e3'
 subst e4'
 obtain ⟨hr,hi⟩:=rdE_of r4
 obtain ⟨A,c,rfl⟩:=rdE_slice hr
 refine ⟨.mk k k2 V (strB a) A c l,⟨rfl,fun d=>?_⟩,?_⟩
 ·cases d with
  |zero=>trivial
  |succ d=>exact ⟨hr,g2,by rw [strB_size];exact l3,fun x hx=>hi x hx d⟩
 ·show nodesL l+1≤_
  rw [nodesL_sum]
  unfold szL at s4
  omega
theorem opn_tab {B:Nat}:OpnB B enc w 75 (fun cs (x:RTab)=>cs=x.enc∧x.is w (·<w.heap.size)∧(∀e∈x.chks,exAll w (·<w.heap.size) e)∧x.sm) RTab.sz:=by
 intro fuel cs x h hB
 obtain ⟨hl,n,xs,hxl,hb,hf⟩:=opn_fields Tryz.underlying75 h
 rw [show Tryz.prog.cellsOf 75 =5 from by kernel_rfl] at hl
 match cs,hl with
 |[c0,c1,c2,c3,c4],_=>
 match xs,hxl with
 |[y0,y1,y2,y3,y4],_=>
 simp only [List.map_cons,List.map_nil,Rows.uptoBulkAll] at hb
 have h0:=hf 0 _ rfl
 have h1:=hf 1 _ rfl
 have h2:=hf 2 _ rfl
 have h3:=hf 3 _ rfl
 have h4:=hf 4 _ rfl
 obtain ⟨a,⟨e0,l0⟩,_⟩:=opn_str Tryz.underlying9 _ _ _ h0
 have e0':[c0]=[.string (strB a)]:=e0
 obtain ⟨cols,⟨v1,e1,r1⟩,s1⟩:=opn_listB (c:=3) (B:=B) Tryz.underlying71 (by kernel_rfl) opn_col (by omega) _ _ _ h1 (by omega)
 have e1':[c1]=[v1]:=e1
 obtain ⟨key,⟨v2,e2,r2⟩,s2⟩:=opn_listB (c:=1) (B:=B) Tryz.underlying60 (by kernel_rfl) opn_intE (by omega) _ _ _ h2 (by omega)
 have e2':[c2]=[v2]:=e2
 obtain ⟨fors,⟨v3,e3,r3⟩,s3⟩:=opn_listB (c:=2) (B:=B) Tryz.underlying72 (by kernel_rfl) opn_for (by omega) _ _ _ h3 (by omega)
 have e3':[c3]=[v3]:=e3
 obtain ⟨chks,⟨v4,e4,r4⟩,s4⟩:=opn_listB (c:=7) (B:=B) Tryz.underlying73 (by kernel_rfl) (opn_exp B) (by omega) _ _ _ h4 (by omega)
 have e4':[c4]=[v4]:=e4
 simp only [List.cons.injEq,and_true] at e0' e1' e2' e3' e4'
 subst e0'
 subst e1'
 subst e2'
 subst e3'
 subst e4'
 obtain ⟨hr1,hi1⟩:=rdE_of r1
 obtain ⟨A1,c1',rfl⟩:=rdE_slice hr1
 obtain ⟨hr2,hi2⟩:=rdE_of r2
 obtain ⟨A2,c2',rfl⟩:=rdE_slice hr2
 obtain ⟨hr3,hi3⟩:=rdE_of r3
 obtain ⟨A3,c3',rfl⟩:=rdE_slice hr3
 obtain ⟨hr4,hi4⟩:=rdE_of r4
 obtain ⟨A4,c4',rfl⟩:=rdE_slice hr4
 have z1:=szL_len (sz:=fun _:RCol=>1) (fun _=>Nat.le_refl _) cols
 have z2:=szL_len (sz:=fun _:Int=>1) (fun _=>Nat.le_refl _) key
 exact ⟨⟨strB a,A1,c1',cols,A2,c2',key,A3,c3',fors,A4,c4',chks⟩,⟨rfl,⟨hr1,hr2,hr3,fun x hx=>(hi3 x hx).1,hr4,fun x hx=>(hi4 x hx) 24⟩,hi4,⟨by show (strB a).size≤maxLen;rw [strB_size];exact l0,hi1,fun x hx=>(hi3 x hx).2⟩⟩,by show cols.length+key.length+szL RFor.sz fors+szL RE.nodes chks≤_;omega⟩
theorem opn_en {B:Nat}:OpnB B enc w 83 (fun cs (x:REn)=>cs=x.enc∧x.create.is w (·<w.heap.size)∧(∀e∈x.create.chks,exAll w (·<w.heap.size) e)∧x.change.def_.text.size≤maxLen∧x.sm) REn.sz:=by
 intro fuel cs x h hB
 obtain ⟨hl,n,xs,hxl,hb,hf⟩:=opn_fields Tryz.underlying83 h
 rw [show Tryz.prog.cellsOf 83 =16 from by kernel_rfl] at hl
 match cs,hl with
 |[c0,c1,c2,c3,c4,c5,c6,c7,c8,c9,c10,c11,c12,c13,c14,c15],_=>
 match xs,hxl with
 |[y0,y1,y2,y3],_=>
 simp only [List.map_cons,List.map_nil,Rows.uptoBulkAll] at hb
 have h0:=hf 0 _ rfl
 have h1:=hf 1 _ rfl
 have h2:=hf 2 _ rfl
 have h3:=hf 3 _ rfl
 obtain ⟨k,⟨e0,_⟩,_⟩:=opn_int Tryz.underlying3 _ _ _ h0
 have e0':[c0]=[.int .i64 k]:=e0
 obtain ⟨a,⟨e1,l1⟩,_⟩:=opn_str Tryz.underlying9 _ _ _ h1
 have e1':[c1]=[.string (strB a)]:=e1
 obtain ⟨T,⟨e2,g2⟩,s2⟩:=opn_tab (B:=B) _ _ _ h2 (by omega)
 have e2':[c2,c3,c4,c5,c6]=[.string T.name,.slice T.colA T.cols.length T.colC,.slice T.keyA T.key.length T.keyC,.slice T.forA T.fors.length T.forC,.slice T.chkA T.chks.length T.chkC]:=e2
 obtain ⟨C,⟨e3,g3⟩,s3⟩:=opn_chn (B:=B) _ _ _ h3 (by omega)
 have e3':[c7,c8,c9,c10,c11,c12,c13,c14,c15]=[.int .i64 C.kind,.string C.name,.string C.to,.string C.cname,.int .i64 C.ckind,.bool C.cnull,.int .i64 C.def_.kind,.int .i64 C.def_.int,.string C.def_.text]:=e3
 simp only [List.cons.injEq,and_true] at e0' e1' e2' e3'
 subst e0'
 subst e1'
 obtain ⟨f2_0,f2_1,f2_2,f2_3,f2_4⟩:=e2'
 subst f2_0
 subst f2_1
 subst f2_2
 subst f2_3
 subst f2_4
 obtain ⟨f3_0,f3_1,f3_2,f3_3,f3_4,f3_5,f3_6,f3_7,f3_8⟩:=e3'
 subst f3_0
 subst f3_1
 subst f3_2
 subst f3_3
 subst f3_4
 subst f3_5
 subst f3_6
 subst f3_7
 subst f3_8
 exact ⟨⟨k,strB a,T,C⟩,⟨rfl,g2.1,g2.2.1,g3.1.2.2,⟨by show (strB a).size≤maxLen;rw [strB_size];exact l1,g2.2.2,g3.2⟩⟩,by show T.sz+1≤_;omega⟩
structure RCm.lim (w:World) (c:RCm):Prop where
 ents:c.ents.length≤1048576
 dels:c.dels.length≤1048576
 pla:c.pla.length≤1048576
 rel:c.rel.length≤1048576
 pol:c.pol.length≤1048576
 hor:c.hor.length≤1048576
 rows:∀d∈c.dels,∀f∈d.ops,f.row.length≤1048576
 exps:∀x∈c.ents,∀e∈x.create.chks,exAll w (·<w.heap.size) e∧e.nodes≤1048576
 entS:∀x∈c.ents,x.sm
 delS:∀x∈c.dels,x.sm
 plaS:∀x∈c.pla,x.sm
 relS:∀x∈c.rel,x.size≤maxLen
 polS:∀x∈c.pol,x.sm
 horS:∀x∈c.hor,x.sm
 entZ:szL REn.sz c.ents≤1048576
 delZ:szL RDl.sz c.dels≤1048576
theorem RDl.sz_few {d:RDl} {n:Nat} (h:d.sz≤n):d.cl.length≤n∧d.ops.length≤n∧∀f∈d.ops,f.row.length≤n:=by
 unfold RDl.sz at h
 have h1:=szL_len (sz:=RF.sz) (fun a=>by unfold RF.sz;omega) d.ops
 refine ⟨by omega,by omega,fun f hf=>?_⟩
 have h2:=szL_mem (sz:=RF.sz) hf
 have h3:f.row.length≤RF.sz f:=by unfold RF.sz;omega
 omega
theorem REn.sz_few {x:REn} {n:Nat} (h:x.sz≤n):(x.create.cols.length≤n∧x.create.key.length≤n∧x.create.fors.length≤n∧x.create.chks.length≤n)∧∀e∈x.create.chks,e.nodes≤n:=by
 unfold REn.sz RTab.sz at h
 have h1:=szL_len (sz:=RFor.sz) (fun a=>by unfold RFor.sz;omega) x.create.fors
 have h2:=szL_len (sz:=RE.nodes) RE.nodes_pos x.create.chks
 refine ⟨⟨by omega,by omega,by omega,by omega⟩,fun e he=>?_⟩
 have h3:=szL_mem (sz:=RE.nodes) he
 omega
theorem opn_commit {B:Nat} (hBB:B≤1048576):OpnB B enc w 29 (fun cs (c:RCm)=>cs=c.enc∧c.is w (·<w.heap.size)∧c.lim w) (fun _=>1):=by
 exact zq14 0
theorem open_commit {b0:Nat} {r:Reach} {v:Value} {d:DataW H} {ps:List MemPlace} (hval:Value.okWide Tryz.prog w r b0 29 v) (h:DataW.Trod enc Tryz.prog w 0 (fun _=>true) true 29 v d ps) (hd:Rows.uptoBulk d≤1048576):
  ∃c:RCm,v=.agg c.enc.toArray∧c.is w (·<w.heap.size)∧c.lim w:=by
 obtain ⟨a,rfl,_⟩:=okWide_struct Tryz.underlying29 hval
 obtain ⟨fuel,hf⟩:=h
 obtain ⟨c,⟨e,h1,h2⟩,_⟩:=opn_commit (Nat.le_refl _) fuel _ _ hf hd
 refine ⟨c,?_,h1,h2⟩
 simp only [Value.cells] at e
 rw [←e,Array.toArray_toList]
end
end Go.Proofs.YtbfdegkickjbpaaGreat
