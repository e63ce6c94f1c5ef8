/-
 RcO
-/
import Derived.Test.YtgfhknnklapldaaGreatDoorBRc3
import Derived.Test.YtgfhknnklapldaaGreatDoorBArg1
namespace Go.Proofs.YtgfhknnklapldaaGreatDoor
open Go.Proofs.Tryz
set_option maxRecDepth 99999
set_option maxHeartbeats 0
open Go.ChangeShapes Go.WideShapes Go.ChangeAt Go.RowKit Go.Lib Go.Deep
section
variable {H:Type} {enc:TypeId×Value→H} {w:World}
theorem rdE_of {α:Type} {K:Nat} {en:α→List Value} {P:α→Prop} {F:Nat→Prop} {v:Value} {l:List α} (h:RdL w F K (fun cs x=>cs=en x∧P x) v l):RdE K en w F v l∧∀x∈l,P x:=by
 obtain ⟨ps,rfl,hr,hp⟩:=h
 have e:ps.flatMap (·.1)=(ps.map (·.2)).flatMap en:=by
  clear hr
  induction ps with
  |nil=>rfl
  |cons p ps ih=>
   obtain ⟨_,h1,_⟩:=hp p (List.mem_cons_self ..)
   rw [List.flatMap_cons,ih (fun q hq=>hp q (List.mem_cons_of_mem _ hq)),h1]
   rfl
 refine ⟨?_,fun x hx=>?_⟩
 ·unfold RdE
  rw [List.length_map,←e]
  exact hr
 ·obtain ⟨q,hq,rfl⟩:=List.mem_map.1 hx
  exact (hp q hq).2.2
theorem rdE_slice {α:Type} {K:Nat} {en:α→List Value} {F:Nat→Prop} {v:Value} {l:List α} (h:RdE K en w F v l):∃A c,v=.slice A l.length c:=by
 obtain ⟨A,c,rfl,_⟩:=Rd.open_ (show Rd w F K v l.length (l.flatMap en) from h)
 exact ⟨A,c,rfl⟩
instance:Inhabited Int:=⟨0⟩
instance:Inhabited Hld:=⟨⟨⟨#[]⟩,⟨#[]⟩,0,0,0,0⟩⟩
instance:Inhabited Pol:=⟨⟨⟨#[]⟩,0⟩⟩
instance:Inhabited Hor:=⟨⟨⟨#[]⟩,0⟩⟩
instance:Inhabited RCol:=⟨⟨⟨#[]⟩,0,false⟩⟩
instance:Inhabited RFor:=⟨⟨none,0,[],⟨#[]⟩⟩⟩
instance:Inhabited RE:=⟨.mk 0 0 ⟨0,0,⟨#[]⟩⟩ ⟨#[]⟩ none 0 []⟩
instance:Inhabited RTab:=⟨⟨⟨#[]⟩,none,0,[],none,0,[],none,0,[],none,0,[]⟩⟩
instance:Inhabited Chn:=⟨⟨0,⟨#[]⟩,⟨#[]⟩,⟨#[]⟩,0,false,⟨0,0,⟨#[]⟩⟩⟩⟩
instance:Inhabited REn:=⟨⟨0,⟨#[]⟩,default,default⟩⟩
def OpnB {H α:Type} (B:Nat) (enc:TypeId×Value→H) (w:World) (t:TypeId) (R:List Value→α→Prop) (sz:α→Nat):Prop:=
 ∀(fuel:Nat) (cs:List Value) (x:DataW H×List MemPlace),DataW.trod enc prog w 0 (fun _=>true) true fuel t cs=some x→Rows.uptoBulk x.1≤B→∃a,R cs a∧sz a≤Rows.uptoBulk x.1
theorem Opn.b {α:Type} {B:Nat} {t:TypeId} {R:List Value→α→Prop} {sz:α→Nat} (h:Opn enc w t R sz):OpnB B enc w t R sz:=fun fuel cs x hx _=>h fuel cs x hx
theorem opn_listB {α:Type} [Inhabited α] {B:Nat} {t e:TypeId} {R:List Value→α→Prop} {sz:α→Nat} {c:Nat} (ht:prog.underlying t=some (.slice e)) (hc:prog.cellsOf e=c) (he:OpnB B enc w e R sz) (hc0:0<c):
  OpnB B enc w t (fun cs l=>∃v,cs=[v]∧RdL w (ltw w) c R v l) (szL sz):=by
 intro fuel cs x h hB
 rcases open_slice ht h with ⟨rfl,rfl⟩|⟨a,len,cap,m,n,D,Pl,rfl,hb,hl,hm,hmm,rfl,hx⟩
 ·exact ⟨[],⟨_,rfl,[],rfl,Rd.nil _ _ _,fun p hp=>by cases hp⟩,by simp [szL,Rows.uptoBulk]⟩
 ·rw [hc] at hx
  have hlm:len≤m:=by rw [hmm];split<;>omega
  obtain ⟨f,hf⟩:=choose_lt (α:=List Value×α) (n:=len) (p:=fun i p=>w.cells? 0 (a.add (i*c)) c=some p.1∧R p.1 p.2∧sz p.2≤Rows.uptoBulk (D i)) (fun i hi=>by
   obtain ⟨cs',h1,h2⟩:=hx i (by omega)
   have hBi:Rows.uptoBulk (D i)≤B:=Nat.le_trans (Nat.le_trans (bulk_mem (List.mem_map.2 ⟨i,List.mem_range.2 hi,rfl⟩)) (bulk_in _ _)) hB
   obtain ⟨q,hq,hs⟩:=he _ _ _ h2 hBi
   exact ⟨(cs',q),h1,hq,hs⟩)
  have hfl:∀i,i<len→(f i).1.length=c:=fun i hi=>(World.cells?_some (hf i hi).1).2.1
  have hall:∀p∈(List.range len).map f,p.1.length=c:=by
   intro p hp
   obtain ⟨i,hi,rfl⟩:=List.mem_map.1 hp
   exact hfl i (List.mem_range.1 hi)
  have hlen:(((List.range len).map f).flatMap (·.1)).length=len*c:=by
   rw [flat_lenC c _ _ hall,List.length_map,List.length_range]
  refine ⟨((List.range len).map f).map (·.2),⟨_,rfl,(List.range len).map f,rfl,?_,?_⟩,?_⟩
  ·rw [List.length_map,List.length_range]
   refine ⟨hlen,_,_,rfl,hl,hm,fun h=>(Option.some_ne_none _ h).elim,fun hn=>⟨a,rfl,?_,fun j u hu=>?_⟩⟩
   ·have h0:=hf 0 hn
    obtain ⟨_,h1,h2⟩:=World.cells?_some h0.1
    have h3:=h2 0 hc0
    rw [List.getElem?_eq_getElem (by omega)] at h3
    have:=World.block_lt_of_cell? w _ h3
    rwa [block_add,block_add] at this
   ·have hj:j<len*c:=by
     rcases Nat.lt_or_ge j (((List.range len).map f).flatMap (·.1)).length with h|h
     ·omega
     ·rw [List.getElem?_eq_none h] at hu;cases hu
    have hd:j / c<len:=Nat.div_lt_of_lt_mul (by rw [Nat.mul_comm];exact hj)
    have hmj:j % c<c:=Nat.mod_lt _ hc0
    have hje:j / c*c+j % c=j:=by rw [Nat.mul_comm];exact Nat.div_add_mod j c
    obtain ⟨_,h1,h2⟩:=World.cells?_some (hf (j / c) hd).1
    have h3:=h2 (j % c) hmj
    rw [add_add',hje] at h3
    have h4:=flat_getC c ((List.range len).map f) (·.1) hall (j / c) (j % c) hmj (f (j / c)) (by rw [List.getElem?_map,List.getElem?_range hd];rfl)
    rw [hje] at h4
    rw [h3,←hu,h4]
  ·intro p hp
   obtain ⟨i,hi,rfl⟩:=List.mem_map.1 hp
   exact ⟨hfl i (List.mem_range.1 hi),(hf i (List.mem_range.1 hi)).2.1⟩
  ·have:=range_sum (fun i=>(f i).2) sz D len fun i hi=>(hf i hi).2.2
   rw [List.map_map]
   simp only [szL,Rows.uptoBulk,Function.comp_def] at *
   omega
theorem szL_len {α:Type} {sz:α→Nat} (hs:∀a,1≤sz a) (l:List α):l.length≤szL sz l:=by
 unfold szL
 induction l with
 |nil=>simp
 |cons x r ih=>have:=hs x;simp only [List.length_cons,List.map_cons,List.sum_cons];omega
theorem szL_mem {α:Type} {sz:α→Nat} {l:List α} {x:α} (h:x∈l):sz x≤szL sz l:=by
 unfold szL
 induction l with
 |nil=>cases h
 |cons y r ih=>
  simp only [List.map_cons,List.sum_cons]
  rcases List.mem_cons.1 h with rfl|h
  ·omega
  ·have:=ih h;omega
mutual
def RE.nodes:RE→Nat
 | .mk _ _ _ _ _ _ args=>nodesL args+1
def nodesL:List RE→Nat
 |[]=>0
 |e::r=>e.nodes+nodesL r
end
theorem nodesL_sum (l:List RE):nodesL l=(l.map RE.nodes).sum:=by
 induction l with
 |nil=>simp [nodesL]
 |cons x r ih=>simp only [nodesL,List.map_cons,List.sum_cons,ih]
theorem RE.nodes_pos (e:RE):1≤e.nodes:=by cases e;simp only [RE.nodes];omega
def exAll (w:World) (F:Nat→Prop) (e:RE):Prop:=∀d,exIs d w F e
def RFor.sz (f:RFor):Nat:=f.cols.length+1
def RTab.sz (t:RTab):Nat:=t.cols.length+t.key.length+szL RFor.sz t.fors+szL RE.nodes t.chks
def REn.sz (x:REn):Nat:=x.create.sz+1
def Hld.sm (x:Hld):Prop:=x.name.size≤maxLen∧x.table.size≤maxLen
def Pol.sm (x:Pol):Prop:=x.table.size≤maxLen
def Hor.sm (x:Hor):Prop:=x.table.size≤maxLen
def RCol.sm (x:RCol):Prop:=x.name.size≤maxLen
def RFor.sm (x:RFor):Prop:=x.table.size≤maxLen
structure RTab.sm (t:RTab):Prop where
 name:t.name.size≤maxLen
 cols:∀x∈t.cols,x.sm
 fors:∀x∈t.fors,x.sm
structure Chn.sm (x:Chn):Prop where
 name:x.name.size≤maxLen
 to:x.to.size≤maxLen
 cname:x.cname.size≤maxLen
structure REn.sm (x:REn):Prop where
 table:x.table.size≤maxLen
 create:x.create.sm
 change:x.change.sm
theorem opn_intE {B:Nat}:OpnB B enc w 3 (fun cs x=>cs=intE x∧True) (fun _=>1):=by
 intro fuel cs x h _
 obtain ⟨n,⟨e,_⟩,hb⟩:=opn_int underlying3 _ _ _ h
 exact ⟨n,⟨e,trivial⟩,hb⟩
theorem opn_rect2 {B:Nat}:OpnB B enc w 85 (fun cs (x:(Int×Int)×(Int×Int))=>cs=[.int .i64 x.1.1,.int .i64 x.1.2,.int .i64 x.2.1,.int .i64 x.2.2]∧True) (fun _=>1):=by
 intro fuel cs x h hB
 obtain ⟨hl,n,xs,hxl,hb,hf⟩:=opn_fields underlying85 h
 rw [show prog.cellsOf 85 =4 from by kernel_rfl] at hl
 match cs,hl with
 |[c0,c1,c2,c3],_=>
 match xs,hxl with
 |[y0,y1],_=>
 simp only [List.map_cons,List.map_nil,Rows.uptoBulkAll] at hb
 have h0:=hf 0 _ rfl
 have h1:=hf 1 _ rfl
 obtain ⟨⟨a,b⟩,e0,_⟩:=opn_per _ _ _ h0
 have e0':[c0,c1]=[.int .i64 a,.int .i64 b]:=e0
 obtain ⟨⟨c,d⟩,e1,_⟩:=opn_per _ _ _ h1
 have e1':[c2,c3]=[.int .i64 c,.int .i64 d]:=e1
 simp only [List.cons.injEq,and_true] at e0' e1'
 obtain ⟨f0_0,f0_1⟩:=e0'
 subst f0_0
 subst f0_1
 obtain ⟨f1_0,f1_1⟩:=e1'
 subst f1_0
 subst f1_1
 exact ⟨((a,b),(c,d)),⟨rfl,trivial⟩,bulk_one _⟩
theorem opn_hold {B:Nat}:OpnB B enc w 87 (fun cs x=>cs=Hld.enc x∧x.sm) (fun _=>1):=by
 intro fuel cs x h hB
 obtain ⟨hl,n,xs,hxl,hb,hf⟩:=opn_fields underlying87 h
 rw [show prog.cellsOf 87 =6 from by kernel_rfl] at hl
 match cs,hl with
 |[c0,c1,c2,c3,c4,c5],_=>
 match xs,hxl with
 |[y0,y1,y2],_=>
 simp only [List.map_cons,List.map_nil,Rows.uptoBulkAll] at hb
 have h0:=hf 0 _ rfl
 have h1:=hf 1 _ rfl
 have h2:=hf 2 _ rfl
 obtain ⟨a,⟨e0,l0⟩,_⟩:=opn_str underlying9 _ _ _ h0
 have e0':[c0]=[.string (strB a)]:=e0
 obtain ⟨b,⟨e1,l1⟩,_⟩:=opn_str underlying9 _ _ _ h1
 have e1':[c1]=[.string (strB b)]:=e1
 obtain ⟨R,⟨e2,g2⟩,s2⟩:=opn_rect2 (B:=B) _ _ _ h2 (by omega)
 have e2':[c2,c3,c4,c5]=[.int .i64 R.1.1,.int .i64 R.1.2,.int .i64 R.2.1,.int .i64 R.2.2]:=e2
 simp only [List.cons.injEq,and_true] at e0' e1' e2'
 subst e0'
 subst e1'
 obtain ⟨f2_0,f2_1,f2_2,f2_3⟩:=e2'
 subst f2_0
 subst f2_1
 subst f2_2
 subst f2_3
 exact ⟨⟨strB a,strB b,R.1.1,R.1.2,R.2.1,R.2.2⟩,⟨rfl,⟨by rw [strB_size];exact l0,by rw [strB_size];exact l1⟩⟩,bulk_one _⟩
theorem opn_pol {B:Nat}:OpnB B enc w 90 (fun cs x=>cs=Pol.enc x∧x.sm) (fun _=>1):=by
 intro fuel cs x h hB
 obtain ⟨hl,n,xs,hxl,hb,hf⟩:=opn_fields underlying90 h
 rw [show prog.cellsOf 90 =2 from by kernel_rfl] at hl
 match cs,hl with
 |[c0,c1],_=>
 match xs,hxl with
 |[y0,y1],_=>
 simp only [List.map_cons,List.map_nil,Rows.uptoBulkAll] at hb
 have h0:=hf 0 _ rfl
 have h1:=hf 1 _ rfl
 obtain ⟨a,⟨e0,l0⟩,_⟩:=opn_str underlying9 _ _ _ h0
 have e0':[c0]=[.string (strB a)]:=e0
 obtain ⟨k,⟨e1,_⟩,_⟩:=opn_int underlying3 _ _ _ h1
 have e1':[c1]=[.int .i64 k]:=e1
 simp only [List.cons.injEq,and_true] at e0' e1'
 subst e0'
 subst e1'
 exact ⟨⟨strB a,k⟩,⟨rfl,by show (strB a).size≤maxLen;rw [strB_size];exact l0⟩,bulk_one _⟩
theorem opn_hor {B:Nat}:OpnB B enc w 93 (fun cs x=>cs=Hor.enc x∧x.sm) (fun _=>1):=by
 intro fuel cs x h hB
 obtain ⟨hl,n,xs,hxl,hb,hf⟩:=opn_fields underlying93 h
 rw [show prog.cellsOf 93 =2 from by kernel_rfl] at hl
 match cs,hl with
 |[c0,c1],_=>
 match xs,hxl with
 |[y0,y1],_=>
 simp only [List.map_cons,List.map_nil,Rows.uptoBulkAll] at hb
 have h0:=hf 0 _ rfl
 have h1:=hf 1 _ rfl
 obtain ⟨a,⟨e0,l0⟩,_⟩:=opn_str underlying9 _ _ _ h0
 have e0':[c0]=[.string (strB a)]:=e0
 obtain ⟨k,⟨e1,_⟩,_⟩:=opn_int underlying3 _ _ _ h1
 have e1':[c1]=[.int .i64 k]:=e1
 simp only [List.cons.injEq,and_true] at e0' e1'
 subst e0'
 subst e1'
 exact ⟨⟨strB a,k⟩,⟨rfl,by show (strB a).size≤maxLen;rw [strB_size];exact l0⟩,bulk_one _⟩
theorem opn_col {B:Nat}:OpnB B enc w 75 (fun cs x=>cs=RCol.enc x∧x.sm) (fun _=>1):=by
 intro fuel cs x h hB
 obtain ⟨hl,n,xs,hxl,hb,hf⟩:=opn_fields underlying75 h
 rw [show prog.cellsOf 75 =3 from by kernel_rfl] at hl
 match cs,hl with
 |[c0,c1,c2],_=>
 match xs,hxl with
 |[y0,y1,y2],_=>
 simp only [List.map_cons,List.map_nil,Rows.uptoBulkAll] at hb
 have h0:=hf 0 _ rfl
 have h1:=hf 1 _ rfl
 have h2:=hf 2 _ rfl
 obtain ⟨a,⟨e0,l0⟩,_⟩:=opn_str underlying9 _ _ _ h0
 have e0':[c0]=[.string (strB a)]:=e0
 obtain ⟨k,⟨e1,_⟩,_⟩:=opn_int underlying3 _ _ _ h1
 have e1':[c1]=[.int .i64 k]:=e1
 obtain ⟨b,e2,_⟩:=opn_bool underlying4 _ _ _ h2
 have e2':[c2]=[.bool b]:=e2
 simp only [List.cons.injEq,and_true] at e0' e1' e2'
 subst e0'
 subst e1'
 subst e2'
 exact ⟨⟨strB a,k,b⟩,⟨rfl,by show (strB a).size≤maxLen;rw [strB_size];exact l0⟩,bulk_one _⟩
theorem opn_for {B:Nat}:OpnB B enc w 158 (fun cs x=>cs=RFor.enc x∧x.is w (ltw w)∧x.sm) RFor.sz:=by
 intro fuel cs x h hB
 obtain ⟨hl,n,xs,hxl,hb,hf⟩:=opn_fields underlying158 h
 rw [show prog.cellsOf 158 =2 from by kernel_rfl] at hl
 match cs,hl with
 |[c0,c1],_=>
 match xs,hxl with
 |[y0,y1],_=>
 simp only [List.map_cons,List.map_nil,Rows.uptoBulkAll] at hb
 have h0:=hf 0 _ rfl
 have h1:=hf 1 _ rfl
 obtain ⟨l,⟨v0,e0,r0⟩,s0⟩:=opn_listB (c:=1) (B:=B) underlying69 (by kernel_rfl) opn_intE (by omega) _ _ _ h0 (by omega)
 have e0':[c0]=[v0]:=e0
 obtain ⟨a,⟨e1,l1⟩,_⟩:=opn_str underlying9 _ _ _ h1
 have e1':[c1]=[.string (strB a)]:=e1
 simp only [List.cons.injEq,and_true] at e0' e1'
 subst e0'
 subst e1'
 obtain ⟨hr,_⟩:=rdE_of r0
 obtain ⟨A,c,rfl⟩:=rdE_slice hr
 have z0:=szL_len (sz:=fun _:Int=>1) (fun _=>Nat.le_refl _) l
 exact ⟨⟨A,c,l,strB a⟩,⟨rfl,hr,by show (strB a).size≤maxLen;rw [strB_size];exact l1⟩,by show l.length+1≤_;omega⟩
theorem opn_chn {B:Nat}:OpnB B enc w 77 (fun cs (x:Chn)=>cs=x.enc∧goV x.def_∧x.sm) (fun _=>1):=by
 intro fuel cs x h hB
 obtain ⟨hl,n,xs,hxl,hb,hf⟩:=opn_fields underlying77 h
 rw [show prog.cellsOf 77 =9 from by kernel_rfl] at hl
 match cs,hl with
 |[c0,c1,c2,c3,c4,c5,c6,c7,c8],_=>
 match xs,hxl with
 |[y0,y1,y2,y3,y4],_=>
 simp only [List.map_cons,List.map_nil,Rows.uptoBulkAll] at hb
 have h0:=hf 0 _ rfl
 have h1:=hf 1 _ rfl
 have h2:=hf 2 _ rfl
 have h3:=hf 3 _ rfl
 have h4:=hf 4 _ rfl
 obtain ⟨k,⟨e0,_⟩,_⟩:=opn_int underlying3 _ _ _ h0
 have e0':[c0]=[.int .i64 k]:=e0
 obtain ⟨a,⟨e1,l1⟩,_⟩:=opn_str underlying9 _ _ _ h1
 have e1':[c1]=[.string (strB a)]:=e1
 obtain ⟨b,⟨e2,l2⟩,_⟩:=opn_str underlying9 _ _ _ h2
 have e2':[c2]=[.string (strB b)]:=e2
 obtain ⟨C,⟨e3,g3⟩,s3⟩:=opn_col (B:=B) _ _ _ h3 (by omega)
 have e3':[c3,c4,c5]=[.string C.name,.int .i64 C.kind,.bool C.null]:=e3
 obtain ⟨V,⟨e4,g4⟩,_⟩:=opn_val _ _ _ h4
 have e4':[c6,c7,c8]=[.int .i64 V.kind,.int .i64 V.int,.string V.text]:=e4
 simp only [List.cons.injEq,and_true] at e0' e1' e2' e3' e4'
 subst e0'
 subst e1'
 subst e2'
 obtain ⟨f3_0,f3_1,f3_2⟩:=e3'
 subst f3_0
 subst f3_1
 subst f3_2
 obtain ⟨f4_0,f4_1,f4_2⟩:=e4'
 subst f4_0
 subst f4_1
 subst f4_2
 exact ⟨⟨k,strB a,strB b,C.name,C.kind,C.null,V⟩,⟨rfl,g4,by show (strB a).size≤maxLen;rw [strB_size];exact l1,by show (strB b).size≤maxLen;rw [strB_size];exact l2,g3⟩,bulk_one _⟩
theorem opn_exp:∀(B:Nat),OpnB B enc w 117 (fun cs (x:RE)=>cs=x.enc∧exAll w (ltw w) x) RE.nodes:=by
 intro B
 induction B with
 |zero=>intro fuel cs x _ hB;have:=bulk_one x.1;omega
 |succ B ih=>
 intro fuel cs x h hB
 obtain ⟨hl,n,xs,hxl,hb,hf⟩:=opn_fields underlying117 h
 rw [show prog.cellsOf 117 =7 from by kernel_rfl] at hl
 match cs,hl with
 |[c0,c1,c2,c3,c4,c5,c6],_=>
 match xs,hxl with
 |[y0,y1,y2,y3,y4],_=>
 simp only [List.map_cons,List.map_nil,Rows.uptoBulkAll] at hb
 have h0:=hf 0 _ rfl
 have h1:=hf 1 _ rfl
 have h2:=hf 2 _ rfl
 have h3:=hf 3 _ rfl
 have h4:=hf 4 _ rfl
 obtain ⟨k,⟨e0,_⟩,_⟩:=opn_int underlying3 _ _ _ h0
 have e0':[c0]=[.int .i64 k]:=e0
 obtain ⟨k2,⟨e1,_⟩,_⟩:=opn_int underlying3 _ _ _ h1
 have e1':[c1]=[.int .i64 k2]:=e1
 obtain ⟨V,⟨e2,g2⟩,_⟩:=opn_val _ _ _ h2
 have e2':[c2,c3,c4]=[.int .i64 V.kind,.int .i64 V.int,.string V.text]:=e2
 obtain ⟨a,⟨e3,l3⟩,_⟩:=opn_str underlying9 _ _ _ h3
 have e3':[c5]=[.string (strB a)]:=e3
 obtain ⟨l,⟨v4,e4,r4⟩,s4⟩:=opn_listB (c:=7) (B:=B) underlying71 (by kernel_rfl) ih (by omega) _ _ _ h4 (by omega)
 have e4':[c6]=[v4]:=e4
 simp only [List.cons.injEq,and_true] at e0' e1' e2' e3' e4'
 subst e0'
 subst e1'
 obtain ⟨f2_0,f2_1,f2_2⟩:=e2'
 subst f2_0
 subst f2_1
 subst f2_2
 subst e3'
 subst e4'
 obtain ⟨hr,hi⟩:=rdE_of r4
 obtain ⟨A,c,rfl⟩:=rdE_slice hr
 refine ⟨.mk k k2 V (strB a) A c l,⟨rfl,fun d=>?_⟩,?_⟩
 ·cases d with
  |zero=>trivial
  |succ d=>exact ⟨hr,g2,by rw [strB_size];exact l3,fun x hx=>hi x hx d⟩
 ·show nodesL l+1≤_
  rw [nodesL_sum]
  unfold szL at s4
  omega
theorem opn_tab {B:Nat}:OpnB B enc w 73 (fun cs (x:RTab)=>cs=x.enc∧x.is w (ltw w)∧(∀e∈x.chks,exAll w (ltw w) e)∧x.sm) RTab.sz:=by
 intro fuel cs x h hB
 obtain ⟨hl,n,xs,hxl,hb,hf⟩:=opn_fields underlying73 h
 rw [show prog.cellsOf 73 =5 from by kernel_rfl] at hl
 match cs,hl with
 |[c0,c1,c2,c3,c4],_=>
 match xs,hxl with
 |[y0,y1,y2,y3,y4],_=>
 simp only [List.map_cons,List.map_nil,Rows.uptoBulkAll] at hb
 have h0:=hf 0 _ rfl
 have h1:=hf 1 _ rfl
 have h2:=hf 2 _ rfl
 have h3:=hf 3 _ rfl
 have h4:=hf 4 _ rfl
 obtain ⟨a,⟨e0,l0⟩,_⟩:=opn_str underlying9 _ _ _ h0
 have e0':[c0]=[.string (strB a)]:=e0
 obtain ⟨cols,⟨v1,e1,r1⟩,s1⟩:=opn_listB (c:=3) (B:=B) underlying68 (by kernel_rfl) opn_col (by omega) _ _ _ h1 (by omega)
 have e1':[c1]=[v1]:=e1
 obtain ⟨key,⟨v2,e2,r2⟩,s2⟩:=opn_listB (c:=1) (B:=B) underlying69 (by kernel_rfl) opn_intE (by omega) _ _ _ h2 (by omega)
 have e2':[c2]=[v2]:=e2
 obtain ⟨fors,⟨v3,e3,r3⟩,s3⟩:=opn_listB (c:=2) (B:=B) underlying70 (by kernel_rfl) opn_for (by omega) _ _ _ h3 (by omega)
 have e3':[c3]=[v3]:=e3
 obtain ⟨chks,⟨v4,e4,r4⟩,s4⟩:=opn_listB (c:=7) (B:=B) underlying71 (by kernel_rfl) (opn_exp B) (by omega) _ _ _ h4 (by omega)
 have e4':[c4]=[v4]:=e4
 simp only [List.cons.injEq,and_true] at e0' e1' e2' e3' e4'
 subst e0'
 subst e1'
 subst e2'
 subst e3'
 subst e4'
 obtain ⟨hr1,hi1⟩:=rdE_of r1
 obtain ⟨A1,c1',rfl⟩:=rdE_slice hr1
 obtain ⟨hr2,hi2⟩:=rdE_of r2
 obtain ⟨A2,c2',rfl⟩:=rdE_slice hr2
 obtain ⟨hr3,hi3⟩:=rdE_of r3
 obtain ⟨A3,c3',rfl⟩:=rdE_slice hr3
 obtain ⟨hr4,hi4⟩:=rdE_of r4
 obtain ⟨A4,c4',rfl⟩:=rdE_slice hr4
 have z1:=szL_len (sz:=fun _:RCol=>1) (fun _=>Nat.le_refl _) cols
 have z2:=szL_len (sz:=fun _:Int=>1) (fun _=>Nat.le_refl _) key
 exact ⟨⟨strB a,A1,c1',cols,A2,c2',key,A3,c3',fors,A4,c4',chks⟩,⟨rfl,⟨hr1,hr2,hr3,fun x hx=>(hi3 x hx).1,hr4,fun x hx=>(hi4 x hx) 24⟩,hi4,⟨by show (strB a).size≤maxLen;rw [strB_size];exact l0,hi1,fun x hx=>(hi3 x hx).2⟩⟩,by show cols.length+key.length+szL RFor.sz fors+szL RE.nodes chks≤_;omega⟩
theorem opn_en {B:Nat}:OpnB B enc w 79 (fun cs (x:REn)=>cs=x.enc∧x.create.is w (ltw w)∧(∀e∈x.create.chks,exAll w (ltw w) e)∧x.change.def_.text.size≤maxLen∧x.sm) REn.sz:=by
 intro fuel cs x h hB
 obtain ⟨hl,n,xs,hxl,hb,hf⟩:=opn_fields underlying79 h
 rw [show prog.cellsOf 79 =16 from by kernel_rfl] at hl
 match cs,hl with
 |[c0,c1,c2,c3,c4,c5,c6,c7,c8,c9,c10,c11,c12,c13,c14,c15],_=>
 match xs,hxl with
 |[y0,y1,y2,y3],_=>
 simp only [List.map_cons,List.map_nil,Rows.uptoBulkAll] at hb
 have h0:=hf 0 _ rfl
 have h1:=hf 1 _ rfl
 have h2:=hf 2 _ rfl
 have h3:=hf 3 _ rfl
 obtain ⟨k,⟨e0,_⟩,_⟩:=opn_int underlying3 _ _ _ h0
 have e0':[c0]=[.int .i64 k]:=e0
 obtain ⟨a,⟨e1,l1⟩,_⟩:=opn_str underlying9 _ _ _ h1
 have e1':[c1]=[.string (strB a)]:=e1
 obtain ⟨T,⟨e2,g2⟩,s2⟩:=opn_tab (B:=B) _ _ _ h2 (by omega)
 have e2':[c2,c3,c4,c5,c6]=[.string T.name,.slice T.colA T.cols.length T.colC,.slice T.keyA T.key.length T.keyC,.slice T.forA T.fors.length T.forC,.slice T.chkA T.chks.length T.chkC]:=e2
 obtain ⟨C,⟨e3,g3⟩,s3⟩:=opn_chn (B:=B) _ _ _ h3 (by omega)
 have e3':[c7,c8,c9,c10,c11,c12,c13,c14,c15]=[.int .i64 C.kind,.string C.name,.string C.to,.string C.cname,.int .i64 C.ckind,.bool C.cnull,.int .i64 C.def_.kind,.int .i64 C.def_.int,.string C.def_.text]:=e3
 simp only [List.cons.injEq,and_true] at e0' e1' e2' e3'
 subst e0'
 subst e1'
 obtain ⟨f2_0,f2_1,f2_2,f2_3,f2_4⟩:=e2'
 subst f2_0
 subst f2_1
 subst f2_2
 subst f2_3
 subst f2_4
 obtain ⟨f3_0,f3_1,f3_2,f3_3,f3_4,f3_5,f3_6,f3_7,f3_8⟩:=e3'
 subst f3_0
 subst f3_1
 subst f3_2
 subst f3_3
 subst f3_4
 subst f3_5
 subst f3_6
 subst f3_7
 subst f3_8
 exact ⟨⟨k,strB a,T,C⟩,⟨rfl,g2.1,g2.2.1,g3.1.2.2,⟨by show (strB a).size≤maxLen;rw [strB_size];exact l1,g2.2.2,g3.2⟩⟩,by show T.sz+1≤_;omega⟩
theorem REn.sz_few {x:REn} {n:Nat} (h:x.sz≤n):(x.create.cols.length≤n∧x.create.key.length≤n∧x.create.fors.length≤n∧x.create.chks.length≤n)∧∀e∈x.create.chks,e.nodes≤n:=by
 unfold REn.sz RTab.sz at h
 have h1:=szL_len (sz:=RFor.sz) (fun a=>by unfold RFor.sz;omega) x.create.fors
 have h2:=szL_len (sz:=RE.nodes) RE.nodes_pos x.create.chks
 refine ⟨⟨by omega,by omega,by omega,by omega⟩,fun e he=>?_⟩
 have h3:=szL_mem (sz:=RE.nodes) he
 omega
end
end Go.Proofs.YtgfhknnklapldaaGreatDoor
