/-
 Arg1
-/
import Derived.Test.YtgfhknnklapldaaGreatDoorBVer
import Derived.Test.YtgfhknnklapldaaGreatDoorRows
import Derived.Test.YtgfhknnklapldaaGreatDoorBBase
import Derived.ProofKit
import Derived.OpenShut
import Derived.JoinedCond
import Derived.SizedLaws
import Derived.Deep.CondSized
import Derived.Deep.Slices
import Derived.Deep.Matrix
import Derived.WideKeyArgs
import Derived.ChangeSame
namespace Go.Proofs.YtgfhknnklapldaaGreatDoor
open Go.Proofs.Tryz
set_option maxRecDepth 99999
set_option maxHeartbeats 0
section
open Go.ChangeShapes Go.WideShapes Go.ChangeAt Go.RowKit Go.Lib Go.Deep
theorem own_knob:ownKnob prog.godebug=none:=by kernel_rfl
theorem laid_out:laidOutB prog=true:=by kernel_rfl
section
variable {H:Type} {enc:TypeId×Value→H} {P:Program}
theorem trodAll_below (hl:laidOutB P=true) {W W':World} {sp:Nat→Bool} (hb:Bl W W'):∀ {ts:List TypeId} {vs:List Value} {ds:List (DataW H)} {ps:List MemPlace},
  (∀t∈ts,P.readableRec t=true∧t<P.types.size)→DataW.TrodAll enc P W 0 (fun _=>true) true ts vs ds ps→(∀p∈ps,p.block<W.heap.size)→(∀p∈ps,sp p.block=true)→DataW.TrodAll enc P W' 0 sp true ts vs ds ps
 |[],[],[],_,_,h,_,_=>h
 |t::ts,v::vs,d::ds,_,ht,h,hlt,hsp=>by
  obtain ⟨p,q,h1,h2,rfl⟩:=h
  have hh:=ht t (List.mem_cons_self ..)
  exact ⟨p,q,WideElems.Trod_stays hl hh.1 hh.2 h1 (fun x hx=>hb.same (hlt x (List.mem_append_left _ hx))) (fun x hx=>hsp x (List.mem_append_left _ hx)),
   trodAll_below hl hb (fun t ht'=>ht t (List.mem_cons_of_mem _ ht')) h2 (fun x hx=>hlt x (List.mem_append_right _ hx)) (fun x hx=>hsp x (List.mem_append_right _ hx)),rfl⟩
 |[],_::_,_,_,_,h,_,_=>by cases h
 |[],[],_::_,_,_,h,_,_=>by cases h
 |_::_,[],_,_,_,h,_,_=>by cases h
 |_::_,_::_,[],_,_,h,_,_=>by cases h
theorem law_post (hl:laidOutB P=true) {f:Func} {s:ChangeSpec} {apart fresh handsOn:Bool} {W W':World} {args:Array Value} {ds gs:List (DataW H)} {before:List MemPlace} {tb:TypeId}
  (hts:(f.params.toList.all fun t=>P.readableRec t&&decide (t<P.types.size))=true) (hv:s.vars=[]) (hr:f.resultTypes=#[tb]) (hbool:P.underlying tb=some .bool)
  (hW:DataW.Whole enc P f.params.toList s.vars apart W args.toList ds gs before) (hfn:s.fn H ds= { results:=[.lit (.bool true)],args:=ds }) (hb:Bl W W'):
  s.post enc P f apart fresh handsOn false W args (.bool true) W':=by
 have hW':=hW
 obtain ⟨p,q,hA,hV,rfl,hz,hn⟩:=hW
 rw [hv] at hV
 obtain ⟨rfl,rfl⟩:=trodVars_none hV
 have hlt:=DataW.TrodAll.lt hA
 have hts':∀t∈f.params.toList,P.readableRec t=true∧t<P.types.size:=fun t ht=>by have:=List.all_eq_true.1 hts t ht;simpa using this
 refine ⟨ds,[],p++[],[],p,[],hW',?_,?_,?_,?_,fun h=>by cases h⟩
 ·rw [List.append_nil,hfn,hr]
  exact ⟨[],[],shut_bool hbool _,rfl,rfl⟩
 ·rw [List.append_nil,hfn]
  exact trodAll_below hl hb hts' hA hlt fun x hx=>by simpa using hlt x hx
 ·rw [hv,List.append_nil,hfn]
  simp [DataW.TrodVars]
 ·exact World.keptBut_mono (fun x hx=>⟨hx,Or.inr (Or.inl (by simpa using hx))⟩) (hb.frame (·∈p++[]))
end
theorem int_bd {n:Int} (h:(Lit.int .i64 n).wf=true): -9223372036854775808≤n∧n≤9223372036854775807:=by
 simpa [Lit.wf,IntKind.min,IntKind.max,IntKind.signed,IntKind.bits] using h
theorem bulk_one {H:Type} (d:DataW H):1≤Rows.uptoBulk d:=by
 cases d with
 |lit l=>cases l<;>simp [Rows.uptoBulk]
 |_=>simp [Rows.uptoBulk]
theorem bulk_in {H:Type} (el sp:List (DataW H)):Rows.uptoBulkAll el≤Rows.uptoBulk (.slice el sp):=by
 simp only [Rows.uptoBulk]
 omega
theorem bulk_mem {H:Type} {l:List (DataW H)} {d:DataW H} (h:d∈l):Rows.uptoBulk d≤Rows.uptoBulkAll l:=by
 induction l with
 |nil=>cases h
 |cons x r ih=>
  simp only [Rows.uptoBulkAll]
  rcases List.mem_cons.1 h with rfl|h
  ·omega
  ·have:=ih h;omega
theorem bulk_append {H:Type} (a b:List (DataW H)):Rows.uptoBulkAll (a++b)=Rows.uptoBulkAll a+Rows.uptoBulkAll b:=by
 induction a with
 |nil=>simp [Rows.uptoBulkAll]
 |cons x r ih=>simp only [List.cons_append,Rows.uptoBulkAll,ih];omega
theorem bulk_bound {H:Type} {l gs:List (DataW H)} (h:Rows.uptoSmall H (l++gs)=true):Rows.uptoBulkAll l≤1048576:=by
 have h:Rows.uptoBulkAll (l++gs)≤1048576:=of_decide_eq_true h
 rw [bulk_append] at h
 omega
theorem bulk_arg {H:Type} {l gs:List (DataW H)} {d:DataW H} (h:Rows.uptoSmall H (l++gs)=true) (hd:d∈l):Rows.uptoBulk d≤1048576:=
 Nat.le_trans (bulk_mem hd) (bulk_bound h)
def Opn {H α:Type} (enc:TypeId×Value→H) (w:World) (t:TypeId) (R:List Value→α→Prop) (sz:α→Nat):Prop:=
 ∀(fuel:Nat) (cs:List Value) (x:DataW H×List MemPlace),DataW.trod enc prog w 0 (fun _=>true) true fuel t cs=some x→∃a,R cs a∧sz a≤Rows.uptoBulk x.1
def RdL {α:Type} (w:World) (F:Nat→Prop) (c:Nat) (R:List Value→α→Prop) (v:Value) (l:List α):Prop:=
 ∃ps:List (List Value×α),ps.map (·.2)=l∧Rd w F c v ps.length (ps.flatMap (·.1))∧∀p∈ps,p.1.length=c∧R p.1 p.2
def szL {α:Type} (sz:α→Nat) (l:List α):Nat:=(l.map sz).sum+1
section
variable {H:Type} {enc:TypeId×Value→H} {w:World} {t e:TypeId}
theorem opn_int {k:IntKind} (ht:prog.underlying t=some (.int k)):Opn enc w t (fun cs n=>cs=[.int k n]∧(Lit.int k n).wf=true) (fun _=>1):=by
 intro fuel cs x h
 obtain ⟨n,rfl,rfl,hw⟩:=DataW.trod_int ht h
 exact ⟨n,⟨rfl,hw⟩,by simp [Rows.uptoBulk]⟩
theorem opn_bool (ht:prog.underlying t=some .bool):Opn enc w t (fun cs b=>cs=[.bool b]) (fun _=>1):=by
 intro fuel cs x h
 obtain ⟨b,rfl,rfl⟩:=DataW.trod_bool ht h
 exact ⟨b,rfl,by simp [Rows.uptoBulk]⟩
theorem opn_str (ht:prog.underlying t=some .string):Opn enc w t (fun cs (l:List UInt8)=>cs=[.string (strB l)]∧l.length≤maxLen) (fun l=>l.length+1):=by
 intro fuel cs x h
 obtain ⟨s,rfl,rfl,hs⟩:=DataW.trod_string ht h
 exact ⟨s.data.toList,⟨by rw [strB_list],by rw [Array.length_toList];exact hs⟩,Nat.le_refl _⟩
theorem range_sum {α:Type} (f:Nat→α) (sz:α→Nat) (D:Nat→DataW H) (n:Nat) (h:∀i,i<n→sz (f i)≤Rows.uptoBulk (D i)):(((List.range n).map f).map sz).sum≤Rows.uptoBulkAll ((List.range n).map D):=by
 induction n with
 |zero=>simp
 |succ n ih=>
  have h1:=ih fun i hi=>h i (by omega)
  have h2:=h n (by omega)
  rw [List.range_succ,List.map_append,List.map_append,List.sum_append,List.map_append,bulk_append]
  simp only [List.map_cons,List.map_nil,List.sum_cons,List.sum_nil,Rows.uptoBulkAll]
  omega
theorem RdL.bytes {v:Value} {F:Nat→Prop} {l:List Int} (h:RdL w F 1 (fun cs n=>cs=[.int .u8 n]∧(Lit.int .u8 n).wf=true) v l):RdB w F v (l.map fun z=>UInt8.ofNat z.toNat):=by
 obtain ⟨ps,rfl,hr,hp⟩:=h
 have e:ps.flatMap (·.1)=bv ((ps.map (·.2)).map fun z=>UInt8.ofNat z.toNat):=by
  clear hr
  induction ps with
  |nil=>rfl
  |cons p ps ih=>
   obtain ⟨_,h1,h2⟩:=hp p (List.mem_cons_self ..)
   have hb:0≤p.2∧p.2≤255:=by simpa [Lit.wf,IntKind.min,IntKind.max,IntKind.signed,IntKind.bits] using h2
   rw [List.flatMap_cons,ih (fun q hq=>hp q (List.mem_cons_of_mem _ hq)),h1]
   simp only [List.map_cons,bv,List.cons_append,List.nil_append,List.cons.injEq,and_true]
   rw [←byte_of (by omega)]
   congr 1
   omega
 unfold RdB
 rw [List.length_map,List.length_map,←e]
 exact hr
theorem opn_fields {fs:Array Field} {fuel:Nat} {cs:List Value} {x:DataW H×List MemPlace} (ht:prog.underlying t=some (.struct fs)) (h:DataW.trod enc prog w 0 (fun _=>true) true fuel t cs=some x):
  cs.length=prog.cellsOf t∧∃(n:Nat) (xs:List (DataW H×List MemPlace)),xs.length=fs.size∧Rows.uptoBulk x.1=Rows.uptoBulkAll (xs.map (·.1))+1∧
   ∀(i:Nat) (f:Field),fs[i]? =some f→DataW.trod enc prog w 0 (fun _=>true) true n f.type ((cs.drop f.offset).take (prog.cellsOf f.type))=xs[i]? :=by
 obtain ⟨xs,n,_,rfl,hl,hx,hf⟩:=DataW.trod_struct ht h
 exact ⟨hl,n,xs,hx,by simp [Rows.uptoBulk],hf⟩
theorem Opn.arg {α:Type} {R:List Value→α→Prop} {sz:α→Nat} (h:Opn enc w t R sz) {v:Value} {d:DataW H} {ps:List MemPlace} (hd:DataW.Trod enc prog w 0 (fun _=>true) true t v d ps):∃a,R v.cells.toList a∧sz a≤Rows.uptoBulk d:=by
 obtain ⟨fuel,hf⟩:=hd
 exact h fuel _ _ hf
end
end
section
open Go.ChangeShapes Go.WideShapes Go.ChangeAt Go.RowKit Go.Lib Go.Deep
section
variable {H:Type} {enc:TypeId×Value→H} {w:World} {b0:Nat} {r:Reach}
instance:Inhabited Val:=⟨⟨0,0,⟨#[]⟩⟩⟩
def ValR (cs:List Value) (x:Val):Prop:=cs=x.cells∧goV x
theorem opn_val:Opn enc w 51 ValR (fun _=>1):=by
 intro fuel cs x h
 obtain ⟨hl,n,xs,hxl,hb,hf⟩:=opn_fields underlying51 h
 rw [show prog.cellsOf 51 =3 from by kernel_rfl] at hl
 match cs,hl with
 |[c0,c1,c2],_=>
 match xs,hxl with
 |[y0,y1,y2],_=>
 have h0:=hf 0 _ rfl
 have h1:=hf 1 _ rfl
 have h2:=hf 2 _ rfl
 obtain ⟨k,⟨e0,w0⟩,_⟩:=opn_int underlying3 _ _ _ h0
 obtain ⟨i,⟨e1,w1⟩,_⟩:=opn_int underlying3 _ _ _ h1
 obtain ⟨s,⟨e2,w2⟩,_⟩:=opn_str underlying9 _ _ _ h2
 have e0':[c0]=[.int .i64 k]:=e0
 have e1':[c1]=[.int .i64 i]:=e1
 have e2':[c2]=[.string (strB s)]:=e2
 simp only [List.cons.injEq,and_true] at e0' e1' e2'
 subst e0';subst e1';subst e2'
 have hi:=int_bd w1
 refine ⟨⟨k,i,strB s⟩,⟨rfl,hi.1,hi.2,by show (strB s).size≤maxLen;rw [strB_size];exact w2⟩,?_⟩
 exact bulk_one _
theorem rdV_of {F:Nat→Prop} {v:Value} {l:List Val} (h:RdL w F 3 ValR v l):RdV w F v l∧∀x∈l,goV x:=by
 obtain ⟨ps,rfl,hr,hp⟩:=h
 have e:ps.flatMap (·.1)=cv (ps.map (·.2)):=by
  clear hr
  induction ps with
  |nil=>rfl
  |cons p ps ih=>
   obtain ⟨_,h1,h2⟩:=hp p (List.mem_cons_self ..)
   rw [List.flatMap_cons,ih (fun q hq=>hp q (List.mem_cons_of_mem _ hq)),h1]
   rfl
 refine ⟨?_,fun x hx=>?_⟩
 ·unfold RdV
  rw [List.length_map,←e]
  exact hr
 ·obtain ⟨q,hq,rfl⟩:=List.mem_map.1 hx
  exact (hp q hq).2.2
def PerR (cs:List Value) (x:Int×Int):Prop:=cs=[.int .i64 x.1,.int .i64 x.2]
theorem opn_per:Opn enc w 54 PerR (fun _=>1):=by
 intro fuel cs x h
 obtain ⟨hl,n,xs,hxl,hb,hf⟩:=opn_fields underlying54 h
 rw [show prog.cellsOf 54 =2 from by kernel_rfl] at hl
 match cs,hl with
 |[c0,c1],_=>
 match xs,hxl with
 |[y0,y1],_=>
 have h0:=hf 0 _ rfl
 have h1:=hf 1 _ rfl
 obtain ⟨k,⟨e0,w0⟩,_⟩:=opn_int underlying3 _ _ _ h0
 obtain ⟨i,⟨e1,w1⟩,_⟩:=opn_int underlying3 _ _ _ h1
 have e0':[c0]=[.int .i64 k]:=e0
 have e1':[c1]=[.int .i64 i]:=e1
 simp only [List.cons.injEq,and_true] at e0' e1'
 subst e0';subst e1'
 exact ⟨(k,i),rfl,bulk_one _⟩
theorem open_str {v:Value} {d:DataW H} {ps:List MemPlace} (hval:Value.okWide prog w r b0 9 v) (h:DataW.Trod enc prog w 0 (fun _=>true) true 9 v d ps):
  ∃l:List UInt8,v=.string (strB l)∧l.length≤maxLen:=by
 obtain ⟨s,rfl⟩:=okWide_string underlying9 hval
 obtain ⟨l,⟨e,hl⟩,_⟩:=(opn_str (enc:=enc) (w:=w) underlying9).arg h
 simp only [Value.cells,List.cons.injEq,and_true] at e
 exact ⟨l,e,hl⟩
end
end
end Go.Proofs.YtgfhknnklapldaaGreatDoor
