/-
 SmJ
-/
import Derived.Test.YtbfdegkickjbpaaGreatHSmA
namespace Go.Proofs.YtbfdegkickjbpaaGreat
set_option maxRecDepth 1000000
set_option maxHeartbeats 32000000
open Go.ChangeShapes Go.WideShapes Go.ChangeAt Go.RowKit Go.Lib Go.Deep
section
variable {H:Type} {enc:TypeId×Value→H} {w:World}
instance:Inhabited RTv:=⟨⟨⟨#[]⟩,none,0,[]⟩⟩
instance instVP2:Inhabited VP:=⟨(default,default)⟩
def vpSz (p:VP):Nat:=p.2.row.length+1
def RTv.sz (p:RTv):Nat:=szL vpSz p.vers+1
theorem opn_stm {B:Nat}:OpnB B enc w 180 (fun cs x=>cs=Stm.enc x∧True) (fun _=>1):=by
 intro fuel cs x h _
 obtain ⟨hl,n,xs,hxl,hb,hf⟩:=opn_fields Tryz.underlying180 h
 rw [show Tryz.prog.cellsOf 180 =2 from by kernel_rfl] at hl
 match cs,hl with
 |[c0,c1],_=>
 match xs,hxl with
 |[y0,y1],_=>
 have h0:=hf 0 _ rfl
 have h1:=hf 1 _ rfl
 obtain ⟨a,⟨e0,_⟩,_⟩:=opn_int Tryz.underlying3 _ _ _ h0
 obtain ⟨b,⟨e1,_⟩,_⟩:=opn_int Tryz.underlying3 _ _ _ h1
 have e0':[c0]=[.int .i64 a]:=e0
 have e1':[c1]=[.int .i64 b]:=e1
 simp only [List.cons.injEq,and_true] at e0' e1'
 subst e0'
 subst e1'
 exact ⟨⟨a,b⟩,⟨rfl,trivial⟩,bulk_one _⟩
theorem opn_ver2 {B:Nat}:OpnB B enc w 167 (fun cs x=>cs=encVP x∧VerIs w (·<w.heap.size) x.1 x.2) vpSz:=by
 intro fuel cs x h hB
 obtain ⟨hl,n,xs,hxl,hb,hf⟩:=opn_fields Tryz.underlying167 h
 rw [show Tryz.prog.cellsOf 167 =9 from by kernel_rfl] at hl
 match cs,hl with
 |[c0,c1,c2,c3,c4,c5,c6,c7,c8],_=>
 match xs,hxl with
 |[y0,y1,y2,y3,y4,y5,y6],_=>
 simp only [List.map_cons,List.map_nil,Rows.uptoBulkAll] at hb
 have h0:=hf 0 _ rfl
 have h1:=hf 1 _ rfl
 have h2:=hf 2 _ rfl
 have h3:=hf 3 _ rfl
 have h4:=hf 4 _ rfl
 have h5:=hf 5 _ rfl
 have h6:=hf 6 _ rfl
 obtain ⟨n0,⟨e0,_⟩,_⟩:=opn_int Tryz.underlying3 _ _ _ h0
 obtain ⟨n1,⟨e1,_⟩,_⟩:=opn_int Tryz.underlying3 _ _ _ h1
 obtain ⟨row,⟨v,e2,hv⟩,s2⟩:=opn_listB (c:=3) (B:=B) Tryz.underlying64 (by kernel_rfl) opn_val.b (by omega) _ _ _ h2 (by omega)
 obtain ⟨⟨f3,t3⟩,e3,_⟩:=opn_per _ _ _ h3
 obtain ⟨⟨f4,t4⟩,e4,_⟩:=opn_per _ _ _ h4
 obtain ⟨n5,⟨e5,_⟩,_⟩:=opn_int Tryz.underlying3 _ _ _ h5
 obtain ⟨n6,⟨e6,_⟩,_⟩:=opn_int Tryz.underlying3 _ _ _ h6
 have e0':[c0]=[.int .i64 n0]:=e0
 have e1':[c1]=[.int .i64 n1]:=e1
 have e2':[c2]=[v]:=e2
 have e3':[c3,c4]=[.int .i64 f3,.int .i64 t3]:=e3
 have e4':[c5,c6]=[.int .i64 f4,.int .i64 t4]:=e4
 have e5':[c7]=[.int .i64 n5]:=e5
 have e6':[c8]=[.int .i64 n6]:=e6
 simp only [List.cons.injEq,and_true] at e0' e1' e2' e3' e4' e5' e6'
 obtain ⟨e3a,e3b⟩:=e3'
 obtain ⟨e4a,e4b⟩:=e4'
 subst e0';subst e1';subst e2';subst e3a;subst e3b;subst e4a;subst e4b;subst e5';subst e6'
 obtain ⟨hr,hg⟩:=rdV_of hv
 obtain ⟨A,c,rfl,_⟩:=hr.open_
 have z0:=szL_len (sz:=fun _:Val=>1) (fun _=>Nat.le_refl _) row
 exact ⟨(⟨n0,n1,A,row.length,c,f3,t3,f4,t4,n5,n6⟩,⟨n0,n1,row,f3,t3,f4,t4,n5,n6⟩),⟨rfl,⟨rfl,rfl,rfl,rfl,rfl,rfl,rfl,rfl,hr,hg⟩⟩,by show row.length+1≤_;omega⟩
theorem opn_tv {B:Nat}:OpnB B enc w 165 (fun cs (x:RTv)=>cs=x.enc∧x.is w (·<w.heap.size)) RTv.sz:=by
 intro fuel cs x h hB
 obtain ⟨hl,n,xs,hxl,hb,hf⟩:=opn_fields Tryz.underlying165 h
 rw [show Tryz.prog.cellsOf 165 =2 from by kernel_rfl] at hl
 match cs,hl with
 |[c0,c1],_=>
 match xs,hxl with
 |[y0,y1],_=>
 simp only [List.map_cons,List.map_nil,Rows.uptoBulkAll] at hb
 have h0:=hf 0 _ rfl
 have h1:=hf 1 _ rfl
 obtain ⟨a,⟨e0,l0⟩,_⟩:=opn_str Tryz.underlying9 _ _ _ h0
 have e0':[c0]=[.string (strB a)]:=e0
 obtain ⟨l,⟨v1,e1,r1⟩,s1⟩:=opn_listB (c:=9) (B:=B) Tryz.underlying55 (by kernel_rfl) opn_ver2 (by omega) _ _ _ h1 (by omega)
 have e1':[c1]=[v1]:=e1
 simp only [List.cons.injEq,and_true] at e0' e1'
 subst e0'
 subst e1'
 obtain ⟨hr,hi⟩:=rdE_of r1
 obtain ⟨A,c,rfl⟩:=rdE_slice hr
 exact ⟨⟨strB a,A,c,l⟩,⟨rfl,hr,hi⟩,by show szL vpSz l+1≤_;omega⟩
structure RSt.lim (w:World) (c:RSt):Prop where
 ents:c.ents.length≤1048576
 stms:c.stms.length≤1048576
 tabs:c.tabs.length≤1048576
 pla:c.pla.length≤1048576
 pol:c.pol.length≤1048576
 hor:c.hor.length≤1048576
 rows:∀d∈c.tabs,d.vers.length≤1048576∧∀f∈d.vers,f.2.row.length≤1048576
 exps:∀x∈c.ents,∀e∈x.create.chks,exAll w (·<w.heap.size) e∧e.nodes≤1048576
 entS:∀x∈c.ents,x.sm
 plaS:∀x∈c.pla,x.sm
 polS:∀x∈c.pol,x.sm
 horS:∀x∈c.hor,x.sm
 entZ:szL REn.sz c.ents≤1048576
 tabZ:szL RTv.sz c.tabs≤1048576
theorem RTv.sz_few {d:RTv} {n:Nat} (h:d.sz≤n):d.vers.length≤n∧∀f∈d.vers,f.2.row.length≤n:=by
 unfold RTv.sz at h
 have h1:=szL_len (sz:=vpSz) (fun a=>by unfold vpSz;omega) d.vers
 refine ⟨by omega,fun f hf=>?_⟩
 have h2:=szL_mem (sz:=vpSz) hf
 have h3:f.2.row.length≤vpSz f:=by unfold vpSz;omega
 omega
theorem RSt.lim.below {w w':World} {c:RSt} (h:c.lim w) (hb:Below w.heap.size w w'):c.lim w':=
 ⟨h.ents,h.stms,h.tabs,h.pla,h.pol,h.hor,h.rows,fun x hx e he=>⟨fun d=>exIs_below hb d e ((h.exps x hx e he).1 d),(h.exps x hx e he).2⟩,h.entS,h.plaS,h.polS,h.horS,h.entZ,h.tabZ⟩
theorem opn_state {B:Nat} (hBB:B≤1048576):OpnB B enc w 47 (fun cs (c:RSt)=>cs=c.enc∧c.is w (·<w.heap.size)∧c.lim w) (fun _=>1):=by
 intro fuel cs x h hB
 obtain ⟨hl,n,xs,hxl,hb,hf⟩:=opn_fields Tryz.underlying47 h
 rw [show Tryz.prog.cellsOf 47 =10 from by kernel_rfl] at hl
 match cs,hl with
 |[c0,c1,c2,c3,c4,c5,c6,c7,c8,c9],_=>
 match xs,hxl with
 |[y0,y1,y2,y3,y4,y5,y6,y7,y8,y9],_=>
 simp only [List.map_cons,List.map_nil,Rows.uptoBulkAll] at hb
 have h0:=hf 0 _ rfl
 have h1:=hf 1 _ rfl
 have h2:=hf 2 _ rfl
 have h3:=hf 3 _ rfl
 have h4:=hf 4 _ rfl
 have h5:=hf 5 _ rfl
 have h6:=hf 6 _ rfl
 have h7:=hf 7 _ rfl
 have h8:=hf 8 _ rfl
 have h9:=hf 9 _ rfl
 obtain ⟨a,⟨e0,_⟩,_⟩:=opn_int Tryz.underlying3 _ _ _ h0
 have e0':[c0]=[.int .i64 a]:=e0
 obtain ⟨b,⟨e1,_⟩,_⟩:=opn_int Tryz.underlying3 _ _ _ h1
 have e1':[c1]=[.int .i64 b]:=e1
 obtain ⟨c,⟨e2,_⟩,_⟩:=opn_int Tryz.underlying3 _ _ _ h2
 have e2':[c2]=[.int .i64 c]:=e2
 obtain ⟨d,⟨e3,_⟩,_⟩:=opn_int Tryz.underlying3 _ _ _ h3
 have e3':[c3]=[.int .i64 d]:=e3
 obtain ⟨ents,⟨v4,e4,r4⟩,s4⟩:=opn_listB (c:=16) (B:=B) Tryz.underlying22 (by kernel_rfl) opn_en (by omega) _ _ _ h4 (by omega)
 have e4':[c4]=[v4]:=e4
 obtain ⟨stms,⟨v5,e5,r5⟩,s5⟩:=opn_listB (c:=2) (B:=B) Tryz.underlying44 (by kernel_rfl) opn_stm (by omega) _ _ _ h5 (by omega)
 have e5':[c5]=[v5]:=e5
 obtain ⟨tabs,⟨v6,e6,r6⟩,s6⟩:=opn_listB (c:=2) (B:=B) Tryz.underlying45 (by kernel_rfl) opn_tv (by omega) _ _ _ h6 (by omega)
 have e6':[c6]=[v6]:=e6
 obtain ⟨pla,⟨v7,e7,r7⟩,s7⟩:=opn_listB (c:=6) (B:=B) Tryz.underlying24 (by kernel_rfl) opn_hold (by omega) _ _ _ h7 (by omega)
 have e7':[c7]=[v7]:=e7
 obtain ⟨pol,⟨v8,e8,r8⟩,s8⟩:=opn_listB (c:=2) (B:=B) Tryz.underlying26 (by kernel_rfl) opn_pol (by omega) _ _ _ h8 (by omega)
 have e8':[c8]=[v8]:=e8
 obtain ⟨hor,⟨v9,e9,r9⟩,s9⟩:=opn_listB (c:=2) (B:=B) Tryz.underlying27 (by kernel_rfl) opn_hor (by omega) _ _ _ h9 (by omega)
 have e9':[c9]=[v9]:=e9
 simp only [List.cons.injEq,and_true] at e0' e1' e2' e3' e4' e5' e6' e7' e8' e9'
 subst e0'
 subst e1'
 subst e2'
 subst e3'
 subst e4'
 subst e5'
 subst e6'
 subst e7'
 subst e8'
 subst e9'
 obtain ⟨hr4,hi4⟩:=rdE_of r4
 obtain ⟨A4,q4,rfl⟩:=rdE_slice hr4
 have z4:=szL_len (sz:=REn.sz) (fun a=>by unfold REn.sz;omega) ents
 obtain ⟨hr5,hi5⟩:=rdE_of r5
 obtain ⟨A5,q5,rfl⟩:=rdE_slice hr5
 have z5:=szL_len (sz:=(fun _:Stm=>1)) (fun a=>by exact Nat.le_refl _) stms
 obtain ⟨hr6,hi6⟩:=rdE_of r6
 obtain ⟨A6,q6,rfl⟩:=rdE_slice hr6
 have z6:=szL_len (sz:=RTv.sz) (fun a=>by unfold RTv.sz;omega) tabs
 obtain ⟨hr7,hi7⟩:=rdE_of r7
 obtain ⟨A7,q7,rfl⟩:=rdE_slice hr7
 have z7:=szL_len (sz:=(fun _:Hld=>1)) (fun a=>by exact Nat.le_refl _) pla
 obtain ⟨hr8,hi8⟩:=rdE_of r8
 obtain ⟨A8,q8,rfl⟩:=rdE_slice hr8
 have z8:=szL_len (sz:=(fun _:Pol=>1)) (fun a=>by exact Nat.le_refl _) pol
 obtain ⟨hr9,hi9⟩:=rdE_of r9
 obtain ⟨A9,q9,rfl⟩:=rdE_slice hr9
 have z9:=szL_len (sz:=(fun _:Hor=>1)) (fun a=>by exact Nat.le_refl _) hor
 refine ⟨⟨a,b,c,d,A4,q4,ents,A5,q5,stms,A6,q6,tabs,A7,q7,pla,A8,q8,pol,A9,q9,hor⟩,⟨rfl,⟨hr4,fun x hx=>?_,hr5,hr6,fun x hx=>hi6 x hx,hr7,hr8,hr9⟩,⟨by dsimp only;omega,by dsimp only;omega,by dsimp only;omega,by dsimp only;omega,by dsimp only;omega,by dsimp only;omega,fun x hx=>?_,fun x hx e he=>?_,fun x hx=>(hi4 x hx).2.2.2,hi7,hi8,hi9,by dsimp only;omega,by dsimp only;omega⟩⟩,bulk_one _⟩
 ·have h1:REn.sz x≤szL REn.sz ents:=szL_mem hx
  have h2:=REn.sz_few (x:=x) (n:=10000000000) (by omega)
  exact ⟨(hi4 x hx).1,h2.1,(hi4 x hx).2.2.1⟩
 ·have h1:RTv.sz x≤szL RTv.sz tabs:=szL_mem hx
  exact RTv.sz_few (d:=x) (n:=1048576) (by omega)
 ·have h1:REn.sz x≤szL REn.sz ents:=szL_mem hx
  exact ⟨(hi4 x hx).2.1 e he,(REn.sz_few (x:=x) (n:=1048576) (by omega)).2 e he⟩
theorem open_state {b0:Nat} {r:Reach} {v:Value} {d:DataW H} {ps:List MemPlace} (hval:Value.okWide Tryz.prog w r b0 47 v) (h:DataW.Trod enc Tryz.prog w 0 (fun _=>true) true 47 v d ps) (hd:Rows.uptoBulk d≤1048576):
  ∃c:RSt,v=.agg c.enc.toArray∧c.is w (·<w.heap.size)∧c.lim w:=by
 obtain ⟨a,rfl,_⟩:=okWide_struct Tryz.underlying47 hval
 obtain ⟨fuel,hf⟩:=h
 obtain ⟨c,⟨e,h1,h2⟩,_⟩:=opn_state (Nat.le_refl _) fuel _ _ hf hd
 refine ⟨c,?_,h1,h2⟩
 simp only [Value.cells] at e
 rw [←e,Array.toArray_toList]
end
end Go.Proofs.YtbfdegkickjbpaaGreat
