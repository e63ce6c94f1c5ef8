/-
 PbH
-/
import Derived.Test.YtgfhknnklapldaaGreatDoorBPbG
import Derived.Test.YtgfhknnklapldaaGreatDoorBPbE
import Derived.Test.YtgfhknnklapldaaGreatDoorBPbC
namespace Go.Proofs.YtgfhknnklapldaaGreatDoor
open Go.RowKit Go.Lib Go.IntWalk Go.Sort Go.Shelf
theorem yq13 {P:Prop} (i:Nat) (h:Th i→P:=by
 intro yT13
 have hne:c.tabs≠[]:=fun e=>by rw [e] at ht;cases ht
 have e1:=List.dropLast_concat_getLast hne
 have h2:t∈c.tabs.dropLast++[c.tabs.getLast hne]:=by rw [e1];exact ht
 rcases List.mem_append.1 h2 with h2|h2
 ·exact absurd h2 hd
 ·rw [List.mem_singleton] at h2
  first
   |guard_hyp yT13:Th 1;rw [h2];exact e1.symm
   |have hl:lastT c.tabs=t:=by rw [←e1,lastT_snoc];exact h2.symm
    have k:=own (verO (lastT c.tabs)) (List.mem_of_getElem? (i:=6) rfl)
    rw [hl] at k
    exact k) : P := h ⟨⟩
theorem yi8 {P:Prop} (h:P:=by unfold ownO;simpa using ho):P:=h
structure RowO where
 T:TypeId
 K:Nat
 v:Value
 n:Nat
 cs:List Value
def tvNil:RTv:=⟨⟨#[]⟩,none,0,[]⟩
def lastT:List RTv→RTv
 |[]=>tvNil
 |[t]=>t
 |_::u::r=>lastT (u::r)
theorem lastT_snoc (t:RTv):∀l:List RTv,lastT (l++[t])=t
 |[]=>rfl
 |[_]=>rfl
 |_::b::r=>lastT_snoc t (b::r)
def verO (t:RTv):RowO:=⟨56,9,.slice t.A t.vers.length t.C,t.vers.length,t.vers.flatMap encVP⟩
def rowsO (c:RSt):List RowO:=[⟨79,16,.slice c.eA c.ents.length c.eC,c.ents.length,c.ents.flatMap REn.enc⟩,⟨82,2,.slice c.sA c.stms.length c.sC,c.stms.length,c.stms.flatMap Stm.enc⟩,⟨37,2,.slice c.tA c.tabs.length c.tC,c.tabs.length,c.tabs.flatMap RTv.enc⟩,⟨87,6,.slice c.pA c.pla.length c.pC,c.pla.length,c.pla.flatMap Hld.enc⟩,⟨90,2,.slice c.qA c.pol.length c.qC,c.pol.length,c.pol.flatMap Pol.enc⟩,⟨93,2,.slice c.hA c.hor.length c.hC,c.hor.length,c.hor.flatMap Hor.enc⟩,verO (lastT c.tabs)]
def ownO (w:World) (b:Nat) (p:RowO):Prop:=w.ownsRow (b+1) p.T p.K p.v p.n p.cs
def frO (R:List RowO) (w:World) (b g:Nat):Prop:=b<g∧g<w.heap.size∧∀p∈R,some g≠p.v.ownBlock
structure InO (w:World) (F:Nat→Prop) (c:RSt):Prop where
 ents:∀x∈c.ents,x.is w F
 old:∀t∈c.tabs.dropLast,RdE 9 encVP w F (.slice t.A t.vers.length t.C) t.vers
 vers:∀t∈c.tabs,∀p∈t.vers,VerIs w F p.1 p.2
structure StO (w:World) (b:Nat) (c:RSt):Prop where
 own:∀p∈rowsO c,ownO w b p
 inn:InO w (frO (rowsO c) w b) c
theorem rTab_kw {w w':World} {F G:Nat→Prop} {t:RTab} (h:t.is w F) (hk:Keeps F w w') (hw:∀g,F g→G g):t.is w' G:=
 ⟨Rd.wide (Rd.keep h.cols hk) hw,Rd.wide (Rd.keep h.key hk) hw,Rd.wide (Rd.keep h.fors hk) hw,fun x hx=>Rd.wide (Rd.keep (h.forI x hx) hk) hw,Rd.wide (Rd.keep h.chks hk) hw,fun x hx=>exIs_wideQ hw 24 x (exIs_keepQ hk 24 x (h.chkI x hx))⟩
theorem rEn_kw {w w':World} {F G:Nat→Prop} {x:REn} (h:x.is w F) (hk:Keeps F w w') (hw:∀g,F g→G g):x.is w' G:=⟨rTab_kw h.create hk hw,h.few,h.text⟩
theorem InO.kw {w w':World} {F G:Nat→Prop} {c:RSt} (h:InO w F c) (hk:Keeps F w w') (hw:∀g,F g→G g):InO w' G c:=
 ⟨fun x hx=>rEn_kw (h.ents x hx) hk hw,fun t ht=>Rd.wide (Rd.keep (h.old t ht) hk) hw,fun t ht p hp=>((h.vers t ht p hp).keep hk).wide hw⟩
theorem own_blockO {w:World} {b:Nat} {p:RowO} (h:ownO w b p) {g:Nat} (hg:some g=p.v.ownBlock):b<g∧g<w.heap.size∧∃cur,w.heap[g]? =some (.cells cur p.T (0,0)):=by
 obtain ⟨h1,cur,h2⟩:=own_block h hg
 exact ⟨h1,(Array.getElem?_eq_some_iff.1 h2).1,cur,h2⟩
theorem own_neO {w:World} {b:Nat} {p q:RowO} (h:ownO w b p) (k:ownO w b q) (hT:p.T≠q.T) {g:Nat} (hg:some g=p.v.ownBlock):some g≠q.v.ownBlock:=fun e=>by
 obtain ⟨_,_,c1,h1⟩:=own_blockO h hg
 obtain ⟨_,_,c2,h2⟩:=own_blockO k e
 rw [h1] at h2
 injection h2 with h2
 injection h2 with _ h3
 exact hT h3
theorem own_keptO {w w':World} {b:Nat} {p:RowO} {row:Option Nat} (h:ownO w b p) (hg:w.grownBy w' row) (hne:∀g,some g=p.v.ownBlock→some g≠row):ownO w' b p:=by
 refine World.ownsRow.kept h hg ?_
 cases e:p.v.ownBlock with
 |none=>exact .inl rfl
 |some g=>exact .inr (hne g e.symm)
theorem rows_grow {w w':World} {b:Nat} {R:List RowO} {i:Nat} {p q:RowO} (hn:(R.map RowO.T).Nodup) (hi:R[i]? =some p) (hown:∀p∈R,ownO w b p) (hg:w.grownBy w' p.v.ownBlock) (ho:ownO w' b q)
  (hv:q.v.ownBlock=p.v.ownBlock∨q.v.ownBlock=some w.heap.size):
  (∀s∈R.set i q,ownO w' b s)∧Keeps (frO R w b) w w'∧∀g,frO R w b g→frO (R.set i q) w' b g:=by
 have hp:p∈R:=List.mem_of_getElem? hi
 refine ⟨fun s hs=>?_,fun g hg'=>hg.block g hg'.2.1 (hg'.2.2 p hp),fun g hg'=>⟨hg'.1,Nat.lt_of_lt_of_le hg'.2.1 hg.size,fun s hs=>?_⟩⟩
 ·obtain ⟨j,hj⟩:=List.mem_iff_getElem?.1 hs
  by_cases hij:i=j
  ·subst hij
   have hl:i<R.length:=(List.getElem?_eq_some_iff.1 hi).1
   rw [List.getElem?_set_self hl] at hj
   injection hj with hj;subst hj
   exact ho
  ·rw [List.getElem?_set_ne hij] at hj
   have hs2:s∈R:=List.mem_of_getElem? hj
   refine own_keptO (hown s hs2) hg fun g hg1=>own_neO (hown s hs2) (hown p hp) (fun e=>hij ?_) hg1
   have hl:i<(R.map RowO.T).length:=by rw [List.length_map];exact (List.getElem?_eq_some_iff.1 hi).1
   exact (List.getElem?_inj hl hn).1 (by rw [List.getElem?_map,List.getElem?_map,hi,hj];simp [e])
 ·rcases List.mem_or_eq_of_mem_set hs with hs|hs
  ·exact hg'.2.2 s hs
  ·subst hs
   rcases hv with hv|hv
   ·rw [hv];exact hg'.2.2 p hp
   ·rw [hv];intro e;injection e with e;have:=hg'.2.1;omega
theorem rows_nodup (c:RSt):((rowsO c).map RowO.T).Nodup:=by
 show ([79,82,37,87,90,93,56]:List TypeId).Nodup
 decide
theorem StO.chg {w w':World} {b:Nat} {c:RSt} (h:StO w b c) (hc:Chg (·=b) w w'):StO w' b c:=by
 have hg:w.grownBy w' (some b):=⟨hc.os,hc.tape,hc.output,hc.size,fun g hb hne=>hc.block g hb (fun e=>hne (by rw [e]))⟩
 refine ⟨fun p hp=>own_keptO (h.own p hp) hg fun g e e2=>?_,h.inn.kw (fun g hb=>hc.block g hb.2.1 (by have:=hb.1;omega)) fun g hb=>⟨hb.1,Nat.lt_of_lt_of_le hb.2.1 hc.size,hb.2.2⟩⟩
 injection e2 with e2
 have:=(own_blockO (h.own p hp) e).1
 omega
theorem StO.fresh {w w':World} {b:Nat} {c:RSt} (h:StO w b c) (hb:b<w.heap.size) {g:Nat} (h1:w.heap.size≤g) (h2:g<w'.heap.size):frO (rowsO c) w' b g:=
 ⟨by omega,h2,fun p hp e=>by have:=(own_blockO (h.own p hp) e).2.1;omega⟩
theorem own_slice {w:World} {base:Nat} {e:TypeId} {K n:Nat} {v:Value} {cs:List Value} (h:w.ownsRow base e K v (n+1) cs):∃A C,v=.slice A (n+1) C:=by
 rcases h.2 with ⟨_,h0⟩|⟨g,cap,cur,rfl,_⟩
 ·cases h0
 ·exact ⟨_,_,rfl⟩
section
variable {w w':World} {b:Nat} {c:RSt} {v:Value}
theorem StO.pushE (h:StO w b c) {x:REn} (hx:x.is w (frO (rowsO c) w b)) (ho:w'.ownsRow (b+1) 79 16 v (c.ents.length+1) (c.ents.flatMap REn.enc++x.enc)) (hg:w.grownBy w' (Value.slice c.eA c.ents.length c.eC).ownBlock) (hv:v.ownBlock=(Value.slice c.eA c.ents.length c.eC).ownBlock∨v.ownBlock=some w.heap.size):
  ∃A C,v=.slice A (c.ents.length+1) C∧StO w' b { c with eA:=A,eC:=C,ents:=c.ents++[x] }:=by
 obtain ⟨A,C,rfl⟩:=own_slice ho
 have hr:=rows_grow (i:=0) (q:=⟨79,16,.slice A (c.ents++[x]).length C,(c.ents++[x]).length,(c.ents++[x]).flatMap REn.enc⟩) (rows_nodup c) rfl h.own hg yi8 (by simpa using hv)
 have hi:=h.inn.kw hr.2.1 hr.2.2
 refine ⟨A,C,rfl,hr.1,fun y hy=>?_,hi.old,hi.vers⟩
 rcases List.mem_append.1 hy with hy|hy
 ·exact hi.ents y hy
 ·rw [List.mem_singleton] at hy
  subst hy
  exact rEn_kw hx hr.2.1 hr.2.2
theorem StO.pushS (h:StO w b c) {x:Stm} (ho:w'.ownsRow (b+1) 82 2 v (c.stms.length+1) (c.stms.flatMap Stm.enc++x.enc)) (hg:w.grownBy w' (Value.slice c.sA c.stms.length c.sC).ownBlock) (hv:v.ownBlock=(Value.slice c.sA c.stms.length c.sC).ownBlock∨v.ownBlock=some w.heap.size):
  ∃A C,v=.slice A (c.stms.length+1) C∧StO w' b { c with sA:=A,sC:=C,stms:=c.stms++[x] }:=by
 obtain ⟨A,C,rfl⟩:=own_slice ho
 have hr:=rows_grow (i:=1) (q:=⟨82,2,.slice A (c.stms++[x]).length C,(c.stms++[x]).length,(c.stms++[x]).flatMap Stm.enc⟩) (rows_nodup c) rfl h.own hg yi8 (by simpa using hv)
 have hi:=h.inn.kw hr.2.1 hr.2.2
 exact ⟨A,C,rfl,hr.1,hi.ents,hi.old,hi.vers⟩
theorem StO.pushP (h:StO w b c) {x:Hld} (ho:w'.ownsRow (b+1) 87 6 v (c.pla.length+1) (c.pla.flatMap Hld.enc++x.enc)) (hg:w.grownBy w' (Value.slice c.pA c.pla.length c.pC).ownBlock) (hv:v.ownBlock=(Value.slice c.pA c.pla.length c.pC).ownBlock∨v.ownBlock=some w.heap.size):
  ∃A C,v=.slice A (c.pla.length+1) C∧StO w' b { c with pA:=A,pC:=C,pla:=c.pla++[x] }:=by
 obtain ⟨A,C,rfl⟩:=own_slice ho
 have hr:=rows_grow (i:=3) (q:=⟨87,6,.slice A (c.pla++[x]).length C,(c.pla++[x]).length,(c.pla++[x]).flatMap Hld.enc⟩) (rows_nodup c) rfl h.own hg yi8 (by simpa using hv)
 have hi:=h.inn.kw hr.2.1 hr.2.2
 exact ⟨A,C,rfl,hr.1,hi.ents,hi.old,hi.vers⟩
theorem StO.pushQ (h:StO w b c) {x:Pol} (ho:w'.ownsRow (b+1) 90 2 v (c.pol.length+1) (c.pol.flatMap Pol.enc++x.enc)) (hg:w.grownBy w' (Value.slice c.qA c.pol.length c.qC).ownBlock) (hv:v.ownBlock=(Value.slice c.qA c.pol.length c.qC).ownBlock∨v.ownBlock=some w.heap.size):
  ∃A C,v=.slice A (c.pol.length+1) C∧StO w' b { c with qA:=A,qC:=C,pol:=c.pol++[x] }:=by
 obtain ⟨A,C,rfl⟩:=own_slice ho
 have hr:=rows_grow (i:=4) (q:=⟨90,2,.slice A (c.pol++[x]).length C,(c.pol++[x]).length,(c.pol++[x]).flatMap Pol.enc⟩) (rows_nodup c) rfl h.own hg yi8 (by simpa using hv)
 have hi:=h.inn.kw hr.2.1 hr.2.2
 exact ⟨A,C,rfl,hr.1,hi.ents,hi.old,hi.vers⟩
theorem StO.pushH (h:StO w b c) {x:Hor} (ho:w'.ownsRow (b+1) 93 2 v (c.hor.length+1) (c.hor.flatMap Hor.enc++x.enc)) (hg:w.grownBy w' (Value.slice c.hA c.hor.length c.hC).ownBlock) (hv:v.ownBlock=(Value.slice c.hA c.hor.length c.hC).ownBlock∨v.ownBlock=some w.heap.size):
  ∃A C,v=.slice A (c.hor.length+1) C∧StO w' b { c with hA:=A,hC:=C,hor:=c.hor++[x] }:=by
 obtain ⟨A,C,rfl⟩:=own_slice ho
 have hr:=rows_grow (i:=5) (q:=⟨93,2,.slice A (c.hor++[x]).length C,(c.hor++[x]).length,(c.hor++[x]).flatMap Hor.enc⟩) (rows_nodup c) rfl h.own hg yi8 (by simpa using hv)
 have hi:=h.inn.kw hr.2.1 hr.2.2
 exact ⟨A,C,rfl,hr.1,hi.ents,hi.old,hi.vers⟩
theorem StO.pushT (h:StO w b c) {nm:ByteArray} (ho:w'.ownsRow (b+1) 37 2 v (c.tabs.length+1) (c.tabs.flatMap RTv.enc++RTv.enc ⟨nm,none,0,[]⟩)) (hg:w.grownBy w' (Value.slice c.tA c.tabs.length c.tC).ownBlock) (hv:v.ownBlock=(Value.slice c.tA c.tabs.length c.tC).ownBlock∨v.ownBlock=some w.heap.size):
  ∃A C,v=.slice A (c.tabs.length+1) C∧StO w' b { c with tA:=A,tC:=C,tabs:=c.tabs++[⟨nm,none,0,[]⟩] }:=by
 obtain ⟨A,C,rfl⟩:=own_slice ho
 have hr:=rows_grow (i:=2) (q:=⟨37,2,.slice A (c.tabs++[(⟨nm,none,0,[]⟩:RTv)]).length C,(c.tabs++[(⟨nm,none,0,[]⟩:RTv)]).length,(c.tabs++[(⟨nm,none,0,[]⟩:RTv)]).flatMap RTv.enc⟩) (rows_nodup c) rfl h.own hg yi8 (by simpa using hv)
 have hR:rowsO { c with tA:=A,tC:=C,tabs:=c.tabs++[⟨nm,none,0,[]⟩] }=((rowsO c).set 2 ⟨37,2,.slice A (c.tabs++[(⟨nm,none,0,[]⟩:RTv)]).length C,(c.tabs++[(⟨nm,none,0,[]⟩:RTv)]).length,(c.tabs++[(⟨nm,none,0,[]⟩:RTv)]).flatMap RTv.enc⟩).set 6 (verO ⟨nm,none,0,[]⟩):=by
  unfold rowsO
  rw [lastT_snoc]
  rfl
 have hW:∀g,frO (rowsO c) w b g→frO (rowsO { c with tA:=A,tC:=C,tabs:=c.tabs++[⟨nm,none,0,[]⟩] }) w' b g:=fun g hg'=>by
  rw [hR]
  refine ⟨(hr.2.2 g hg').1,(hr.2.2 g hg').2.1,fun p hp=>?_⟩
  rcases List.mem_or_eq_of_mem_set hp with hp|hp
  ·exact (hr.2.2 g hg').2.2 p hp
  ·subst hp;simp [verO,Value.ownBlock]
 have hi:=h.inn.kw hr.2.1 hW
 have hl:ownO w' b (verO (lastT c.tabs)):=hr.1 _ (by simp [rowsO])
 refine ⟨A,C,by simp,?_,hi.ents,fun t ht=>?_,fun t ht p hp=>?_⟩
 ·rw [hR]
  intro p hp
  rcases List.mem_or_eq_of_mem_set hp with hp|hp
  ·exact hr.1 p hp
  ·subst hp;exact World.ownsRow_nil _ _ _ _
 ·have ht:t∈c.tabs:=by simpa using ht
  by_cases hd:t∈c.tabs.dropLast
  ·exact hi.old t hd
  ·have he:c.tabs=c.tabs.dropLast++[t]:=by
    exact yq13 1
   have hlt:lastT c.tabs=t:=by rw [he];exact lastT_snoc t _
   rw [hlt] at hl
   refine Rd.wide (Rd.of_own' hl) fun g hg'=>?_
   rw [hR]
   obtain ⟨g1,g2,_⟩:=own_blockO hl hg'.symm
   refine ⟨g1,g2,fun p hp=>?_⟩
   obtain ⟨j,hj⟩:=List.mem_iff_getElem?.1 hp
   rcases List.mem_or_eq_of_mem_set hp with hp2|hp2
   ·by_cases hT:p.T=56
    ·have:p=verO ⟨nm,none,0,[]⟩:=by
      simp only [rowsO,List.set,List.mem_cons,List.not_mem_nil,or_false] at hp
      rcases hp with rfl|rfl|rfl|rfl|rfl|rfl|rfl<;>first|rfl|(simp at hT)
     subst this
     simp [verO,Value.ownBlock]
    ·exact own_neO hl (hr.1 p hp2) (fun e=>hT e.symm) hg'.symm
   ·subst hp2;simp [verO,Value.ownBlock]
 ·rcases List.mem_append.1 ht with ht|ht
  ·exact hi.vers t ht p hp
  ·rw [List.mem_singleton] at ht
   subst ht
   cases hp
theorem own_setC {base:Nat} {e:TypeId} {K n:Nat} {cs:List Value} (h:w.ownsRow base e K v n cs) {g:Nat} (hg:some g=v.ownBlock) (j:Nat) (u:Value):(w.setCell ⟨g,j,none⟩ u).ownsRow base e K v n (cs.set j u)∧w.grownBy (w.setCell ⟨g,j,none⟩ u) v.ownBlock:=by
 rcases h.2 with ⟨rfl,h0⟩|⟨g',cap,cur,rfl,hb,hgg,h1,h2,h3,h4⟩
 ·cases hg
 ·simp only [Value.ownBlock,Option.some.injEq] at hg
  subst hg
  refine ⟨⟨by rw [List.length_set];exact h.1,.inr ⟨g,cap,cur.setIfInBounds j u,rfl,hb,heap_setCell_same w g j _ _ u hgg,h1,h2,by simpa using h3,?_⟩⟩,?_⟩
  ·rw [Array.toList_setIfInBounds,List.take_set,h4]
  ·exact ⟨rfl,rfl,rfl,by simp [World.setCell],fun k hk hne=>Below.heap_setCell _ _ _ _ (fun e=>hne (by simp [Value.ownBlock];omega))⟩
theorem StO.pushV {ts:List RTv} {t:RTv} (h:StO w b c) (hc:c.tabs=ts++[t]) {x:VP} (hx:VerIs w (frO (rowsO c) w b) x.1 x.2) (ho:w'.ownsRow (b+1) 56 9 v (t.vers.length+1) (t.vers.flatMap encVP++x.1.enc)) (hg:w.grownBy w' (Value.slice t.A t.vers.length t.C).ownBlock) (hv:v.ownBlock=(Value.slice t.A t.vers.length t.C).ownBlock∨v.ownBlock=some w.heap.size)
  {g:Nat} (hA:some g=(Value.slice c.tA c.tabs.length c.tC).ownBlock):
  ∃A C,v=.slice A (t.vers.length+1) C∧StO (w'.setCell ⟨g,ts.length*2+1,none⟩ v) b { c with tabs:=ts++[⟨t.table,A,C,t.vers++[x]⟩] }∧Chg (fun i=>some i=(Value.slice t.A t.vers.length t.C).ownBlock∨i=g) w (w'.setCell ⟨g,ts.length*2+1,none⟩ v):=by
 obtain ⟨A,C,rfl⟩:=own_slice ho
 have hlt:lastT c.tabs=t:=by rw [hc];exact lastT_snoc t _
 have hr:=rows_grow (i:=6) (q:=verO ⟨t.table,A,C,t.vers++[x]⟩) (p:=verO t) (rows_nodup c) (by rw [←hlt];rfl) h.own hg (by unfold ownO verO;simpa [encVP] using ho) (by simpa [verO] using hv)
 obtain ⟨R1,hR1⟩:=eN0 ((rowsO c).set 6 (verO ⟨t.table,A,C,t.vers++[x]⟩))
 rw [←hR1] at hr
 have hn1:(R1.map RowO.T).Nodup:=by rw [hR1];exact rows_nodup c
 have hi1:R1[2]? =some ⟨37,2,.slice c.tA c.tabs.length c.tC,c.tabs.length,c.tabs.flatMap RTv.enc⟩:=by rw [hR1];rfl
 have hl:c.tabs.length=ts.length+1:=by rw [hc];simp
 have hs:=own_setC (hr.1 _ (List.mem_of_getElem? hi1)) hA (ts.length*2+1) (.slice A (t.vers.length+1) C)
 have hr2:=rows_grow (q:=⟨37,2,.slice c.tA c.tabs.length c.tC,c.tabs.length,(ts++[(⟨t.table,A,C,t.vers++[x]⟩:RTv)]).flatMap RTv.enc⟩) hn1 hi1 hr.1 hs.2 (by
  unfold ownO
  refine Eq.mp ?_ hs.1
  congr 1
  rw [hc,List.flatMap_append,List.flatMap_append]
  have h2:(ts.flatMap RTv.enc).length=ts.length*2:=by
   clear hc hl hs hlt hr
   induction ts with
   |nil=>rfl
   |cons a r ih=>rw [List.flatMap_cons,List.length_append,ih,List.length_cons];show 2+r.length*2=_;omega
  rw [List.set_append_right (h:=by omega),h2]
  simp [RTv.enc]) (.inl rfl)
 have hR:rowsO { c with tabs:=ts++[⟨t.table,A,C,t.vers++[x]⟩] }=R1.set 2 ⟨37,2,.slice c.tA c.tabs.length c.tC,c.tabs.length,(ts++[(⟨t.table,A,C,t.vers++[x]⟩:RTv)]).flatMap RTv.enc⟩:=by
  rw [hR1]
  unfold rowsO
  rw [lastT_snoc]
  simp only [List.length_append,List.length_singleton,hl]
  rfl
 have hK:Keeps (frO (rowsO c) w b) w (w'.setCell ⟨g,ts.length*2+1,none⟩ (.slice A (t.vers.length+1) C)):=fun k hk=>(hr2.2.1 k (hr.2.2 k hk)).trans (hr.2.1 k hk)
 have hW:∀k,frO (rowsO c) w b k→frO (rowsO { c with tabs:=ts++[⟨t.table,A,C,t.vers++[x]⟩] }) (w'.setCell ⟨g,ts.length*2+1,none⟩ (.slice A (t.vers.length+1) C)) b k:=fun k hk=>by rw [hR];exact hr2.2.2 k (hr.2.2 k hk)
 have hi:=h.inn.kw hK hW
 refine ⟨A,C,rfl,⟨by rw [hR];exact hr2.1,hi.ents,fun u hu=>?_,fun u hu p hp=>?_⟩,(Chg.of_grown hg).mono (fun i e=>.inl e) |>.trans ((Chg.refl (·=g) w').setCell (.inl rfl) _) (fun i _ e=>.inr e)⟩
 ·have hu:u∈ts:=by simpa using hu
  exact hi.old u (by rw [hc];simpa using hu)
 ·rcases List.mem_append.1 hu with hu|hu
  ·exact hi.vers u (by rw [hc];exact List.mem_append_left _ hu) p hp
  ·rw [List.mem_singleton] at hu
   subst hu
   rcases List.mem_append.1 hp with hp|hp
   ·exact hi.vers t (by rw [hc];simp) p hp
   ·rw [List.mem_singleton] at hp
    subst hp
    exact (hx.keep hK).wide hW
end
end Go.Proofs.YtgfhknnklapldaaGreatDoor
