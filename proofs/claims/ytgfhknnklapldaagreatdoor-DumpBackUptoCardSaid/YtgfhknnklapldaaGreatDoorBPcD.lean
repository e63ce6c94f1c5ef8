/-
 PcD
-/
import Derived.Test.YtgfhknnklapldaaGreatDoorBPaB
import Derived.Test.YtgfhknnklapldaaGreatDoorBPbC
import Derived.Test.YtgfhknnklapldaaGreatDoorBPbH
namespace Go.Proofs.YtgfhknnklapldaaGreatDoor
open Go.RowKit Go.Lib Go.IntWalk Go.Sort Go.Shelf
theorem addVer_er (x:VP):∀ts:List RTv,(addVer x ts).map RTv.er=addVer (verEr x) (ts.map RTv.er)
 |[]=>rfl
 |[t]=>by simp [addVer,RTv.er]
 |t::u::r=>by
  have:=addVer_er x (u::r)
  rw [List.map_cons] at this
  rw [List.map_cons,List.map_cons]
  unfold addVer
  rw [List.map_cons,this]
theorem pPart_er {c d:RSt} (h:c.er=d.er) (l:List UInt8) (r:Nat) (st:Nat×Bool):(pPart l r c st).1.er=(pPart l r d st).1.er∧(pPart l r c st).2=(pPart l r d st).2:=by
 have h':=h
 simp only [RSt.er,RSt.mk.injEq,true_and] at h'
 obtain ⟨e1,e2,e3,e4,e5,e6,e7,e8,e9,e10⟩:=h'
 unfold pPart
 repeat' split
 all_goals first
  |exact ⟨h,rfl⟩
  |(refine ⟨?_,rfl⟩;simp only [RSt.er,List.map_append,addVer_er,e1,e2,e3,e4,e5,e6,e7,e8,e9,e10])
theorem pBody_er {c d:RSt} (h:c.er=d.er) (l:List UInt8) (a:Nat):(pBody l a c).1.er=(pBody l a d).1.er∧(pBody l a c).2=(pBody l a d).2:=by
 have k:=pPart_er h l (rankV (tokI l (0,false)).1) (tokI l (0,false)).2
 unfold pBody
 simp only
 split
 ·exact ⟨h,rfl⟩
 ·exact ⟨k.1,by rw [k.2]⟩
theorem pRun_er:∀(f:Nat) (t:List UInt8) (n a:Nat) {c d:RSt},c.er=d.er→(pRun f t n a c).1.er=(pRun f t n a d).1.er∧(pRun f t n a c).2=(pRun f t n a d).2
 |0,_,_,_,_,_,_=>⟨rfl,rfl⟩
 |f+1,t,n,a,c,d,h=>by
  unfold pRun
  by_cases h8:a=8
  ·rw [if_pos h8,if_pos h8]
   split
   ·exact ⟨h,rfl⟩
   ·exact ⟨rfl,rfl⟩
  ·rw [if_neg h8,if_neg h8]
   cases cutL t with
   |none=>exact ⟨rfl,rfl⟩
   |some p=>
    simp only
    by_cases h1:n=1
    ·rw [if_pos h1,if_pos h1]
     split
     ·exact pRun_er f _ _ _ h
     ·exact ⟨rfl,rfl⟩
    ·rw [if_neg h1,if_neg h1]
     by_cases h2:n=2
     ·rw [if_pos h2,if_pos h2]
      split
      ·refine pRun_er f _ _ _ ?_
       have h':=h
       simp only [RSt.er,RSt.mk.injEq,true_and] at h'
       obtain ⟨e1,e2,e3,e4,e5,e6,e7,e8,e9,e10⟩:=h'
       simp only [secS,RSt.er,e5,e6,e7,e8,e9,e10]
      ·exact ⟨rfl,rfl⟩
     ·rw [if_neg h2,if_neg h2]
      have k:=pBody_er h p.1 a
      rw [k.2]
      split
      ·exact ⟨rfl,rfl⟩
      ·exact pRun_er f _ _ _ k.1
structure CntLe (N:Nat) (c:RSt):Prop where
 ents:c.ents.length≤N
 stms:c.stms.length≤N
 tabs:c.tabs.length≤N
 pla:c.pla.length≤N
 pol:c.pol.length≤N
 hor:c.hor.length≤N
 vers:∀t∈c.tabs,t.vers.length≤N
theorem CntLe.er {N:Nat} {c:RSt} (h:CntLe N c.er):CntLe N c:=by
 obtain ⟨h1,h2,h3,h4,h5,h6,h7⟩:=h
 simp only [RSt.er,List.length_map] at h1 h2 h3 h4 h5 h6
 refine ⟨h1,h2,h3,h4,h5,h6,fun t ht=>?_⟩
 have:=h7 t.er (List.mem_map_of_mem ht)
 simpa [RTv.er] using this
theorem CntLe.to {N:Nat} {c:RSt} (h:CntLe N c):CntLe N c.er:=by
 obtain ⟨h1,h2,h3,h4,h5,h6,h7⟩:=h
 refine ⟨by simpa [RSt.er] using h1,h2,by simpa [RSt.er] using h3,h4,h5,h6,fun t ht=>?_⟩
 obtain ⟨u,hu,rfl⟩:=List.mem_map.1 ht
 simpa [RTv.er] using h7 u hu
theorem CntLe.of {N:Nat} {c d:RSt} (h:CntLe N c) (e:d.er=c.er):CntLe N d:=CntLe.er (by rw [e];exact h.to)
theorem CntLe.mono {N M:Nat} {c:RSt} (h:CntLe N c) (hm:N≤M):CntLe M c:=
 ⟨Nat.le_trans h.ents hm,Nat.le_trans h.stms hm,Nat.le_trans h.tabs hm,Nat.le_trans h.pla hm,Nat.le_trans h.pol hm,Nat.le_trans h.hor hm,fun t ht=>Nat.le_trans (h.vers t ht) hm⟩
theorem addVer_len (x:VP):∀ts:List RTv,(addVer x ts).length=ts.length
 |[]=>rfl
 |[_]=>rfl
 |t::u::r=>by
  have:=addVer_len x (u::r)
  unfold addVer
  exact congrArg (·+1) this
theorem addVer_vers {N:Nat} (x:VP):∀ts:List RTv,(∀t∈ts,t.vers.length≤N)→∀t∈addVer x ts,t.vers.length≤N+1
 |[],_,t,ht=>by cases ht
 |[u],h,t,ht=>by
  have hu:=h u (List.mem_cons_self ..)
  unfold addVer at ht
  rw [List.mem_singleton] at ht
  subst ht
  simp only [List.length_append,List.length_cons,List.length_nil]
  omega
 |u::v::r,h,t,ht=>by
  unfold addVer at ht
  rcases List.mem_cons.1 ht with rfl|ht
  ·exact Nat.le_succ_of_le (h _ (List.mem_cons_self ..))
  ·exact addVer_vers x (v::r) (fun t ht=>h t (List.mem_cons_of_mem _ ht)) t ht
theorem CntLe.part {N:Nat} {c:RSt} (h:CntLe N c) (l:List UInt8) (r:Nat) (st:Nat×Bool):CntLe (N+1) (pPart l r c st).1:=by
 obtain ⟨h1,h2,h3,h4,h5,h6,h7⟩:=h
 have h7':∀t∈c.tabs,t.vers.length≤N+1:=fun t ht=>Nat.le_succ_of_le (h7 t ht)
 unfold pPart
 repeat' split
 all_goals constructor
 all_goals first
  |exact h7'
  |(simp only [List.length_append,List.length_cons,List.length_nil];omega)
  |(simp only [addVer_len];omega)
  |exact addVer_vers _ _ h7
  |(intro t ht;rcases List.mem_append.1 ht with ht|ht;exact h7' t ht;rw [List.mem_singleton] at ht;subst ht;exact Nat.zero_le _)
  |omega
theorem CntLe.body {N:Nat} {c:RSt} (h:CntLe N c) (l:List UInt8) (a:Nat):CntLe (N+1) (pBody l a c).1:=by
 unfold pBody
 simp only
 split
 ·exact h.mono (Nat.le_succ _)
 ·exact h.part _ _ _
theorem lastT_mem:∀ {ts:List RTv},ts≠[]→lastT ts∈ts
 |[t],_=>List.mem_singleton.2 rfl
 |_::u::r,_=>List.mem_cons_of_mem _ (lastT_mem (ts:=u::r) (by simp))
theorem CntLe.rows {N:Nat} {c:RSt} (h:CntLe N c):∀p∈rowsO c,p.n≤N:=by
 have hv:(lastT c.tabs).vers.length≤N:=by
  by_cases ht:c.tabs=[]
  ·rw [ht];exact Nat.zero_le _
  ·exact h.vers _ (lastT_mem ht)
 intro p hp
 simp only [rowsO,List.mem_cons,List.not_mem_nil,or_false] at hp
 rcases hp with rfl|rfl|rfl|rfl|rfl|rfl|rfl
 ·exact h.ents
 ·exact h.stms
 ·exact h.tabs
 ·exact h.pla
 ·exact h.pol
 ·exact h.hor
 ·exact hv
theorem body_tabs {c:RSt} (l:List UInt8) {a:Nat} (h:a=3∨a=4→c.tabs≠[]):(pBody l a c).2=3∨(pBody l a c).2=4→(pBody l a c).1.tabs≠[]:=by
 unfold pBody
 simp only
 split
 ·intro h;simp at h
 ·rename_i h4
  intro hr
  split at hr
  ·simp at hr
  ·simp only at hr
   unfold pPart
   rcases hr with hr|hr
   ·rw [hr]
    simp
   ·rw [hr] at h4 ⊢
    have ha:a=3∨a=4:=by
     by_cases h3:a=3
     ·exact .inl h3
     ·exact .inr (Decidable.of_not_not fun h=>h4 ⟨rfl,h3,h⟩)
    simp only [if_neg (by decide:¬(4:Nat)=1),if_neg (by decide:¬(4:Nat)=2),if_neg (by decide:¬(4:Nat)=3),if_true]
    intro e
    have:=addVer_len (rvP (pVer l (tokI l (0,false)).2).1) c.tabs
    rw [e] at this
    exact h ha (List.length_eq_zero_iff.1 this.symm)
theorem tabs_er {c d:RSt} (h:c.er=d.er):c.tabs=[]↔d.tabs=[]:=by
 have h':c.tabs.map RTv.er=d.tabs.map RTv.er:=congrArg RSt.tabs h
 have:=congrArg List.length h'
 rw [List.length_map,List.length_map] at this
 rw [←List.length_eq_zero_iff,←List.length_eq_zero_iff,this]
theorem pLoop_len {α:Type} {l:List UInt8} {one:Nat×Bool→α×Nat×Bool} (h:Adv l one):∀(k:Nat) (st:Nat×Bool),0<st.1→st.1≤l.length→(pLoop one k st).1.length≤l.length-st.1+1
 |0,_,_,_=>Nat.zero_le _
 |k+1,st,h0,hl=>by
  unfold pLoop
  split
  ·exact Nat.zero_le _
  ·simp only [List.length_cons]
   have h1:=h.le st hl
   cases hb:(one st).2.2 with
   |true=>
    rw [pLoop_bad k _ hb]
    simp
   |false=>
    have h2:=h.gt st h0 hl hb
    have h3:=pLoop_len h k (one st).2 (by omega) h1.2
    omega
theorem pMany_len {α:Type} {l:List UInt8} {one:Nat×Bool→α×Nat×Bool} (h:Adv l one) {st:Nat×Bool} (h0:0<st.1) (hl:st.1≤l.length):(pMany l one st).1.length≤l.length+1:=by
 have h1:=(cnumI_ge (l:=l) (st:=st))
 have h2:=cnumI_le (l:=l) (st:=st) hl
 have:=pLoop_len h (cnumI l st).1.toNat ((cnumI l st).2.1,(cnumI l st).2.2||decide ((cnumI l st).1<0)) (by simp only;omega) (by simp only;omega)
 unfold pMany
 simp only at this ⊢
 omega
end Go.Proofs.YtgfhknnklapldaaGreatDoor
