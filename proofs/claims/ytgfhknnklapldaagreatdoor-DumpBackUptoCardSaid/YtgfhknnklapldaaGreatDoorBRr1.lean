/-
 Rr1
-/
import Derived.Test.YtgfhknnklapldaaGreatDoorBSeg1
import Derived.Test.YtgfhknnklapldaaGreatDoorBDc4
import Derived.Test.YtgfhknnklapldaaGreatDoorBDc1
import Derived.Test.YtgfhknnklapldaaGreatDoorBRw1
import Derived.Test.YtgfhknnklapldaaGreatDoorBRcO
namespace Go.Proofs.YtgfhknnklapldaaGreatDoor
set_option maxRecDepth 99999
set_option maxHeartbeats 0
section
open Go.RowKit Go.Lib Go.IntWalk Go.Sort Go.Shelf
abbrev Bx:=Nat×Array Value×TypeId
structure FR (a:Nat) (S:Nat→Prop) (U:World) (L:List Bx) (V:World):Prop where
 chg:Chg S U V
 box:∀p∈L,a≤p.1∧(S p.1∨U.heap.size≤p.1)∧V.heap[p.1]? =some (.cells p.2.1 p.2.2 (0,0))
 nd:(L.map (·.1)).Nodup
 le:(∀i,S i→a≤i∧i<U.heap.size)∧a≤U.heap.size
def Sx (S:Nat→Prop) (X:Nat) (i:Nat):Prop:=S i∨i=X
section
variable {a T:Nat} {S:Nat→Prop} {U V V':World} {L:List Bx} {cs cs':Array Value} {t:TypeId}
theorem FR.at_ (h:FR a S U L V) (i:Nat) (hi:L[i]? =some (T,cs,t):=by rfl):a≤T∧(S T∨U.heap.size≤T)∧V.heap[T]? =some (.cells cs t (0,0)):=h.box _ (List.mem_of_getElem? hi)
theorem FR.get (h:FR a S U L V) (i:Nat) (hi:L[i]? =some (T,cs,t):=by rfl):V.heap[T]? =some (.cells cs t (0,0)):=(h.at_ i hi).2.2
theorem FR.call (h:FR a S U L V) (hb:Bl V V'):FR a S U L V':=
 ⟨h.chg.then_below hb,fun p hp=>⟨(h.box p hp).1,(h.box p hp).2.1,(hb.block p.1 (Array.getElem?_eq_some_iff.1 (h.box p hp).2.2).1).trans (h.box p hp).2.2⟩,h.nd,h.le⟩
theorem FR.store (h:FR a S U L V) (i:Nat) (hi:L[i]? =some (T,cs,t)) (hc:Chg (·=T) V V') (hn:V'.heap[T]? =some (.cells cs' t (0,0))):FR a S U (L.set i (T,cs',t)) V':=by
 obtain ⟨hT,hT2,hTV⟩:=h.at_ i hi
 have hmi:(L.map (·.1))[i]? =some T:=by rw [List.getElem?_map,hi];rfl
 have hil:i<L.length:=(List.getElem?_eq_some_iff.1 hi).1
 refine ⟨h.chg.trans hc (fun j hj (e:j=T)=>hT2.elim (fun g=>e▸g) (fun g=>by omega)),fun p hp=>?_,?_,h.le⟩
 ·obtain ⟨j,hj⟩:=List.mem_iff_getElem?.1 hp
  rw [List.getElem?_set] at hj
  by_cases hij:i=j
  ·rw [if_pos hij,if_pos hil] at hj
   obtain rfl:=Option.some.inj hj
   exact ⟨hT,hT2,hn⟩
  ·rw [if_neg hij] at hj
   obtain ⟨g1,g2,g3⟩:=h.box p (List.mem_of_getElem? hj)
   refine ⟨g1,g2,(hc.block p.1 (Array.getElem?_eq_some_iff.1 g3).1 (fun e=>hij ?_)).trans g3⟩
   have hmj:(L.map (·.1))[j]? =some T:=by rw [List.getElem?_map,hj,←e];rfl
   exact (List.getElem?_inj (by simpa using hil) h.nd).1 (by rw [hmi,hmj])
 ·rw [List.map_set]
  have e:(L.map (·.1)).set i T=L.map (·.1):=by
   apply List.ext_getElem?
   intro j
   rw [List.getElem?_set]
   by_cases hij:i=j
   ·subst hij;rw [if_pos rfl,if_pos (by simpa using hil),hmi]
   ·rw [if_neg hij]
  rw [e]
  exact h.nd
theorem FR.put (h:FR a S U L V) (i j:Nat) (u:Value) (hi:L[i]? =some (T,cs,t):=by rfl):FR a S U (L.set i (T,cs.setIfInBounds j u,t)) (V.setCell ⟨T,j,none⟩ u):=
 h.store i hi (Chg.setCell (S:=(·=T)) (p:=⟨T,j,none⟩) (Chg.refl _ V) (.inl rfl) u) (heap_setCell_same V T j cs t u (h.get i hi))
theorem FR.alloc (h:FR a S U L V) (cs:Array Value) (t:TypeId):FR a S U (L++[(V.heap.size,cs,t)]) (V.alloc (.cells cs t)):=by
 have hz:=h.chg.size
 have hl:=h.le.2
 have k:=h.call (Below.of_alloc (w:=V) (.cells cs t))
 refine ⟨k.chg,fun p hp=>?_,?_,h.le⟩
 ·rcases List.mem_append.1 hp with hp|hp
  ·exact k.box p hp
  ·rw [List.mem_singleton] at hp
   subst hp
   exact ⟨by show a≤V.heap.size;omega,.inr hz,heap_alloc_new _ _⟩
 ·rw [List.map_append,List.nodup_append]
  refine ⟨h.nd,by simp,fun x hx y hy=>?_⟩
  obtain ⟨p,hp,rfl⟩:=List.mem_map.1 hx
  have:=(Array.getElem?_eq_some_iff.1 (h.box p hp).2.2).1
  simp at hy
  omega
theorem FR.take (h:FR a S U L V) (k:Nat):FR a S U (L.take k) V:=⟨h.chg,fun p hp=>h.box p (List.mem_of_mem_take hp),by rw [List.map_take];exact h.nd.sublist (List.take_sublist _ _),h.le⟩
theorem FR.lts (h:FR a S U L V):(∀i,S i→a≤i∧i<V.heap.size)∧a≤V.heap.size:=by
 have:=h.chg.size
 exact ⟨fun i hi=>⟨(h.le.1 i hi).1,Nat.lt_of_lt_of_le (h.le.1 i hi).2 this⟩,Nat.le_trans h.le.2 this⟩
theorem FR.start (h:FR a S U L V) (hl:∀p∈L,S p.1):FR a S V L V:=⟨Chg.refl _ _,fun p hp=>⟨(h.box p hp).1,.inl (hl p hp),(h.box p hp).2.2⟩,h.nd,h.lts⟩
theorem FR.trans {L':List Bx} (h:FR a S U L V) (k:FR a S V L' V'):FR a S U L' V':=
 ⟨h.chg.trans k.chg (fun _ _ h=>h),fun p hp=>⟨(k.box p hp).1,(k.box p hp).2.1.imp id (fun g=>Nat.le_trans h.chg.size g),(k.box p hp).2.2⟩,k.nd,h.le⟩
theorem FR.below {w:World} (h:FR w.heap.size S U L V) (hb:Bl w U):Bl w V:=hb.trans (h.chg.below hb.size (fun i hi=>(h.le.1 i hi).1))
theorem FR.lt (h:FR a S U L V) (i:Nat) (hi:L[i]? =some (T,cs,t):=by rfl):T<V.heap.size:=(Array.getElem?_eq_some_iff.1 (h.get i hi)).1
theorem FR.more (h:FR a S U L V) (hl:∀p∈L,S p.1) (cs:Array Value) (t:TypeId):FR a (Sx S V.heap.size) (V.alloc (.cells cs t)) (L++[(V.heap.size,cs,t)]) (V.alloc (.cells cs t)):=by
 have h1:=h.alloc cs t
 refine ⟨Chg.refl _ _,fun q hq=>⟨(h1.box q hq).1,.inl ?_,(h1.box q hq).2.2⟩,h1.nd,fun i hi=>?_,by have:=h.lts.2;simp;omega⟩
 ·rcases List.mem_append.1 hq with hq|hq
  ·exact .inl (hl q hq)
  ·rw [List.mem_singleton] at hq;subst hq;exact .inr rfl
 ·rcases hi with hi|rfl
  ·have:=h.lts.1 i hi;simp;omega
  ·have:=h.lts.2;simp;omega
end
theorem own_chg {w w':World} {S:Nat→Prop} {base:Nat} {e:TypeId} {size n:Nat} {v:Value} {cs:List Value} (h:w.ownsRow base e size v n cs) (hc:Chg S w w') (hs:∀b,some b=v.ownBlock→¬S b):w'.ownsRow base e size v n cs:=by
 refine ⟨h.1,?_⟩
 rcases h.2 with h0|⟨g,cap,cur,rfl,hb,hg,hr⟩
 ·exact .inl h0
 ·exact .inr ⟨g,cap,cur,rfl,hb,(hc.block g (Array.getElem?_eq_some_iff.1 hg).1 (hs g rfl)).trans hg,hr⟩
section
variable {P:Program} {t:TypeId} {T H:Nat} {cs cur vs:Array Value} {w:World} {ops:Array Oper} {rest:List Oper} {o:Oper} {a:Act} {Q:Exit→Act→World→Prop}
theorem ldR (i:Nat) {n:Nat} (hz:∀w,(Go.sizeOf t).run P w=.ok n w) (ha:∀w,(isAgg t).run P w=.ok true w) (h:w.heap[T]? =some (.cells cs t (0,0))) (hK:wpList P ops Q rest (a.put o.dst (.agg cs)) w) (hs:cs.size=n:=by rfl) (hgd:o.guard=none:=by rfl) (hop:o.op=.load t (.tmp i):=by rfl) (hp:a.eval (.tmp i)=.pointer (some ⟨T,0,none⟩):=by rfl):wpList P ops Q (o::rest) a w:=
 wpList_loadRow (.tmp i) hgd hop hp (by rw [hs];exact hz) ha h hK
theorem stU (i j:Nat) {n:Nat} (hz:∀w,(Go.sizeOf t).run P w=.ok n w) (h:w.heap[H]? =some (.cells cur t (0,0))) (hx:a.eval (.tmp j)=.agg vs) (hK:∀w',w'.heap[H]? =some (.cells vs t (0,0))→Chg (·=H) w w'→wpList P ops Q rest (a.put o.dst undef) w') (hn:vs.size=n:=by rfl) (hs:cur.size=n:=by rfl) (h1:vs.toList.all Value.oneCell'=true:=by rfl) (hgd:o.guard=none:=by rfl) (hop:o.op=.store t (.tmp i) (.tmp j):=by rfl) (hp:a.eval (.tmp i)=.pointer (some ⟨H,0,none⟩):=by rfl):wpList P ops Q (o::rest) a w:=
 wpList_storeRow (.tmp i) (.tmp j) hgd hop hp hx (by rw [hn];exact hz) (hs.trans hn.symm) h1 h hK
end
end
end Go.Proofs.YtgfhknnklapldaaGreatDoor
