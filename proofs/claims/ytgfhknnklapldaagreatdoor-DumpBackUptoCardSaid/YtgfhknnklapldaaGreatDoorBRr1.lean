/-
 Rr1
-/
import Derived.Test.YtgfhknnklapldaaGreatDoorBSeg1
import Derived.Test.YtgfhknnklapldaaGreatDoorBDc4
import Derived.Test.YtgfhknnklapldaaGreatDoorBDc1
import Derived.Test.YtgfhknnklapldaaGreatDoorBRw1
import Derived.Test.YtgfhknnklapldaaGreatDoorBRcO
namespace Go.Proofs.YtgfhknnklapldaaGreatDoor
set_option maxRecDepth 99999
set_option maxHeartbeats 0
section
open Go.RowKit Go.Lib Go.IntWalk Go.Sort Go.Shelf
theorem own_chg {w w':World} {S:Nat→Prop} {base:Nat} {e:TypeId} {size n:Nat} {v:Value} {cs:List Value} (h:w.ownsRow base e size v n cs) (hc:Chg S w w') (hs:∀b,some b=v.ownBlock→¬S b):w'.ownsRow base e size v n cs:=by
 refine ⟨h.1,?_⟩
 rcases h.2 with h0|⟨g,cap,cur,rfl,hb,hg,hr⟩
 ·exact .inl h0
 ·exact .inr ⟨g,cap,cur,rfl,hb,(hc.block g (Array.getElem?_eq_some_iff.1 hg).1 (hs g rfl)).trans hg,hr⟩
section
variable {P:Program} {t:TypeId} {T H:Nat} {cs cur vs:Array Value} {w:World} {ops:Array Oper} {rest:List Oper} {o:Oper} {a:Act} {Q:Exit→Act→World→Prop}
theorem ldR (i:Nat) {n:Nat} (hz:∀w,(Go.sizeOf t).run P w=.ok n w) (ha:∀w,(isAgg t).run P w=.ok true w) (h:w.heap[T]? =some (.cells cs t (0,0))) (hK:wpList P ops Q rest (a.put o.dst (.agg cs)) w) (hs:cs.size=n:=by rfl) (hgd:o.guard=none:=by rfl) (hop:o.op=.load t (.tmp i):=by rfl) (hp:a.eval (.tmp i)=.pointer (some ⟨T,0,none⟩):=by rfl):wpList P ops Q (o::rest) a w:=
 wpList_loadRow (.tmp i) hgd hop hp (by rw [hs];exact hz) ha h hK
theorem stU (i j:Nat) {n:Nat} (hz:∀w,(Go.sizeOf t).run P w=.ok n w) (h:w.heap[H]? =some (.cells cur t (0,0))) (hx:a.eval (.tmp j)=.agg vs) (hK:∀w',w'.heap[H]? =some (.cells vs t (0,0))→Chg (·=H) w w'→wpList P ops Q rest (a.put o.dst undef) w') (hn:vs.size=n:=by rfl) (hs:cur.size=n:=by rfl) (h1:vs.toList.all Value.oneCell'=true:=by rfl) (hgd:o.guard=none:=by rfl) (hop:o.op=.store t (.tmp i) (.tmp j):=by rfl) (hp:a.eval (.tmp i)=.pointer (some ⟨H,0,none⟩):=by rfl):wpList P ops Q (o::rest) a w:=
 wpList_storeRow (.tmp i) (.tmp j) hgd hop hp hx (by rw [hn];exact hz) (hs.trans hn.symm) h1 h hK
end
end
end Go.Proofs.YtgfhknnklapldaaGreatDoor
