/-
 Dc4
-/
import Derived.Test.YtgfhknnklapldaaGreatDoorBBase
import Derived.Laws.CopyRow
import Derived.Laws.Cells
import Derived.Test.YtgfhknnklapldaaGreatDoorBDc1
import Derived.Test.YtgfhknnklapldaaGreatDoorBRw1
namespace Go.Proofs.YtgfhknnklapldaaGreatDoor
set_option maxRecDepth 99999
set_option maxHeartbeats 0
section
open Go.RowKit Go.Lib
section
variable {P:Program} {t e:TypeId} {T H:Nat} {cs cur vs:Array Value} {fr:Nat×Nat} {w:World}
theorem run_loadRow (hz:∀w,(Go.sizeOf t).run P w=.ok cs.size w) (ha:∀w,(isAgg t).run P w=.ok true w) (h:w.heap[T]? =some (.cells cs e fr)):(Instr.loadAt t (.pointer (some ⟨T,0,none⟩))).run P w=.ok (.agg cs) w:=by
 have hc:(loadCells ⟨T,0,none⟩ cs.toList.length).run P w=.ok cs.toList.toArray w:=run_loadCells_list (P:=P) w ⟨T,0,none⟩ cs.toList (fun j v hj=>by
  have hadd:(⟨T,0,none⟩:Addr).add j=⟨T,j,none⟩:=by unfold Addr.add;split<;>simp_all
  rw [hadd,cW0 w T j cs e fr h];simpa using hj)
 rw [Array.length_toList,Array.toArray_toList] at hc
 simp [Instr.loadAt,loadVar,Instr.sureAddr,ha,hz,hc]
theorem run_storeRow (hz:∀w,(Go.sizeOf t).run P w=.ok vs.size w) (hs:cur.size=vs.size) (h1:vs.toList.all Value.oneCell'=true) (h:w.heap[H]? =some (.cells cur e (0,0))):(Instr.storeAt t (.pointer (some ⟨H,0,none⟩)) (.agg vs)).run P w=.ok () (w.setRow H vs):=by
 have hc:=run_storeCells_at (P:=P) H 0 e vs.toList 0 cur w h (by simp [hs]) (List.all_eq_true.1 h1)
 simp only [Nat.zero_add,List.take_zero,List.nil_append,Array.length_toList] at hc
 rw [List.drop_eq_nil_of_le (by simp [hs]),List.append_nil,Array.toArray_toList] at hc
 simp [Instr.storeAt,storeVar,Instr.sureAddr,hz,Value.cells,hc]
theorem chg_setRow (w:World) (H:Nat) (vs:Array Value):Chg (·=H) w (w.setRow H vs):=
 ⟨rfl,rfl,rfl,by simp [World.setRow],fun b _ hb=>by simp only [World.setRow,Array.getElem?_modify];rw [if_neg (fun e=>hb e.symm)]⟩
variable {ops:Array Oper} {rest:List Oper} {o:Oper} {a:Act} {Q:Exit→Act→World→Prop}
theorem wpList_loadRow (p:Operand) (hgd:o.guard=none) (hop:o.op=.load t p) (hp:a.eval p=.pointer (some ⟨T,0,none⟩)) (hz:∀w,(Go.sizeOf t).run P w=.ok cs.size w) (ha:∀w,(isAgg t).run P w=.ok true w) (h:w.heap[T]? =some (.cells cs e fr))
  (hK:wpList P ops Q rest (a.put o.dst (.agg cs)) w):wpList P ops Q (o::rest) a w:=
 wpList_plain hgd fun K' hK'=>by
  unfold Oper.wp execOp
  simp only [hop,hp,Sem.run_bind,run_loadRow hz ha h,Result.andThen_ok,Sem.run_pure]
  exact hK' _ _ hK
theorem wpList_storeRow (p x:Operand) (hgd:o.guard=none) (hop:o.op=.store t p x) (hp:a.eval p=.pointer (some ⟨H,0,none⟩)) (hx:a.eval x=.agg vs) (hz:∀w,(Go.sizeOf t).run P w=.ok vs.size w) (hs:cur.size=vs.size) (h1:vs.toList.all Value.oneCell'=true) (h:w.heap[H]? =some (.cells cur e (0,0)))
  (hK:∀w',w'.heap[H]? =some (.cells vs e (0,0))→Chg (·=H) w w'→wpList P ops Q rest (a.put o.dst undef) w'):wpList P ops Q (o::rest) a w:=
 wpList_plain hgd fun K' hK'=>by
  unfold Oper.wp execOp
  simp only [hop,hp,hx,Sem.run_bind,run_storeRow hz hs h1 h,Result.andThen_ok,Sem.run_pure]
  exact hK' _ _ (hK _ (setRow_heap w H cur vs e _ h) (chg_setRow w H vs))
end
end
end Go.Proofs.YtgfhknnklapldaaGreatDoor
