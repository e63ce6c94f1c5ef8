/-
  Disks: copies.
-/
import Derived.Test.YtooojgokkigncaaDiskA
import Derived.Laws.Externs
import Derived.MapKept
import Derived.Maps.OwnOps
namespace Go.Proofs.Ytooojgokkigncaa
open Go.RowKit Go.Lib Go.IntWalk

theorem eq_nil (A : Option Addr) (n c : Nat) (w : World) : (binOp .eql 23 (.slice A n c) (.slice none 0 0)).run Try.prog w = .ok (.bool A.isNone) w := by
  simp only [binOp]
  rw [Sem.run_bind, run_equal_slice_nil w 23 5 A n c Try.underlying23]
  rfl

set_option maxRecDepth 100000 in
set_option maxHeartbeats 1000000 in
theorem clone_any (v : Value) (l : List UInt8) (w : World) (hv : RdB w (· < w.heap.size) v l) (hm : l.length ≤ 1099511627776) :
    Calls Try.prog 53 #[v] w (NewB w l) := by
  obtain ⟨A, c, rfl, hc1, hc2, hc3⟩ := hv.open_
  have hq := fun w => eq_nil A l.length c w
  cases A with
  | none =>
    obtain rfl : l = [] := List.eq_nil_of_length_eq_zero (by have := hc3 rfl; omega)
    obtain rfl : c = 0 := hc3 rfl
    clear hc3 hc2 hc1 hv hm
    simp only [List.length_nil, Option.isNone_none] at hq ⊢
    go_enter Try.func53, Try.ntmps53
    go_wp2_with fail
    go_ret
    exact ⟨_, rfl, OwnB.nil _ _, Below.refl _ _⟩
  | some x =>
    clear hc3
    simp only [Option.isNone_some] at hq
    go_enter Try.func53, Try.ntmps53
    go_wp2_with (at_builtin; refine wpList_append_b rfl (.tmp 5) (.tmp 6) rfl w.heap.size _ [] rfl (by exact own_empty _ _ _ _ (Nat.le_refl _)) (· < w.heap.size) _ l rfl (by exact Rd.alloc hv (Nat.le_refl _) _) (by simp; omega) (by simp) ?_; intro v3 w3 hO3 hb3 _ _)
    go_ret
    exact ⟨_, rfl, hO3, (Below.of_alloc _).trans hb3⟩

section
variable {P : Program} (w : World)
theorem run_eql_map_nil (t k e : TypeId) (p : Option Nat) (h : P.underlying t = some (.map k e)) :
    (binOp .eql t (.map p) (.map none)).run P w = .ok (.bool p.isNone) w := by
  have h1 : ∀ d : Nat, (Op.equalIn (d + 1) t (.map p) (.map none)).run P w = .ok p.isNone w := fun d => by cases p <;> simp [Op.equalIn, run_underlying h]
  simp only [binOp]
  rw [Sem.run_bind, show Op.equal t (.map p) (.map none) = Op.equalIn (9999 + 1) t (.map p) (.map none) from rfl, h1]
  rfl
theorem run_typeAssert_map (t xT k e : TypeId) (v : Value) (h : P.underlying t = some (.map k e)) : (Instr.typeAssert (.iface t v) xT t false).run P w = .ok v w := by
  simp [Instr.typeAssert, run_underlying h, go_sem, Result.andThen]
theorem run_maps_clone {r : Nat} {es : Array MapEntry} {clock : Nat} (t : TypeId) (hb : w.heap[r]? = some (.map es clock)) :
    (Extern.MapsClone.clone #[.iface t (.map (some r))]).run P w = .ok (.iface t (.map (some w.heap.size))) (w.alloc (.map es clock)) := by
  have e : Extern.MapsClone.clone #[.iface t (.map (some r))] = (getObj r >>= fun o => match o with
      | .map entries clock => (newObj (.map entries clock) >>= fun n => pure (.iface t (.map (some n))))
      | _ => stuck "maps.clone: a map expected") := rfl
  rw [e]
  simp [MapKept.run_getObj_map hb, Result.andThen, go_sem]
end

set_option maxRecDepth 100000 in
set_option maxHeartbeats 2000000 in
theorem mclone_raw (b : Nat) (es : Array MapEntry) (clock : Nat) (w : World) (hb : w.heap[b]? = some (.map es clock)) :
    Calls Try.prog 70 #[.map (some b)] w fun e w' => e = .returned (.map (some w.heap.size)) ∧ w' = w.alloc (.map es clock) := by
  have hq := fun w => run_eql_map_nil (P := Try.prog) w 77 _ _ (some b) Try.underlying77
  simp only [Option.isNone_some] at hq
  go_enter Try.func70, Try.ntmps70
  go_wp2
  rw [run_callFunc_extern Try.func81 (by kernel_rfl) (by kernel_rfl) (by kernel_rfl) (e := Extern.MapsClone.clone) (by kernel_rfl), run_maps_clone w 77 hb]
  simp only [Result.andThen]
  rw [Oper.upon_value]
  go_wp2
  rw [run_typeAssert_map _ 77 _ _ _ _ Try.underlying77]
  simp only [Result.andThen]
  rw [Oper.upon_value]
  go_wp2
  go_ret
  exact ⟨rfl, rfl⟩
end Go.Proofs.Ytooojgokkigncaa
