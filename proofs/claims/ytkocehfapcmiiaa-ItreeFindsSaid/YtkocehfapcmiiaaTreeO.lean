/-
  Arguments that are periods, items, operations and lists of these. Plain lemmas.
-/
import Derived.Test.YtkocehfapcmiiaaOpn0
import Derived.Test.YtkocehfapcmiiaaTreeN
namespace Go.Proofs.Ytkocehfapcmiiaa
open Go.ChangeShapes Go.WideShapes Go.ChangeAt Go.RowKit Go.Lib Go.Deep

/-- an operation -/
structure Oq where
  kind : Int
  it : It
instance : Inhabited It := ⟨⟨0, 0, 0⟩⟩
instance : Inhabited Oq := ⟨⟨0, default⟩⟩
def oqC (o : Oq) : List Value := [.int .i64 o.kind, .int .i64 o.it.fr, .int .i64 o.it.to, .int .i64 o.it.id]
def ocv (l : List Oq) : List Value := l.flatMap oqC
section
set_option maxRecDepth 100000
variable {H : Type} {enc : TypeId × Value → H} {w : World} {b0 : Nat} {r : Reach}
theorem RdL.rd {α : Type} {F : Nat → Prop} {c : Nat} {f : α → List Value} {v : Value} {l : List α} (h : RdL w F c (fun cs a => cs = f a) v l) : Rd w F c v l.length (l.flatMap f) := by
  obtain ⟨ps, rfl, hr, hp⟩ := h
  have e : ps.flatMap (·.1) = (ps.map (·.2)).flatMap f := by
    clear hr
    induction ps with
    | nil => rfl
    | cons p ps ih => rw [List.flatMap_cons, List.map_cons, List.flatMap_cons, (hp p (List.mem_cons_self ..)).2, ih fun q hq => hp q (List.mem_cons_of_mem _ hq)]
  rw [List.length_map, ← e]
  exact hr
theorem opn_per : Opn enc w 28 (fun cs (p : Int × Int) => cs = [.int .i64 p.1, .int .i64 p.2]) (fun _ => 1) := by
  intro fuel cs x h
  obtain ⟨hl, n, xs, hxl, hb, hf⟩ := opn_fields Try.underlying28 h
  rw [show Try.prog.cellsOf 28 = 2 from by kernel_rfl] at hl
  match cs, hl with
  | [c0, c1], _ =>
  match xs, hxl with
  | [y0, y1], _ =>
  obtain ⟨p, ⟨e0, _⟩, s0⟩ := opn_int Try.underlying3 _ _ _ (hf 0 _ rfl)
  obtain ⟨q, ⟨e1, _⟩, s1⟩ := opn_int Try.underlying3 _ _ _ (hf 1 _ rfl)
  have e0' : [c0] = [.int .i64 p] := e0
  have e1' : [c1] = [.int .i64 q] := e1
  simp only [List.cons.injEq, and_true] at e0' e1'
  subst e0'; subst e1'
  exact ⟨(p, q), rfl, by rw [hb]; exact Nat.le_add_left _ _⟩
theorem opn_it : Opn enc w 30 (fun cs x => cs = itC x) (fun _ => 1) := by
  intro fuel cs x h
  obtain ⟨hl, n, xs, hxl, hb, hf⟩ := opn_fields Try.underlying30 h
  rw [show Try.prog.cellsOf 30 = 3 from by kernel_rfl] at hl
  match cs, hl with
  | [c0, c1, c2], _ =>
  match xs, hxl with
  | [y0, y1], _ =>
  obtain ⟨⟨p, q⟩, e0, s0⟩ := opn_per (enc := enc) (w := w) _ _ _ (hf 0 _ rfl)
  obtain ⟨n, ⟨e1, _⟩, s1⟩ := opn_int Try.underlying3 _ _ _ (hf 1 _ rfl)
  have e0' : [c0, c1] = [.int .i64 p, .int .i64 q] := e0
  have e1' : [c2] = [.int .i64 n] := e1
  simp only [List.cons.injEq, and_true] at e0' e1'
  obtain ⟨rfl, rfl⟩ := e0'
  subst e1'
  exact ⟨⟨p, q, n⟩, rfl, by rw [hb]; exact Nat.le_add_left _ _⟩
theorem opn_op : Opn enc w 46 (fun cs x => cs = oqC x) (fun _ => 1) := by
  intro fuel cs x h
  obtain ⟨hl, n, xs, hxl, hb, hf⟩ := opn_fields Try.underlying46 h
  rw [show Try.prog.cellsOf 46 = 4 from by kernel_rfl] at hl
  match cs, hl with
  | [c0, c1, c2, c3], _ =>
  match xs, hxl with
  | [y0, y1, y2], _ =>
  obtain ⟨k, ⟨e2, _⟩, s2⟩ := opn_int Try.underlying3 _ _ _ (hf 0 _ rfl)
  obtain ⟨⟨p, q⟩, e0, s0⟩ := opn_per (enc := enc) (w := w) _ _ _ (hf 1 _ rfl)
  obtain ⟨n, ⟨e1, _⟩, s1⟩ := opn_int Try.underlying3 _ _ _ (hf 2 _ rfl)
  have e0' : [c1, c2] = [.int .i64 p, .int .i64 q] := e0
  have e1' : [c3] = [.int .i64 n] := e1
  have e2' : [c0] = [.int .i64 k] := e2
  simp only [List.cons.injEq, and_true] at e0' e1' e2'
  obtain ⟨rfl, rfl⟩ := e0'
  subst e1'; subst e2'
  exact ⟨⟨k, ⟨p, q, n⟩⟩, rfl, by rw [hb]; exact Nat.le_add_left _ _⟩
theorem agg_of {v : Value} {n : Nat} {l : List Value} (h : ∃ cs, v = .agg cs ∧ cs.size = n) (hc : v.cells.toList = l) : v = .agg l.toArray := by
  obtain ⟨cs, rfl, _⟩ := h
  have : cs.toList = l := hc
  rw [← this]
theorem arg_op {v : Value} {d : DataW H} {ps : List MemPlace} (hval : Value.okWide Try.prog w r b0 46 v) (h : DataW.Trod enc Try.prog w 0 (fun _ => true) true 46 v d ps) : ∃ k p q id : Int, v = opV k p q id := by
  obtain ⟨o, ho, _⟩ := (opn_op (enc := enc) (w := w)).arg h
  exact ⟨_, _, _, _, agg_of (okWide_struct Try.underlying46 hval) ho⟩
theorem arg_per {v : Value} {d : DataW H} {ps : List MemPlace} (hval : Value.okWide Try.prog w r b0 28 v) (h : DataW.Trod enc Try.prog w 0 (fun _ => true) true 28 v d ps) : ∃ p q : Int, v = perV p q := by
  obtain ⟨o, ho, _⟩ := (opn_per (enc := enc) (w := w)).arg h
  exact ⟨_, _, agg_of (okWide_struct Try.underlying28 hval) ho⟩
theorem arg_ops {v : Value} {d : DataW H} {ps : List MemPlace} (hval : Value.okWide Try.prog w r b0 37 v) (h : DataW.Trod enc Try.prog w 0 (fun _ => true) true 37 v d ps) : ∃ l : List Oq, Rd w (· < w.heap.size) 4 v l.length (ocv l) := by
  obtain ⟨A, n, c, rfl⟩ := okWide_slice Try.underlying37 hval
  obtain ⟨l, ⟨v', e, hl⟩, _⟩ := (opn_list (c := 4) Try.underlying37 (by kernel_rfl) (opn_op (enc := enc) (w := w)) (by omega)).arg h
  obtain rfl : .slice A n c = v' := by simpa [Value.cells] using e
  exact ⟨l, hl.rd⟩
theorem arg_its {v : Value} {d : DataW H} {ps : List MemPlace} (hval : Value.okWide Try.prog w r b0 22 v) (h : DataW.Trod enc Try.prog w 0 (fun _ => true) true 22 v d ps) : ∃ l : List It, Rd w (· < w.heap.size) 3 v l.length (icv l) := by
  obtain ⟨A, n, c, rfl⟩ := okWide_slice Try.underlying22 hval
  obtain ⟨l, ⟨v', e, hl⟩, _⟩ := (opn_list (c := 3) Try.underlying22 (by kernel_rfl) (opn_it (enc := enc) (w := w)) (by omega)).arg h
  obtain rfl : .slice A n c = v' := by simpa [Value.cells] using e
  exact ⟨l, hl.rd⟩
end
end Go.Proofs.Ytkocehfapcmiiaa
