/-
  Arguments: lists of integers; lists of lists of versions. Plain lemmas.
-/
import Derived.Test.YtacjiocffbgkkaaGreatOpn6
import Derived.Test.YtacjiocffbgkkaaGreatSrcC
import Derived.Test.YtacjiocffbgkkaaGreatVer
namespace Go.Proofs.YtacjiocffbgkkaaGreat
open Go.ChangeShapes Go.WideShapes Go.ChangeAt Go.RowKit Go.Lib Go.Deep

section
variable {H : Type} {enc : TypeId × Value → H} {w : World} {b0 : Nat} {r : Reach}
instance : Inhabited Val := ⟨⟨0, 0, ⟨#[]⟩⟩⟩
def ValR (cs : List Value) (x : Val) : Prop := cs = x.cells ∧ goV x
set_option maxRecDepth 100000 in
theorem opn_val : Opn enc w 98 ValR (fun _ => 1) := by
  intro fuel cs x h
  obtain ⟨hl, n, xs, hxl, hb, hf⟩ := opn_fields Tryz.underlying98 h
  rw [show Tryz.prog.cellsOf 98 = 3 from by kernel_rfl] at hl
  match cs, hl with
  | [c0, c1, c2], _ =>
  match xs, hxl with
  | [y0, y1, y2], _ =>
  have h0 := hf 0 _ rfl
  have h1 := hf 1 _ rfl
  have h2 := hf 2 _ rfl
  obtain ⟨k, ⟨e0, w0⟩, _⟩ := opn_int Tryz.underlying3 _ _ _ h0
  obtain ⟨i, ⟨e1, w1⟩, _⟩ := opn_int Tryz.underlying3 _ _ _ h1
  obtain ⟨s, ⟨e2, w2⟩, _⟩ := opn_str Tryz.underlying9 _ _ _ h2
  have e0' : [c0] = [.int .i64 k] := e0
  have e1' : [c1] = [.int .i64 i] := e1
  have e2' : [c2] = [.string (strB s)] := e2
  simp only [List.cons.injEq, and_true] at e0' e1' e2'
  subst e0'; subst e1'; subst e2'
  have hi := int_bd w1
  refine ⟨⟨k, i, strB s⟩, ⟨rfl, hi.1, hi.2, by show (strB s).size ≤ maxLen; rw [strB_size]; exact w2⟩, ?_⟩
  exact bulk_one _
theorem rdV_of {F : Nat → Prop} {v : Value} {l : List Val} (h : RdL w F 3 ValR v l) : RdV w F v l ∧ ∀ x ∈ l, goV x := by
  obtain ⟨ps, rfl, hr, hp⟩ := h
  have e : ps.flatMap (·.1) = cv (ps.map (·.2)) := by
    clear hr
    induction ps with
    | nil => rfl
    | cons p ps ih =>
      obtain ⟨_, h1, h2⟩ := hp p (List.mem_cons_self ..)
      rw [List.flatMap_cons, ih (fun q hq => hp q (List.mem_cons_of_mem _ hq)), h1]
      rfl
  refine ⟨?_, fun x hx => ?_⟩
  · unfold RdV
    rw [List.length_map, ← e]
    exact hr
  · obtain ⟨q, hq, rfl⟩ := List.mem_map.1 hx
    exact (hp q hq).2.2
def PerR (cs : List Value) (x : Int × Int) : Prop := cs = [.int .i64 x.1, .int .i64 x.2]
set_option maxRecDepth 100000 in
theorem opn_per : Opn enc w 24 PerR (fun _ => 1) := by
  intro fuel cs x h
  obtain ⟨hl, n, xs, hxl, hb, hf⟩ := opn_fields Tryz.underlying24 h
  rw [show Tryz.prog.cellsOf 24 = 2 from by kernel_rfl] at hl
  match cs, hl with
  | [c0, c1], _ =>
  match xs, hxl with
  | [y0, y1], _ =>
  have h0 := hf 0 _ rfl
  have h1 := hf 1 _ rfl
  obtain ⟨k, ⟨e0, w0⟩, _⟩ := opn_int Tryz.underlying3 _ _ _ h0
  obtain ⟨i, ⟨e1, w1⟩, _⟩ := opn_int Tryz.underlying3 _ _ _ h1
  have e0' : [c0] = [.int .i64 k] := e0
  have e1' : [c1] = [.int .i64 i] := e1
  simp only [List.cons.injEq, and_true] at e0' e1'
  subst e0'; subst e1'
  exact ⟨(k, i), rfl, bulk_one _⟩
def VerR (w : World) (cs : List Value) (p : VP) : Prop := cs = p.1.enc ∧ VerIs w (· < w.heap.size) p.1 p.2
set_option maxRecDepth 100000 in
theorem opn_ver : Opn enc w 61 (VerR w) (fun _ => 1) := by
  intro fuel cs x h
  obtain ⟨hl, n, xs, hxl, hb, hf⟩ := opn_fields Tryz.underlying61 h
  rw [show Tryz.prog.cellsOf 61 = 9 from by kernel_rfl] at hl
  match cs, hl with
  | [c0, c1, c2, c3, c4, c5, c6, c7, c8], _ =>
  match xs, hxl with
  | [y0, y1, y2, y3, y4, y5, y6], _ =>
  have h0 := hf 0 _ rfl
  have h1 := hf 1 _ rfl
  have h2 := hf 2 _ rfl
  have h3 := hf 3 _ rfl
  have h4 := hf 4 _ rfl
  have h5 := hf 5 _ rfl
  have h6 := hf 6 _ rfl
  obtain ⟨n0, ⟨e0, _⟩, _⟩ := opn_int Tryz.underlying3 _ _ _ h0
  obtain ⟨n1, ⟨e1, _⟩, _⟩ := opn_int Tryz.underlying3 _ _ _ h1
  obtain ⟨row, ⟨v, e2, hv⟩, _⟩ := opn_list (c := 3) Tryz.underlying59 (by kernel_rfl) opn_val (by omega) _ _ _ h2
  obtain ⟨⟨f3, t3⟩, e3, _⟩ := opn_per _ _ _ h3
  obtain ⟨⟨f4, t4⟩, e4, _⟩ := opn_per _ _ _ h4
  obtain ⟨n5, ⟨e5, _⟩, _⟩ := opn_int Tryz.underlying3 _ _ _ h5
  obtain ⟨n6, ⟨e6, _⟩, _⟩ := opn_int Tryz.underlying3 _ _ _ h6
  have e0' : [c0] = [.int .i64 n0] := e0
  have e1' : [c1] = [.int .i64 n1] := e1
  have e2' : [c2] = [v] := e2
  have e3' : [c3, c4] = [.int .i64 f3, .int .i64 t3] := e3
  have e4' : [c5, c6] = [.int .i64 f4, .int .i64 t4] := e4
  have e5' : [c7] = [.int .i64 n5] := e5
  have e6' : [c8] = [.int .i64 n6] := e6
  simp only [List.cons.injEq, and_true] at e0' e1' e2' e3' e4' e5' e6'
  obtain ⟨e3a, e3b⟩ := e3'
  obtain ⟨e4a, e4b⟩ := e4'
  subst e0'; subst e1'; subst e2'; subst e3a; subst e3b; subst e4a; subst e4b; subst e5'; subst e6'
  obtain ⟨hr, hg⟩ := rdV_of hv
  obtain ⟨A, c, rfl, _⟩ := hr.open_
  refine ⟨(⟨n0, n1, A, row.length, c, f3, t3, f4, t4, n5, n6⟩, ⟨n0, n1, row, f3, t3, f4, t4, n5, n6⟩), ⟨rfl, ⟨rfl, rfl, rfl, rfl, rfl, rfl, rfl, rfl, hr, hg⟩⟩, ?_⟩
  exact bulk_one _
theorem rdVs_of {F : Nat → Prop} {v : Value} {l : List VP} (h : RdL w F 9 (VerR w) v l) (hF : ∀ b, F b → b < w.heap.size) : RdVs w (· < w.heap.size) v l := by
  obtain ⟨ps, rfl, hr, hp⟩ := h
  have e : ps.flatMap (·.1) = (ps.map (·.2)).flatMap (fun p => p.1.enc) := by
    clear hr
    induction ps with
    | nil => rfl
    | cons p ps ih =>
      obtain ⟨_, h1, h2⟩ := hp p (List.mem_cons_self ..)
      rw [List.flatMap_cons, ih (fun q hq => hp q (List.mem_cons_of_mem _ hq)), h1]
      rfl
  refine ⟨?_, fun x hx => ?_⟩
  · rw [List.length_map, ← e]
    exact hr.wide hF
  · obtain ⟨q, hq, rfl⟩ := List.mem_map.1 hx
    exact (hp q hq).2.2
set_option maxRecDepth 100000 in
theorem open_vers {v : Value} {d : DataW H} {ps : List MemPlace} (hval : Value.okWide Tryz.prog w r b0 22 v) (h : DataW.Trod enc Tryz.prog w 0 (fun _ => true) true 22 v d ps) :
    ∃ l : List VP, RdVs w (· < w.heap.size) v l := by
  obtain ⟨A, n, c, rfl⟩ := okWide_slice Tryz.underlying22 hval
  obtain ⟨l, ⟨v, e, hl⟩, hs⟩ := (opn_list (c := 9) Tryz.underlying22 (by kernel_rfl) (opn_ver (enc := enc) (w := w)) (by omega)).arg h
  simp only [Value.cells, List.cons.injEq, and_true] at e
  subst e
  exact ⟨l, rdVs_of hl fun _ h => h⟩
set_option maxRecDepth 100000 in
theorem open_str {v : Value} {d : DataW H} {ps : List MemPlace} (hval : Value.okWide Tryz.prog w r b0 9 v) (h : DataW.Trod enc Tryz.prog w 0 (fun _ => true) true 9 v d ps) :
    ∃ l : List UInt8, v = .string (strB l) ∧ l.length ≤ maxLen := by
  obtain ⟨s, rfl⟩ := okWide_string Tryz.underlying9 hval
  obtain ⟨l, ⟨e, hl⟩, _⟩ := (opn_str (enc := enc) (w := w) Tryz.underlying9).arg h
  simp only [Value.cells, List.cons.injEq, and_true] at e
  exact ⟨l, e, hl⟩
end
end Go.Proofs.YtacjiocffbgkkaaGreat
