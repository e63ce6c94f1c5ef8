/-
  Arguments: small integers, rectangles. Plain lemmas.
-/
import Derived.Test.YtacjiocffbgkkaaGreatArgV7
namespace Go.Proofs.YtacjiocffbgkkaaGreat
open Go.ChangeShapes Go.WideShapes Go.ChangeAt Go.RowKit Go.Lib Go.Deep

section
variable {H : Type} {enc : TypeId × Value → H} {w : World} {b0 : Nat} {r : Reach}
theorem u8_bd {n : Int} (h : (Lit.int .u8 n).wf = true) : 0 ≤ n ∧ n ≤ 255 := by
  simpa [Lit.wf, IntKind.min, IntKind.max, IntKind.signed, IntKind.bits] using h
theorem u16_bd {n : Int} (h : (Lit.int .u16 n).wf = true) : 0 ≤ n ∧ n ≤ 65535 := by
  simpa [Lit.wf, IntKind.min, IntKind.max, IntKind.signed, IntKind.bits] using h
def RectR (cs : List Value) (x : (Int × Int) × (Int × Int)) : Prop := cs = [.int .i64 x.1.1, .int .i64 x.1.2, .int .i64 x.2.1, .int .i64 x.2.2]
set_option maxRecDepth 100000 in
theorem opn_rect : Opn enc w 26 RectR (fun _ => 1) := by
  intro fuel cs x h
  obtain ⟨hl, n, xs, hxl, hb, hf⟩ := opn_fields Tryz.underlying26 h
  rw [show Tryz.prog.cellsOf 26 = 4 from by kernel_rfl] at hl
  match cs, hl with
  | [c0, c1, c2, c3], _ =>
  match xs, hxl with
  | [y0, y1], _ =>
  have h0 := hf 0 _ rfl
  have h1 := hf 1 _ rfl
  obtain ⟨⟨f3, t3⟩, e3, _⟩ := opn_per _ _ _ h0
  obtain ⟨⟨f4, t4⟩, e4, _⟩ := opn_per _ _ _ h1
  have e3' : [c0, c1] = [.int .i64 f3, .int .i64 t3] := e3
  have e4' : [c2, c3] = [.int .i64 f4, .int .i64 t4] := e4
  simp only [List.cons.injEq, and_true] at e3' e4'
  obtain ⟨e3a, e3b⟩ := e3'
  obtain ⟨e4a, e4b⟩ := e4'
  subst e3a; subst e3b; subst e4a; subst e4b
  exact ⟨((f3, t3), (f4, t4)), rfl, bulk_one _⟩
set_option maxRecDepth 100000 in
theorem open_rect {v : Value} {d : DataW H} {ps : List MemPlace} (hval : Value.okWide Tryz.prog w r b0 26 v) (h : DataW.Trod enc Tryz.prog w 0 (fun _ => true) true 26 v d ps) :
    ∃ a b c d : Int, v = .agg #[.int .i64 a, .int .i64 b, .int .i64 c, .int .i64 d] := by
  obtain ⟨cs, rfl, _⟩ := okWide_struct Tryz.underlying26 hval
  obtain ⟨⟨⟨a, b⟩, c, e⟩, h, _⟩ := (opn_rect (enc := enc) (w := w)).arg h
  unfold RectR at h
  simp only [Value.cells] at h
  refine ⟨a, b, c, e, ?_⟩
  rw [← Array.toArray_toList (xs := cs), h]
end
end Go.Proofs.YtacjiocffbgkkaaGreat
