/-
  Arguments of laws: periods, values, rows of values; how much they hold. Plain lemmas.
-/
import Derived.Test.YthfclmkeadpcbaaLaw
import Derived.Test.YthfclmkeadpcbaaCodecI
import Derived.Lib.SmallJoins
import Derived.Deep.Fields
namespace Go.Proofs.Ythfclmkeadpcbaa
open Go.ChangeShapes Go.WideShapes Go.ChangeAt Go.RowKit Go.Lib Go.Deep Go.Joins

theorem equal_same (va vb : Value) (l : List UInt8) (F G : Nat → Prop) (w : World) (ha : RdB w F va l) (hb : RdB w G vb l) :
    Calls Try.prog 13 #[va, vb] w fun e w' => e = .returned (.bool true) ∧ w = w' := by
  have := equal_any va vb l l F G w ha hb
  rwa [beq_self_eq_true] at this

/-! how much a reading holds -/
theorem bulk_one {H : Type} (d : DataW H) : 1 ≤ Rows.uptoBulk d := by
  cases d with
  | lit l => cases l <;> simp [Rows.uptoBulk]
  | _ => simp [Rows.uptoBulk]
theorem bulk_length {H : Type} (l : List (DataW H)) : l.length ≤ Rows.uptoBulkAll l := by
  induction l with
  | nil => simp [Rows.uptoBulkAll]
  | cons x r ih => have := bulk_one x; simp only [Rows.uptoBulkAll, List.length_cons]; omega
theorem bulk_slice {H : Type} (el sp : List (DataW H)) : el.length ≤ Rows.uptoBulk (.slice el sp) := by
  have := bulk_length el
  simp only [Rows.uptoBulk]
  omega
theorem bulk_mem {H : Type} {l : List (DataW H)} {d : DataW H} (h : d ∈ l) : Rows.uptoBulk d ≤ Rows.uptoBulkAll l := by
  induction l with
  | nil => cases h
  | cons x r ih =>
    simp only [Rows.uptoBulkAll]
    rcases List.mem_cons.1 h with rfl | h
    · omega
    · have := ih h; omega
theorem bulk_append {H : Type} (a b : List (DataW H)) : Rows.uptoBulkAll (a ++ b) = Rows.uptoBulkAll a + Rows.uptoBulkAll b := by
  induction a with
  | nil => simp [Rows.uptoBulkAll]
  | cons x r ih => simp only [List.cons_append, Rows.uptoBulkAll, ih]; omega
theorem bulk_bound {H : Type} {l gs : List (DataW H)} (h : Rows.uptoSmall H (l ++ gs) = true) : Rows.uptoBulkAll l ≤ 1048576 := by
  have h : Rows.uptoBulkAll (l ++ gs) ≤ 1048576 := of_decide_eq_true h
  rw [bulk_append] at h
  omega
theorem bulk_arg {H : Type} {l gs : List (DataW H)} {d : DataW H} (h : Rows.uptoSmall H (l ++ gs) = true) (hd : d ∈ l) : Rows.uptoBulk d ≤ 1048576 :=
  Nat.le_trans (bulk_mem hd) (bulk_bound h)
theorem bulk_string {H : Type} (bs : List UInt8) : bs.length ≤ Rows.uptoBulk (DataW.lit (H := H) (.string bs)) := by simp [Rows.uptoBulk]

section
variable {H : Type} {enc : TypeId × Value → H} {w : World} {b0 : Nat} {r : Reach}
theorem open_P {v : Value} {d : DataW H} {ps : List MemPlace} (hval : Value.okWide Try.prog w r b0 44 v) (h : DataW.Trod enc Try.prog w 0 (fun _ => true) true 44 v d ps) :
    ∃ f t : Int, v = .agg #[.int .i64 f, .int .i64 t] ∧ (-9223372036854775808 ≤ f ∧ f ≤ 9223372036854775807) ∧ (-9223372036854775808 ≤ t ∧ t ≤ 9223372036854775807) := by
  obtain ⟨v0, v1, y0, y1, n, rfl, _, _, h0, h1⟩ := open_agg2 Try.underlying44 (by kernel_rfl) (by kernel_rfl) hval h
  obtain ⟨f, hf, _, wf⟩ := DataW.trod_int Try.underlying3 h0
  obtain ⟨t, ht, _, wt⟩ := DataW.trod_int Try.underlying3 h1
  simp only [List.cons.injEq, and_true] at hf ht
  subst hf; subst ht
  exact ⟨f, t, rfl, int_bd wf, int_bd wt⟩
theorem open_V {v : Value} {d : DataW H} {ps : List MemPlace} (hval : Value.okWide Try.prog w r b0 37 v) (h : DataW.Trod enc Try.prog w 0 (fun _ => true) true 37 v d ps) :
    ∃ (k i : Int) (s : ByteArray), v = .agg #[.int .i64 k, .int .i64 i, .string s] ∧ (-9223372036854775808 ≤ i ∧ i ≤ 9223372036854775807) ∧ s.size ≤ maxLen := by
  obtain ⟨v0, v1, v2, y0, y1, y2, n, rfl, _, _, h0, h1, h2⟩ := open_agg3 Try.underlying37 (by kernel_rfl) (by kernel_rfl) hval h
  obtain ⟨k, hk, _, wk⟩ := DataW.trod_int Try.underlying3 h0
  obtain ⟨i, hi, _, wi⟩ := DataW.trod_int Try.underlying3 h1
  obtain ⟨s, hs, _, ws⟩ := DataW.trod_string Try.underlying9 h2
  simp only [List.cons.injEq, and_true] at hk hi hs
  subst hk; subst hi; subst hs
  exact ⟨k, i, s, rfl, int_bd wi, ws⟩
end
end Go.Proofs.Ythfclmkeadpcbaa
