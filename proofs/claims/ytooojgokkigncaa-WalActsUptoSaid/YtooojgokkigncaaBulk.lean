/-
  How much a reading holds; arguments that are lists of slices of bytes. Plain lemmas.
-/
import Derived.Test.YtooojgokkigncaaLaw
import Derived.Test.YtooojgokkigncaaWalE
import Derived.Deep.Matrix
namespace Go.Proofs.Ytooojgokkigncaa
open Go.ChangeShapes Go.WideShapes Go.ChangeAt Go.RowKit Go.Lib Go.Deep

theorem bulk_one {H : Type} (d : DataW H) : 1 ≤ Rows.uptoBulk d := by
  cases d with
  | lit l => cases l <;> simp [Rows.uptoBulk]
  | _ => simp [Rows.uptoBulk]
theorem bulk_length {H : Type} (l : List (DataW H)) : l.length ≤ Rows.uptoBulkAll l := by
  induction l with
  | nil => simp [Rows.uptoBulkAll]
  | cons x r ih => have := bulk_one x; simp only [Rows.uptoBulkAll, List.length_cons]; omega
theorem bulk_slice {H : Type} (el sp : List (DataW H)) : el.length ≤ Rows.uptoBulk (.slice el sp) := by
  have := bulk_length el
  simp only [Rows.uptoBulk]
  omega
theorem bulk_in {H : Type} (el sp : List (DataW H)) : Rows.uptoBulkAll el ≤ Rows.uptoBulk (.slice el sp) := by
  simp only [Rows.uptoBulk]
  omega
theorem bulk_mem {H : Type} {l : List (DataW H)} {d : DataW H} (h : d ∈ l) : Rows.uptoBulk d ≤ Rows.uptoBulkAll l := by
  induction l with
  | nil => cases h
  | cons x r ih =>
    simp only [Rows.uptoBulkAll]
    rcases List.mem_cons.1 h with rfl | h
    · omega
    · have := ih h; omega
theorem bulk_append {H : Type} (a b : List (DataW H)) : Rows.uptoBulkAll (a ++ b) = Rows.uptoBulkAll a + Rows.uptoBulkAll b := by
  induction a with
  | nil => simp [Rows.uptoBulkAll]
  | cons x r ih => simp only [List.cons_append, Rows.uptoBulkAll, ih]; omega
theorem bulk_bound {H : Type} {l gs : List (DataW H)} (h : Rows.uptoSmall H (l ++ gs) = true) : Rows.uptoBulkAll l ≤ 1048576 := by
  have h : Rows.uptoBulkAll (l ++ gs) ≤ 1048576 := of_decide_eq_true h
  rw [bulk_append] at h
  omega
theorem bulk_arg {H : Type} {l gs : List (DataW H)} {d : DataW H} (h : Rows.uptoSmall H (l ++ gs) = true) (hd : d ∈ l) : Rows.uptoBulk d ≤ 1048576 :=
  Nat.le_trans (bulk_mem hd) (bulk_bound h)

/-- the bytes of a row of numbers -/
def byteRow (L : Nat) (Z : List Int) : List UInt8 := (Z.take L).map fun z => UInt8.ofNat z.toNat
section
variable {H : Type} {enc : TypeId × Value → H} {w : World} {b0 : Nat} {r : Reach}
theorem rdB_row {A : Option Addr} {L C : Nat} {Z : List Int} (hl : L ≤ C) (hm : C ≤ maxLen) (hz : Z.length = C) (hw : ∀ n ∈ Z, (Lit.int .u8 n).wf = true) (h0 : A = none → C = 0)
    (hc : ∀ a', A = some a' → ∀ c, c < C → w.cell? (a'.add c) = some (.int .u8 (Z.getD c 0))) : RdB w (· < w.heap.size) (.slice A L C) (byteRow L Z) := by
  have hb : ∀ z ∈ Z, 0 ≤ z ∧ z ≤ 255 := fun z hzm => by
    have := hw z hzm
    simpa [Lit.wf, IntKind.min, IntKind.max, IntKind.signed, IntKind.bits] using this
  have hlen : (byteRow L Z).length = L := by simp [byteRow]; omega
  unfold RdB
  rw [hlen]
  refine ⟨by rw [bv_length, hlen, Nat.mul_one], _, _, rfl, hl, hm, h0, fun hn => ?_⟩
  cases A with
  | none => have := h0 rfl; omega
  | some a =>
    refine ⟨a, rfl, ?_, fun j u hu => ?_⟩
    · have h1 := hc a rfl 0 (by omega)
      have := World.block_lt_of_cell? w _ h1
      rwa [block_add] at this
    · have hj : j < L := by
        have : j < (bv (byteRow L Z)).length := by
          rcases Nat.lt_or_ge j (bv (byteRow L Z)).length with h | h
          · exact h
          · rw [List.getElem?_eq_none h] at hu; cases hu
        rwa [bv_length, hlen] at this
      have hjz : j < Z.length := by omega
      rw [hc a rfl j (by omega), ← hu, bv_get (by rw [hlen]; exact hj)]
      have hz' := hb Z[j] (List.getElem_mem hjz)
      simp only [byteRow, List.getElem_map, List.getElem_take, List.getD, List.getElem?_eq_getElem hjz, Option.getD_some]
      rw [← byte_of (by omega)]
      congr 2
      omega
theorem bulk_row {A : Option Addr} {L C : Nat} {Z : List Int} (hz : Z.length = C) (hl : L ≤ C) (h0 : A = none → C = 0) : (byteRow L Z).length + 1 ≤ Rows.uptoBulk (intRow (H := H) .u8 A L Z) := by
  have hlen : (byteRow L Z).length = L := by simp [byteRow]; omega
  rw [hlen]
  cases A with
  | none => have := h0 rfl; have := bulk_one (DataW.nil (H := H)); simp only [intRow]; omega
  | some a =>
    simp only [intRow, Rows.uptoBulk]
    have := bulk_length (lits (H := H) .u8 (Z.take L))
    have e : (lits (H := H) .u8 (Z.take L)).length = L := by simp [lits]; omega
    omega
theorem bulk_rows (f : Nat → List UInt8) (g : Nat → DataW H) (n : Nat) (h : ∀ r, r < n → (f r).length + 1 ≤ Rows.uptoBulk (g r)) : lsum ((List.range n).map f) + n ≤ Rows.uptoBulkAll ((List.range n).map g) := by
  induction n with
  | zero => simp [lsum]
  | succ n ih =>
    have := ih (fun r hr => h r (by omega))
    have h2 := h n (by omega)
    rw [List.range_succ, List.map_append, List.map_append, lsum_append, bulk_append]
    simp only [List.map_cons, List.map_nil, lsum, List.sum_cons, List.sum_nil, Rows.uptoBulkAll] at *
    omega
set_option maxRecDepth 100000 in
/-- an argument that is a list of slices of bytes -/
theorem open_LB {v : Value} {d : DataW H} {ps : List MemPlace} (hval : Value.okWide Try.prog w r b0 22 v) (h : DataW.Trod enc Try.prog w 0 (fun _ => true) true 22 v d ps) :
    ∃ ls : List (List UInt8), InL w.heap.size w v ls ∧ lsum ls + ls.length ≤ Rows.uptoBulk d := by
  obtain ⟨A, n, c, rfl⟩ := okWide_slice Try.underlying22 hval
  obtain ⟨fuel, hf⟩ := h
  rcases open_int_rows (k := .u8) Try.underlying22 Try.underlying23 Try.underlying5 (by kernel_rfl) (by kernel_rfl) hf with ⟨h1, h2⟩ | ⟨a, len, cap, A', L, C, Z, h1, _, hl, hm, hx, hr⟩
  · simp only [Value.cells, List.cons.injEq, Value.slice.injEq, and_true] at h1
    obtain ⟨rfl, rfl, rfl⟩ := h1
    exact ⟨[], ⟨[], ⟨rfl, none, 0, rfl, Nat.le_refl _, Nat.zero_le _, fun _ => rfl, fun h => absurd h (Nat.lt_irrefl 0)⟩, fun i u l hu => by simp at hu⟩, by simp [lsum]⟩
  · simp only [Value.cells, List.cons.injEq, Value.slice.injEq, and_true] at h1
    obtain ⟨rfl, rfl, rfl⟩ := h1
    simp only [Prod.mk.injEq] at hx
    have hel : ((List.range n).map fun r => byteRow (L r) (Z r)).length = n := by simp
    refine ⟨(List.range n).map fun r => byteRow (L r) (Z r), ⟨(List.range n).map fun r => .slice (A' r) (L r) (C r), ?_, ?_⟩, ?_⟩
    · rw [hel]
      refine ⟨by simp, _, _, rfl, hl, hm, fun h => (Option.some_ne_none _ h).elim, fun hn => ⟨a, rfl, ?_, fun j u hu => ?_⟩⟩
      · have h0 := (hr 0 (by omega)).1
        have := World.block_lt_of_cell? w _ h0
        rwa [block_add] at this
      · rw [List.getElem?_map] at hu
        rcases Nat.lt_or_ge j n with hj | hj
        · rw [List.getElem?_range hj] at hu
          simp only [Option.map_some, Option.some.injEq] at hu
          rw [← hu]
          exact (hr j (by omega)).1
        · rw [List.getElem?_eq_none (by simpa using hj)] at hu
          cases hu
    · intro i u l hu hl'
      rw [List.getElem?_map] at hu hl'
      rcases Nat.lt_or_ge i n with hj | hj
      · rw [List.getElem?_range hj] at hu hl'
        simp only [Option.map_some, Option.some.injEq] at hu hl'
        subst hu; subst hl'
        obtain ⟨_, r1, r2, r3, r4, r5, r6⟩ := hr i (by omega)
        exact rdB_row r1 r2 r3 r4 r5 (fun a' ha => (r6 a' ha).2)
      · rw [List.getElem?_eq_none (by simpa using hj)] at hu
        cases hu
    · rw [hx.1, hel]
      refine Nat.le_trans (bulk_rows _ (fun r => intRow .u8 (A' r) (L r) (Z r)) n (fun r hr' => ?_)) (bulk_in _ _)
      obtain ⟨_, r1, r2, r3, r4, r5, r6⟩ := hr r (by omega)
      exact bulk_row r3 r1 r5
end
end Go.Proofs.Ytooojgokkigncaa
