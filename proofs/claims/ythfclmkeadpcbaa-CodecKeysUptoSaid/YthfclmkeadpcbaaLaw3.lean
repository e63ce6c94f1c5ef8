/-
  Arguments of laws: rows of values. Plain lemmas.
-/
import Derived.Test.YthfclmkeadpcbaaLaw2
import Derived.Test.YthfclmkeadpcbaaCodecR
namespace Go.Proofs.Ythfclmkeadpcbaa
open Go.ChangeShapes Go.WideShapes Go.ChangeAt Go.RowKit Go.Lib Go.Deep Go.Joins

theorem cellsV : Try.prog.cellsOf 37 = 3 := by kernel_rfl

section
variable {H : Type} {enc : TypeId × Value → H} {w : World} {b0 : Nat} {r : Reach}
theorem trod_V {fuel : Nat} {cs : List Value} {x : DataW H × List MemPlace} (h : DataW.trod enc Try.prog w 0 (fun _ => true) true fuel 37 cs = some x) : ∃ y : Val, cs = y.cells ∧ goV y := by
  obtain ⟨y0, y1, y2, n, hx, hl, h0, h1, h2⟩ := trod_struct3 Try.underlying37 h
  rw [cellsV] at hl
  match cs, hl with
  | [c0, c1, c2], _ =>
    obtain ⟨k, hk, _, wk⟩ := DataW.trod_int Try.underlying3 (cs := [c0]) h0
    obtain ⟨i, hi, _, wi⟩ := DataW.trod_int Try.underlying3 (cs := [c1]) h1
    obtain ⟨s, hs, _, ws⟩ := DataW.trod_string Try.underlying9 (cs := [c2]) h2
    simp only [List.cons.injEq, and_true] at hk hi hs
    subst hk; subst hi; subst hs
    exact ⟨⟨k, i, s⟩, rfl, (int_bd wi).1, (int_bd wi).2, ws⟩
theorem open_R {v : Value} {d : DataW H} {ps : List MemPlace} (hval : Value.okWide Try.prog w r b0 30 v) (h : DataW.Trod enc Try.prog w 0 (fun _ => true) true 30 v d ps) :
    ∃ xs : List Val, RdV w (· < w.heap.size) v xs ∧ (∀ x ∈ xs, goV x) ∧ ((d = .nil ∧ xs = []) ∨ ∃ el sp, d = .slice el sp ∧ el.length = xs.length) := by
  obtain ⟨A, n, c, rfl⟩ := okWide_slice Try.underlying30 hval
  obtain ⟨fuel, hf⟩ := h
  rcases open_slice Try.underlying30 hf with ⟨h1, h2⟩ | ⟨a, len, cap, m, q, D, Pl, h1, _, hl, hm, hmm, hx, hi⟩
  · simp only [Value.cells, List.cons.injEq, Value.slice.injEq, and_true] at h1
    obtain ⟨rfl, rfl, rfl⟩ := h1
    simp only [Prod.mk.injEq] at h2
    exact ⟨[], Rd.nil w _ 3, by simp, .inl ⟨h2.1, rfl⟩⟩
  · simp only [Value.cells, List.cons.injEq, Value.slice.injEq, and_true] at h1
    obtain ⟨rfl, rfl, rfl⟩ := h1
    simp only [Prod.mk.injEq] at hx
    simp only [if_true] at hmm
    subst hmm
    have each : ∀ i, ∃ y : Val, i < m → w.cells? 0 (a.add (i * 3)) 3 = some y.cells ∧ goV y := by
      intro i
      by_cases hic : i < m
      · obtain ⟨cs', hc', ht⟩ := hi i hic
        rw [cellsV] at hc'
        obtain ⟨y, rfl, hg⟩ := trod_V ht
        exact ⟨y, fun _ => ⟨hc', hg⟩⟩
      · exact ⟨⟨0, 0, ⟨#[]⟩⟩, fun h => absurd h hic⟩
    obtain ⟨f, hfv⟩ := Classical.skolem.1 each
    have hlen : ((List.range n).map f).length = n := by simp
    refine ⟨(List.range n).map f, ?_, ?_, .inr ⟨_, _, hx.1, by simp⟩⟩
    · unfold RdV
      rw [hlen]
      refine ⟨by rw [cv_length, hlen], _, _, rfl, hl, hm, fun h => (Option.some_ne_none _ h).elim, fun hn => ⟨a, rfl, ?_, fun j u hu => ?_⟩⟩
      · obtain ⟨hc', _⟩ := hfv 0 (by omega)
        obtain ⟨_, _, hat⟩ := World.cells?_some hc'
        have h0 := hat 0 (by omega)
        have e : (f 0).cells[0]? = some (.int .i64 (f 0).kind) := rfl
        rw [e] at h0
        have := World.block_lt_of_cell? w _ h0
        rwa [block_add, block_add] at this
      · have hj : j < n * 3 := by
          have : j < (cv ((List.range n).map f)).length := by
            rcases Nat.lt_or_ge j (cv ((List.range n).map f)).length with h | h
            · exact h
            · rw [List.getElem?_eq_none h] at hu; cases hu
          rwa [cv_length, hlen] at this
        have hq : j / 3 < n := by omega
        obtain ⟨hc', _⟩ := hfv (j / 3) (by omega)
        obtain ⟨_, _, hat⟩ := World.cells?_some hc'
        have h0 := hat (j % 3) (by omega)
        rw [add_add', show j / 3 * 3 + j % 3 = j by omega] at h0
        rw [h0]
        have hg := cv_get (xs := (List.range n).map f) (k := j / 3) (j := j % 3) (by rw [hlen]; exact hq) (by omega)
        rw [show j / 3 * 3 + j % 3 = j by omega, hu] at hg
        rw [hg]
        simp
    · intro x hxm
      simp only [List.mem_map, List.mem_range] at hxm
      obtain ⟨i, hin, rfl⟩ := hxm
      exact (hfv i (by omega)).2
end
theorem bulk_row {H : Type} {d : DataW H} {xs : List Val} (h : Rows.uptoBulk d ≤ 1048576) (hd : (d = .nil ∧ xs = []) ∨ ∃ el sp, d = .slice el sp ∧ el.length = xs.length) : xs.length ≤ 1048576 := by
  rcases hd with ⟨_, rfl⟩ | ⟨el, sp, rfl, he⟩
  · simp
  · have := bulk_slice el sp; omega
end Go.Proofs.Ythfclmkeadpcbaa
