/-
  Arguments that are lists of operations on logs. Plain lemmas.
-/
import Derived.Test.YtooojgokkigncaaFileH
import Derived.Test.YtooojgokkigncaaWalF
namespace Go.Proofs.Ytooojgokkigncaa
open Go.ChangeShapes Go.WideShapes Go.ChangeAt Go.RowKit Go.Lib Go.Deep

theorem bulk_three {H : Type} {a b c : DataW H} {r gs : List (DataW H)} (h : Rows.uptoSmall H ((a :: b :: c :: r) ++ gs) = true) : Rows.uptoBulk a + Rows.uptoBulk b + Rows.uptoBulk c ≤ 1048576 := by
  have := bulk_bound h
  simp only [Rows.uptoBulkAll] at this
  omega
section
variable {H : Type} {enc : TypeId × Value → H} {w : World} {b0 : Nat} {r : Reach}
instance : Inhabited VOp := ⟨⟨0, [], 0, 0⟩⟩
def VOpR (w : World) (cs : List Value) (q : VOp) : Prop := ∃ v, cs = [.int .i64 q.kind, v, .int .i64 q.keep, .int .i64 q.torn] ∧ RdB w (· < w.heap.size) v q.data
set_option maxRecDepth 100000 in
theorem opn_vop : Opn enc w 70 (VOpR w) (fun q => q.data.length + 1) := by
  intro fuel cs x h
  obtain ⟨hl, n, xs, hxl, hb, hf⟩ := opn_fields Try.underlying70 h
  rw [show Try.prog.cellsOf 70 = 4 from by kernel_rfl] at hl
  match cs, hl with
  | [c0, c1, c2, c3], _ =>
  match xs, hxl with
  | [y0, y1, y2, y3], _ =>
  have h0 := hf 0 _ rfl
  have h1 := hf 1 _ rfl
  have h2 := hf 2 _ rfl
  have h3 := hf 3 _ rfl
  obtain ⟨kd, ⟨e0, _⟩, s0⟩ := opn_int Try.underlying3 _ _ _ h0
  obtain ⟨l, ⟨v, e1, hv⟩, s1⟩ := opn_bytes Try.underlying23 _ _ _ h1
  obtain ⟨kp, ⟨e2, _⟩, s2⟩ := opn_int Try.underlying3 _ _ _ h2
  obtain ⟨tn, ⟨e3, _⟩, s3⟩ := opn_int Try.underlying3 _ _ _ h3
  have e0' : [c0] = [.int .i64 kd] := e0
  have e1' : [c1] = [v] := e1
  have e2' : [c2] = [.int .i64 kp] := e2
  have e3' : [c3] = [.int .i64 tn] := e3
  simp only [List.cons.injEq, and_true] at e0' e1' e2' e3'
  subst e0'; subst e1'; subst e2'; subst e3'
  refine ⟨⟨kd, l, kp, tn⟩, ⟨_, rfl, hv⟩, ?_⟩
  rw [hb]
  simp only [List.map_cons, List.map_nil, Rows.uptoBulkAll] at *
  omega
theorem vops_of {v : Value} {vos : List VOp} (h : RdL w (· < w.heap.size) 4 (VOpR w) v vos) : InVs w.heap.size w v vos := by
  obtain ⟨ps, rfl, hr, hp⟩ := h
  have key : ∃ qs : List (VOp × Value), qs.map (·.1) = ps.map (·.2) ∧ vopCs qs = ps.flatMap (·.1) ∧ ∀ q ∈ qs, RdB w (· < w.heap.size) q.2 q.1.data := by
    clear hr
    induction ps with
    | nil => exact ⟨[], rfl, rfl, fun q hq => by cases hq⟩
    | cons p ps ih =>
      obtain ⟨qs, h1, h2, h3⟩ := ih fun q hq => hp q (List.mem_cons_of_mem _ hq)
      obtain ⟨_, u, e, hu⟩ := hp p (List.mem_cons_self ..)
      refine ⟨(p.2, u) :: qs, by simp [h1], ?_, ?_⟩
      · rw [List.flatMap_cons, e, ← h2]; rfl
      · intro q hq
        rcases List.mem_cons.1 hq with rfl | hq
        · exact hu
        · exact h3 q hq
  obtain ⟨qs, h1, h2, h3⟩ := key
  refine ⟨qs, h1, ?_, h3⟩
  have e : qs.length = ps.length := by have := congrArg List.length h1; simpa using this
  rw [h2, e]
  exact hr
theorem vosum_sz (vos : List VOp) : vosum vos + vos.length + 1 = szL (fun q : VOp => q.data.length + 1) vos := by
  unfold vosum szL
  induction vos with
  | nil => rfl
  | cons p r ih => simp only [List.map_cons, List.sum_cons, List.length_cons] at *; omega
set_option maxRecDepth 100000 in
theorem open_vops {v : Value} {d : DataW H} {ps : List MemPlace} (hval : Value.okWide Try.prog w r b0 67 v) (h : DataW.Trod enc Try.prog w 0 (fun _ => true) true 67 v d ps) :
    ∃ vos : List VOp, InVs w.heap.size w v vos ∧ vosum vos + vos.length + 1 ≤ Rows.uptoBulk d := by
  obtain ⟨A, n, c, rfl⟩ := okWide_slice Try.underlying67 hval
  obtain ⟨vos, ⟨v, e, hl⟩, hs⟩ := (opn_list (c := 4) Try.underlying67 (by kernel_rfl) (opn_vop (enc := enc) (w := w)) (by omega)).arg h
  simp only [Value.cells, List.cons.injEq, and_true] at e
  subst e
  exact ⟨vos, vops_of hl, by rw [vosum_sz]; exact hs⟩
end
end Go.Proofs.Ytooojgokkigncaa
