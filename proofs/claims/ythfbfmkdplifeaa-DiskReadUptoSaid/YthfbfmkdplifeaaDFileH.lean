/-
 FileH
-/
import Derived.Test.YthfbfmkdplifeaaDOpens
import Derived.Test.YthfbfmkdplifeaaDFile
namespace Go.Proofs.Ythfbfmkdplifeaa
open Go.ChangeShapes Go.WideShapes Go.ChangeAt Go.RowKit Go.Lib Go.Deep
section
variable {H : Type} {enc : TypeId × Value → H} {w : World} {b0 : Nat} {r : Reach}
def FileR (w : World) (cs : List Value) (q : List UInt8 × List UInt8) : Prop := ∃ v, cs = [.string (strB q.1), v] ∧ RdB w (· < w.heap.size) v q.2 ∧ q.1.length ≤ maxLen
set_option maxRecDepth 100000 in
theorem opn_file : Opn enc w 43 (FileR w) (fun q => q.2.length + 1) := by
 intro fuel cs x h
 obtain ⟨hl, n, xs, hxl, hb, hf⟩ := opn_fields Try.underlying43 h
 rw [show Try.prog.cellsOf 43 = 2 from by kernel_rfl] at hl
 match cs, hl with
 | [c0, c1], _ =>
 match xs, hxl with
 | [y0, y1], _ =>
 have h0 := hf 0 _ rfl
 have h1 := hf 1 _ rfl
 obtain ⟨nm, ⟨e0, hn⟩, s0⟩ := opn_str Try.underlying9 _ _ _ h0
 obtain ⟨l, ⟨v, e1, hv⟩, s1⟩ := opn_bytes Try.underlying33 _ _ _ h1
 have e0' : [c0] = [.string (strB nm)] := e0
 have e1' : [c1] = [v] := e1
 simp only [List.cons.injEq, and_true] at e0' e1'
 subst e0'; subst e1'
 refine ⟨(nm, l), ⟨_, rfl, hv, hn⟩, ?_⟩
 rw [hb]
 simp only [List.map_cons, List.map_nil, Rows.uptoBulkAll] at *
 omega
theorem files_of {_ : Inhabited Nb} {F : Nat → Prop} {v : Value} {fl : FL} (h : RdL w F 2 (FileR w) v fl) (hF : ∀ b, F b → b < w.heap.size) (hn : NB = 0) : FlsRd w.heap.size w v fl ∧ ∀ p ∈ fl, p.1.length ≤ maxLen := by
 obtain ⟨ps, rfl, hr, hp⟩ := h
 have key : ∃ qs : List ((List UInt8 × List UInt8) × Value), qs.map (·.1) = ps.map (·.2) ∧ fileCs qs = ps.flatMap (·.1) ∧ ∀ q ∈ qs, DatB w.heap.size w q.2 q.1.2 := by
  clear hr
  induction ps with
  | nil => exact ⟨[], rfl, rfl, fun q hq => by cases hq⟩
  | cons p ps ih =>
   obtain ⟨qs, h1, h2, h3⟩ := ih fun q hq => hp q (List.mem_cons_of_mem _ hq)
   obtain ⟨_, u, e, hu, _⟩ := hp p (List.mem_cons_self ..)
   refine ⟨(p.2, u) :: qs, by simp [h1], ?_, ?_⟩
   ·rw [List.flatMap_cons, e, ← h2]; rfl
   ·intro q hq
    rcases List.mem_cons.1 hq with rfl | hq
    ·exact DatB.of_input hu (Nat.le_refl _) hn
    ·exact h3 q hq
 obtain ⟨qs, h1, h2, h3⟩ := key
 refine ⟨⟨qs, h1, ?_, h3⟩, ?_⟩
 ·have e : qs.length = ps.length := by have := congrArg List.length h1; simpa using this
  rw [h2, e]
  exact hr.wide fun b hb => .inl (hF b hb)
 ·intro p hp'
  obtain ⟨q, hq, rfl⟩ := List.mem_map.1 hp'
  obtain ⟨_, u, e, hu, hn⟩ := hp q hq
  exact hn
theorem flsum_sz (fl : FL) : flsum fl + fl.length + 1 = szL (fun q : List UInt8 × List UInt8 => q.2.length + 1) fl := by
 unfold flsum szL
 induction fl with
 | nil => rfl
 | cons p r ih => simp only [List.map_cons, List.sum_cons, List.length_cons] at *; omega
set_option maxRecDepth 100000 in
theorem open_files {_ : Inhabited Nb} {v : Value} {d : DataW H} {ps : List MemPlace} (hval : Value.okWide Try.prog w r b0 22 v) (h : DataW.Trod enc Try.prog w 0 (fun _ => true) true 22 v d ps) (hn : NB = 0) :
  ∃ fl : FL, FlsRd w.heap.size w v fl ∧ (∀ p ∈ fl, p.1.length ≤ maxLen) ∧ flsum fl + fl.length + 1 ≤ Rows.uptoBulk d := by
 obtain ⟨A, n, c, rfl⟩ := okWide_slice Try.underlying22 hval
 obtain ⟨fl, ⟨v, e, hl⟩, hs⟩ := (opn_list (c := 2) Try.underlying22 (by kernel_rfl) (opn_file (enc := enc) (w := w)) (by omega)).arg h
 simp only [Value.cells, List.cons.injEq, and_true] at e
 subst e
 obtain ⟨h1, h2⟩ := files_of hl (fun _ h => h) hn
 exact ⟨fl, h1, h2, by rw [flsum_sz]; exact hs⟩
instance : Inhabited LOp := ⟨⟨0, [], [], [], 0, 0⟩⟩
def LOpR (w : World) (cs : List Value) (q : LOp) : Prop := ∃ v, cs = [.int .i64 q.kind, .string (strB q.name), .string (strB q.to), v, .int .i64 q.keep, .int .i64 q.torn] ∧ RdB w (· < w.heap.size) v q.data ∧ q.name.length ≤ maxLen ∧ q.to.length ≤ maxLen
set_option maxRecDepth 100000 in
theorem opn_lop : Opn enc w 35 (LOpR w) (fun q => q.data.length + 1) := by
 intro fuel cs x h
 obtain ⟨hl, n, xs, hxl, hb, hf⟩ := opn_fields Try.underlying35 h
 rw [show Try.prog.cellsOf 35 = 6 from by kernel_rfl] at hl
 match cs, hl with
 | [c0, c1, c2, c3, c4, c5], _ =>
 match xs, hxl with
 | [y0, y1, y2, y3, y4, y5], _ =>
 have h0 := hf 0 _ rfl
 have h1 := hf 1 _ rfl
 have h2 := hf 2 _ rfl
 have h3 := hf 3 _ rfl
 have h4 := hf 4 _ rfl
 have h5 := hf 5 _ rfl
 obtain ⟨kd, ⟨e0, _⟩, s0⟩ := opn_int Try.underlying3 _ _ _ h0
 obtain ⟨nm, ⟨e1, hn⟩, s1⟩ := opn_str Try.underlying9 _ _ _ h1
 obtain ⟨to, ⟨e2, ht⟩, s2⟩ := opn_str Try.underlying9 _ _ _ h2
 obtain ⟨l, ⟨v, e3, hv⟩, s3⟩ := opn_bytes Try.underlying33 _ _ _ h3
 obtain ⟨kp, ⟨e4, _⟩, s4⟩ := opn_int Try.underlying3 _ _ _ h4
 obtain ⟨tn, ⟨e5, _⟩, s5⟩ := opn_int Try.underlying3 _ _ _ h5
 have e0' : [c0] = [.int .i64 kd] := e0
 have e1' : [c1] = [.string (strB nm)] := e1
 have e2' : [c2] = [.string (strB to)] := e2
 have e3' : [c3] = [v] := e3
 have e4' : [c4] = [.int .i64 kp] := e4
 have e5' : [c5] = [.int .i64 tn] := e5
 simp only [List.cons.injEq, and_true] at e0' e1' e2' e3' e4' e5'
 subst e0'; subst e1'; subst e2'; subst e3'; subst e4'; subst e5'
 refine ⟨⟨kd, nm, to, l, kp, tn⟩, ⟨_, rfl, hv, hn, ht⟩, ?_⟩
 rw [hb]
 simp only [List.map_cons, List.map_nil, Rows.uptoBulkAll] at *
 omega
theorem ops_of {v : Value} {los : List LOp} (h : RdL w (· < w.heap.size) 6 (LOpR w) v los) : InOps w.heap.size w v los ∧ ∀ p ∈ los, p.name.length ≤ maxLen ∧ p.to.length ≤ maxLen := by
 obtain ⟨ps, rfl, hr, hp⟩ := h
 have key : ∃ qs : List (LOp × Value), qs.map (·.1) = ps.map (·.2) ∧ lopCs qs = ps.flatMap (·.1) ∧ ∀ q ∈ qs, RdB w (· < w.heap.size) q.2 q.1.data := by
  clear hr
  induction ps with
  | nil => exact ⟨[], rfl, rfl, fun q hq => by cases hq⟩
  | cons p ps ih =>
   obtain ⟨qs, h1, h2, h3⟩ := ih fun q hq => hp q (List.mem_cons_of_mem _ hq)
   obtain ⟨_, u, e, hu, _⟩ := hp p (List.mem_cons_self ..)
   refine ⟨(p.2, u) :: qs, by simp [h1], ?_, ?_⟩
   ·rw [List.flatMap_cons, e, ← h2]; rfl
   ·intro q hq
    rcases List.mem_cons.1 hq with rfl | hq
    ·exact hu
    ·exact h3 q hq
 obtain ⟨qs, h1, h2, h3⟩ := key
 refine ⟨⟨qs, h1, ?_, h3⟩, ?_⟩
 ·have e : qs.length = ps.length := by have := congrArg List.length h1; simpa using this
  rw [h2, e]
  exact hr
 ·intro p hp'
  obtain ⟨q, hq, rfl⟩ := List.mem_map.1 hp'
  obtain ⟨_, u, e, hu, hn⟩ := hp q hq
  exact hn
theorem losum_sz (los : List LOp) : losum los + los.length + 1 = szL (fun q : LOp => q.data.length + 1) los := by
 unfold losum szL
 induction los with
 | nil => rfl
 | cons p r ih => simp only [List.map_cons, List.sum_cons, List.length_cons] at *; omega
set_option maxRecDepth 100000 in
theorem open_ops {v : Value} {d : DataW H} {ps : List MemPlace} (hval : Value.okWide Try.prog w r b0 23 v) (h : DataW.Trod enc Try.prog w 0 (fun _ => true) true 23 v d ps) :
  ∃ los : List LOp, InOps w.heap.size w v los ∧ (∀ p ∈ los, p.name.length ≤ maxLen ∧ p.to.length ≤ maxLen) ∧ losum los + los.length + 1 ≤ Rows.uptoBulk d := by
 obtain ⟨A, n, c, rfl⟩ := okWide_slice Try.underlying23 hval
 obtain ⟨los, ⟨v, e, hl⟩, hs⟩ := (opn_list (c := 6) Try.underlying23 (by kernel_rfl) (opn_lop (enc := enc) (w := w)) (by omega)).arg h
 simp only [Value.cells, List.cons.injEq, and_true] at e
 subst e
 obtain ⟨h1, h2⟩ := ops_of hl
 exact ⟨los, h1, h2, by rw [losum_sz]; exact hs⟩
end
end Go.Proofs.Ythfbfmkdplifeaa
