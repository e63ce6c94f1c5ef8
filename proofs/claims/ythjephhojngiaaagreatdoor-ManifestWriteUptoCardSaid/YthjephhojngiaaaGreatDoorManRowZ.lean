/-
  What the listed variables read as; arguments that are manifests. Plain lemmas.
-/
import Derived.Test.YthjephhojngiaaaGreatDoorOpnS
import Derived.Test.YthjephhojngiaaaGreatDoorManZ
import Derived.LaidMore
import Derived.Stop.Joined
import Derived.Deep.DeepHandedRow
import Derived.Deep.Fields
import Derived.Lib.SmallJoins
namespace Go.Proofs.YthjephhojngiaaaGreatDoor
open Go.ChangeShapes Go.WideShapes Go.ChangeAt Go.WideMaps Go.WideElems Go.RowKit Go.Lib Go.Deep Go.Joins

/-- the list of the listed variables, as every row of this seat has it -/
def laid3 : List (String × DataW Unit) := Rows.manifestUnusedRow.laid
theorem gPow : Tryz.prog.globalNamed "internal/strconv.uint64pow10" = some 0 := by kernel_rfl
theorem tPow : ∃ t, (Tryz.prog.globals[0]?).map (·.type) = some t ∧ Tryz.prog.underlying t = some (.array 20 114) ∧ Tryz.prog.cellsOf t = 20 := ⟨167, by kernel_rfl, by kernel_rfl, by kernel_rfl⟩
theorem cU64 : Tryz.prog.cellsOf 114 = 1 := by kernel_rfl
theorem dPow : (Rows.laid_internal_strconv_uint64pow10 : DataW Unit) = Lib.tabData .u64 Lib.pow10Tab := rfl
/-- what the row's conditions give the walks -/
theorem env_of {W : World} (h : laidMetH Tryz.prog laid3 W) : EnvT W := by
  refine ⟨?_⟩
  rw [MakeChecks.laidMetH_plain _ _ _ (by kernel_rfl)] at h
  obtain ⟨ps, ⟨g0, t0, cs0, f0, p0, q0, hg0, ht0, hv0, hd0, ⟨g1, t1, cs1, f1, p1, q1, hg1, ht1, hv1, hd1, ⟨g2, t2, cs2, f2, p2, q2, hg2, ht2, hv2, hd2, _, _⟩, _⟩, _⟩, _, _⟩ := h
  obtain ⟨t, e1, e2, e3⟩ := tPow
  obtain rfl := Option.some.inj (gPow.symm.trans hg2)
  obtain rfl := Option.some.inj (e1.symm.trans ht2)
  unfold Lib.TabIs
  rw [dPow] at hd2
  rw [hv2, ← Lib.cells_of_tab e2 Tryz.underlying114 cU64 e3 hd2]
theorem door_met (os : Os) (args : Array Value) : laidMetH Tryz.prog laid3 ((World.doorLaid Tryz.prog 400 os).forCall (fun _ _ => 0) ⟨#[], args, []⟩).memory :=
  laidMetH_of_parts3 (fuel := 8) (laidMet_of_run' 8 (by kernel_rfl) (by kernel_rfl)) (by kernel_rfl) (by kernel_rfl)
section
variable {H : Type} {enc : TypeId × Value → H} {w : World} {b0 : Nat} {r : Reach}
theorem RdL.strs {v : Value} {F : Nat → Prop} {l : List (List UInt8)} (h : RdL w F 1 (fun cs (x : List UInt8) => cs = [.string (strB x)] ∧ x.length ≤ maxLen) v l) : Rd w F 1 v l.length (sv l) := by
  obtain ⟨ps, rfl, hr, hp⟩ := h
  have e : ps.flatMap (·.1) = sv (ps.map (·.2)) := by
    clear hr
    induction ps with
    | nil => rfl
    | cons p ps ih =>
      obtain ⟨_, h1, _⟩ := hp p (List.mem_cons_self ..)
      rw [List.flatMap_cons, ih (fun q hq => hp q (List.mem_cons_of_mem _ hq)), h1]
      rfl
  rw [List.length_map, ← e]
  exact hr
theorem szL_strs (l : List (List UInt8)) : szL (fun x : List UInt8 => x.length + 1) l = ssum l + l.length + 1 := by
  unfold szL ssum
  induction l with
  | nil => rfl
  | cons p r ih => simp only [List.map_cons, List.sum_cons, List.length_cons] at *; omega
def ManR (w : World) (cs : List Value) (m : Man) : Prop := ∃ As k, cs = [.string (strB m.base), .slice As m.segs.length k, .string (strB m.log), .int .i64 m.tx, .int .i64 m.nx] ∧ Rd w (· < w.heap.size) 1 (.slice As m.segs.length k) m.segs.length (sv m.segs)
set_option maxRecDepth 100000 in
theorem opn_man : Opn enc w 25 (ManR w) (fun m => mSize m) := by
  intro fuel cs x h
  obtain ⟨hl, n, xs, hxl, hb, hf⟩ := opn_fields Tryz.underlying25 h
  rw [show Tryz.prog.cellsOf 25 = 5 from by kernel_rfl] at hl
  match cs, hl with
  | [c0, c1, c2, c3, c4], _ =>
  match xs, hxl with
  | [y0, y1, y2, y3, y4], _ =>
  have h0 := hf 0 _ rfl
  have h1 := hf 1 _ rfl
  have h2 := hf 2 _ rfl
  have h3 := hf 3 _ rfl
  have h4 := hf 4 _ rfl
  obtain ⟨bs, ⟨e0, _⟩, s0⟩ := opn_str Tryz.underlying9 _ _ _ h0
  obtain ⟨sg, ⟨v, e1, hv⟩, s1⟩ := opn_list (c := 1) Tryz.underlying23 (by kernel_rfl) (opn_str (enc := enc) (w := w) Tryz.underlying9) (by omega) _ _ _ h1
  obtain ⟨lg, ⟨e2, _⟩, s2⟩ := opn_str Tryz.underlying9 _ _ _ h2
  obtain ⟨tx, ⟨e3, _⟩, s3⟩ := opn_int Tryz.underlying3 _ _ _ h3
  obtain ⟨nx, ⟨e4, _⟩, s4⟩ := opn_int Tryz.underlying3 _ _ _ h4
  have e0' : [c0] = [.string (strB bs)] := e0
  have e1' : [c1] = [v] := e1
  have e2' : [c2] = [.string (strB lg)] := e2
  have e3' : [c3] = [.int .i64 tx] := e3
  have e4' : [c4] = [.int .i64 nx] := e4
  simp only [List.cons.injEq, and_true] at e0' e1' e2' e3' e4'
  subst e0'; subst e1'; subst e2'; subst e3'; subst e4'
  have hr := hv.strs
  obtain ⟨As, k, rfl, _⟩ := Rd.open_ hr
  refine ⟨⟨bs, sg, lg, tx, nx⟩, ⟨As, k, rfl, hr⟩, ?_⟩
  rw [hb]
  rw [szL_strs] at s1
  simp only [List.map_cons, List.map_nil, Rows.uptoBulkAll, mSize] at *
  omega
set_option maxRecDepth 100000 in
theorem open_man {v : Value} {d : DataW H} {ps : List MemPlace} (hval : Value.okWide Tryz.prog w r b0 25 v) (h : DataW.Trod enc Tryz.prog w 0 (fun _ => true) true 25 v d ps) :
    ∃ (As : Option Addr) (k : Nat) (m : Man), v = manV As k m ∧ Rd w (· < w.heap.size) 1 (.slice As m.segs.length k) m.segs.length (sv m.segs) ∧ mSize m ≤ Rows.uptoBulk d := by
  obtain ⟨cs, rfl, hsz⟩ := okWide_struct Tryz.underlying25 hval
  obtain ⟨m, ⟨As, k, e, hr⟩, hs⟩ := (opn_man (enc := enc) (w := w)).arg h
  refine ⟨As, k, m, ?_, hr, hs⟩
  have e : cs.toList = [.string (strB m.base), .slice As m.segs.length k, .string (strB m.log), .int .i64 m.tx, .int .i64 m.nx] := e
  have : cs = #[.string (strB m.base), .slice As m.segs.length k, .string (strB m.log), .int .i64 m.tx, .int .i64 m.nx] := by rw [← Array.toArray_toList (xs := cs), e]
  rw [this]
set_option maxRecDepth 100000 in
theorem open_bytes' {v : Value} {d : DataW H} {ps : List MemPlace} (hval : Value.okWide Tryz.prog w r b0 51 v) (h : DataW.Trod enc Tryz.prog w 0 (fun _ => true) true 51 v d ps) :
    ∃ l : List UInt8, RdB w (· < w.heap.size) v l ∧ l.length + 1 ≤ Rows.uptoBulk d := by
  obtain ⟨A, n, c, rfl⟩ := okWide_slice Tryz.underlying51 hval
  obtain ⟨l, ⟨v, e, hl⟩, hs⟩ := (opn_bytes (enc := enc) (w := w) Tryz.underlying51).arg h
  simp only [Value.cells, List.cons.injEq, and_true] at e
  subst e
  exact ⟨l, hl, hs⟩
def FileR (w : World) (cs : List Value) (q : List UInt8 × List UInt8) : Prop := ∃ v, cs = [.string (strB q.1), v] ∧ RdB w (· < w.heap.size) v q.2 ∧ q.1.length ≤ maxLen
set_option maxRecDepth 100000 in
theorem opn_file : Opn enc w 63 (FileR w) (fun q => q.2.length + 1) := by
  intro fuel cs x h
  obtain ⟨hl, n, xs, hxl, hb, hf⟩ := opn_fields Tryz.underlying63 h
  rw [show Tryz.prog.cellsOf 63 = 2 from by kernel_rfl] at hl
  match cs, hl with
  | [c0, c1], _ =>
  match xs, hxl with
  | [y0, y1], _ =>
  have h0 := hf 0 _ rfl
  have h1 := hf 1 _ rfl
  obtain ⟨nm, ⟨e0, hn⟩, s0⟩ := opn_str Tryz.underlying9 _ _ _ h0
  obtain ⟨l, ⟨v, e1, hv⟩, s1⟩ := opn_bytes Tryz.underlying51 _ _ _ h1
  have e0' : [c0] = [.string (strB nm)] := e0
  have e1' : [c1] = [v] := e1
  simp only [List.cons.injEq, and_true] at e0' e1'
  subst e0'; subst e1'
  refine ⟨(nm, l), ⟨_, rfl, hv, hn⟩, ?_⟩
  rw [hb]
  simp only [List.map_cons, List.map_nil, Rows.uptoBulkAll] at *
  omega
theorem files_of {F : Nat → Prop} {v : Value} {fl : FL} (h : RdL w F 2 (FileR w) v fl) (hF : ∀ b, F b → b < w.heap.size) : FlsRd w.heap.size w v fl ∧ ∀ p ∈ fl, p.1.length ≤ maxLen := by
  obtain ⟨ps, rfl, hr, hp⟩ := h
  have key : ∃ qs : List ((List UInt8 × List UInt8) × Value), qs.map (·.1) = ps.map (·.2) ∧ fileCs qs = ps.flatMap (·.1) ∧ ∀ q ∈ qs, DatB w.heap.size w q.2 q.1.2 := by
    clear hr
    induction ps with
    | nil => exact ⟨[], rfl, rfl, fun q hq => by cases hq⟩
    | cons p ps ih =>
      obtain ⟨qs, h1, h2, h3⟩ := ih fun q hq => hp q (List.mem_cons_of_mem _ hq)
      obtain ⟨_, u, e, hu, _⟩ := hp p (List.mem_cons_self ..)
      refine ⟨(p.2, u) :: qs, by simp [h1], ?_, ?_⟩
      · rw [List.flatMap_cons, e, ← h2]; rfl
      · intro q hq
        rcases List.mem_cons.1 hq with rfl | hq
        · exact DatB.of_input hu
        · exact h3 q hq
  obtain ⟨qs, h1, h2, h3⟩ := key
  refine ⟨⟨qs, h1, ?_, h3⟩, ?_⟩
  · have e : qs.length = ps.length := by have := congrArg List.length h1; simpa using this
    rw [h2, e]
    exact hr.wide fun b hb => .inl (hF b hb)
  · intro p hp'
    obtain ⟨q, hq, rfl⟩ := List.mem_map.1 hp'
    obtain ⟨_, u, e, hu, hn⟩ := hp q hq
    exact hn
theorem flsum_sz (fl : FL) : flsum fl + fl.length + 1 = szL (fun q : List UInt8 × List UInt8 => q.2.length + 1) fl := by
  unfold flsum szL
  induction fl with
  | nil => rfl
  | cons p r ih => simp only [List.map_cons, List.sum_cons, List.length_cons] at *; omega
set_option maxRecDepth 100000 in
theorem open_files {v : Value} {d : DataW H} {ps : List MemPlace} (hval : Value.okWide Tryz.prog w r b0 22 v) (h : DataW.Trod enc Tryz.prog w 0 (fun _ => true) true 22 v d ps) :
    ∃ fl : FL, FlsRd w.heap.size w v fl ∧ (∀ p ∈ fl, p.1.length ≤ maxLen) ∧ flsum fl + fl.length + 1 ≤ Rows.uptoBulk d := by
  obtain ⟨A, n, c, rfl⟩ := okWide_slice Tryz.underlying22 hval
  obtain ⟨fl, ⟨v, e, hl⟩, hs⟩ := (opn_list (c := 2) Tryz.underlying22 (by kernel_rfl) (opn_file (enc := enc) (w := w)) (by omega)).arg h
  simp only [Value.cells, List.cons.injEq, and_true] at e
  subst e
  obtain ⟨h1, h2⟩ := files_of hl fun _ h => h
  exact ⟨fl, h1, h2, by rw [flsum_sz]; exact hs⟩

end
end Go.Proofs.YthjephhojngiaaaGreatDoor
