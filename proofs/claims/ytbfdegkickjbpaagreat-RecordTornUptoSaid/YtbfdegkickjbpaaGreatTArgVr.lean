/-
 ArgVr
-/
import Derived.Test.YtbfdegkickjbpaaGreatTOpn6
import Derived.Test.YtbfdegkickjbpaaGreatTSrcC
import Derived.Test.YtbfdegkickjbpaaGreatTVer
namespace Go.Proofs.YtbfdegkickjbpaaGreat
open Go.ChangeShapes Go.WideShapes Go.ChangeAt Go.RowKit Go.Lib Go.Deep
section
variable {H : Type} {enc : TypeId × Value → H} {w : World} {b0 : Nat} {r : Reach}
instance : Inhabited Val := ⟨⟨0, 0, ⟨#[]⟩⟩⟩
def ValR (cs : List Value) (x : Val) : Prop := cs = x.cells ∧ goV x
set_option maxRecDepth 100000 in
theorem opn_val : Opn enc w 79 ValR (fun _ => 1) := by
 intro fuel cs x h
 obtain ⟨hl, n, xs, hxl, hb, hf⟩ := opn_fields Tryz.underlying79 h
 rw [show Tryz.prog.cellsOf 79 = 3 from by kernel_rfl] at hl
 match cs, hl with
 | [c0, c1, c2], _ =>
 match xs, hxl with
 | [y0, y1, y2], _ =>
 have h0 := hf 0 _ rfl
 have h1 := hf 1 _ rfl
 have h2 := hf 2 _ rfl
 obtain ⟨k, ⟨e0, w0⟩, _⟩ := opn_int Tryz.underlying3 _ _ _ h0
 obtain ⟨i, ⟨e1, w1⟩, _⟩ := opn_int Tryz.underlying3 _ _ _ h1
 obtain ⟨s, ⟨e2, w2⟩, _⟩ := opn_str Tryz.underlying9 _ _ _ h2
 have e0' : [c0] = [.int .i64 k] := e0
 have e1' : [c1] = [.int .i64 i] := e1
 have e2' : [c2] = [.string (strB s)] := e2
 simp only [List.cons.injEq, and_true] at e0' e1' e2'
 subst e0'; subst e1'; subst e2'
 have hi := int_bd w1
 refine ⟨⟨k, i, strB s⟩, ⟨rfl, hi.1, hi.2, by show (strB s).size ≤ maxLen; rw [strB_size]; exact w2⟩, ?_⟩
 exact bulk_one _
theorem rdV_of {F : Nat → Prop} {v : Value} {l : List Val} (h : RdL w F 3 ValR v l) : RdV w F v l ∧ ∀ x ∈ l, goV x := by
 obtain ⟨ps, rfl, hr, hp⟩ := h
 have e : ps.flatMap (·.1) = cv (ps.map (·.2)) := by
  clear hr
  induction ps with
  | nil => rfl
  | cons p ps ih =>
   obtain ⟨_, h1, h2⟩ := hp p (List.mem_cons_self ..)
   rw [List.flatMap_cons, ih (fun q hq => hp q (List.mem_cons_of_mem _ hq)), h1]
   rfl
 refine ⟨?_, fun x hx => ?_⟩
 ·unfold RdV
  rw [List.length_map, ← e]
  exact hr
 ·obtain ⟨q, hq, rfl⟩ := List.mem_map.1 hx
  exact (hp q hq).2.2
def PerR (cs : List Value) (x : Int × Int) : Prop := cs = [.int .i64 x.1, .int .i64 x.2]
set_option maxRecDepth 100000 in
theorem opn_per : Opn enc w 66 PerR (fun _ => 1) := by
 intro fuel cs x h
 obtain ⟨hl, n, xs, hxl, hb, hf⟩ := opn_fields Tryz.underlying66 h
 rw [show Tryz.prog.cellsOf 66 = 2 from by kernel_rfl] at hl
 match cs, hl with
 | [c0, c1], _ =>
 match xs, hxl with
 | [y0, y1], _ =>
 have h0 := hf 0 _ rfl
 have h1 := hf 1 _ rfl
 obtain ⟨k, ⟨e0, w0⟩, _⟩ := opn_int Tryz.underlying3 _ _ _ h0
 obtain ⟨i, ⟨e1, w1⟩, _⟩ := opn_int Tryz.underlying3 _ _ _ h1
 have e0' : [c0] = [.int .i64 k] := e0
 have e1' : [c1] = [.int .i64 i] := e1
 simp only [List.cons.injEq, and_true] at e0' e1'
 subst e0'; subst e1'
 exact ⟨(k, i), rfl, bulk_one _⟩
end
end Go.Proofs.YtbfdegkickjbpaaGreat
