/-
 Opens
-/
import Derived.Test.YthfbfmkdplifeaaDBulk
namespace Go.Proofs.Ythfbfmkdplifeaa
open Go.ChangeShapes Go.WideShapes Go.ChangeAt Go.RowKit Go.Lib Go.Deep
theorem bulk_two {H : Type} {a b : DataW H} {r gs : List (DataW H)} (h : Rows.uptoSmall H ((a :: b :: r) ++ gs) = true) : Rows.uptoBulk a + Rows.uptoBulk b ≤ 1048576 := by
 have := bulk_bound h
 simp only [Rows.uptoBulkAll] at this
 omega
/-- whatever lies at type t reads as an 'a' of R; its size is at most the reading's bulk -/
def Opn {H α : Type} (enc : TypeId × Value → H) (w : World) (t : TypeId) (R : List Value → α → Prop) (sz : α → Nat) : Prop :=
 ∀ (fuel : Nat) (cs : List Value) (x : DataW H × List MemPlace), DataW.trod enc Try.prog w 0 (fun _ => true) true fuel t cs = some x → ∃ a, R cs a ∧ sz a ≤ Rows.uptoBulk x.1
/-- a list whose elements are read by R, c cells each -/
def RdL {α : Type} (w : World) (F : Nat → Prop) (c : Nat) (R : List Value → α → Prop) (v : Value) (l : List α) : Prop :=
 ∃ ps : List (List Value × α), ps.map (·.2) = l ∧ Rd w F c v ps.length (ps.flatMap (·.1)) ∧ ∀ p ∈ ps, p.1.length = c ∧ R p.1 p.2
def szL {α : Type} (sz : α → Nat) (l : List α) : Nat := (l.map sz).sum + 1
theorem flat_getC {α β : Type} (n : Nat) (ps : List α) (f : α → List β) (hf : ∀ x ∈ ps, (f x).length = n) (k j : Nat) (hj : j < n) (x : α) (hx : ps[k]? = some x) : (ps.flatMap f)[k * n + j]? = (f x)[j]? := by
 induction ps generalizing k with
 | nil => simp at hx
 | cons p ps ih =>
  have hp := hf p (List.mem_cons_self ..)
  cases k with
  | zero =>
   simp only [List.getElem?_cons_zero, Option.some.injEq] at hx
   subst hx
   rw [List.flatMap_cons, Nat.zero_mul, Nat.zero_add, List.getElem?_append_left (by rw [hp]; exact hj)]
  | succ k =>
   simp only [List.getElem?_cons_succ] at hx
   rw [List.flatMap_cons, List.getElem?_append_right (by rw [hp, Nat.succ_mul]; omega), hp, show (k + 1) * n + j - n = k * n + j by rw [Nat.succ_mul]; omega]
   exact ih (fun x hx => hf x (List.mem_cons_of_mem _ hx)) k hx
theorem flat_lenC {α β : Type} (n : Nat) (ps : List α) (f : α → List β) (hf : ∀ x ∈ ps, (f x).length = n) : (ps.flatMap f).length = ps.length * n := by
 induction ps with
 | nil => simp
 | cons p ps ih => rw [List.flatMap_cons, List.length_append, hf p (List.mem_cons_self ..), ih (fun x hx => hf x (List.mem_cons_of_mem _ hx)), List.length_cons, Nat.succ_mul]; omega
section
variable {H : Type} {enc : TypeId × Value → H} {w : World} {t e : TypeId}
theorem opn_int {k : IntKind} (ht : Try.prog.underlying t = some (.int k)) : Opn enc w t (fun cs n => cs = [.int k n] ∧ (Lit.int k n).wf = true) (fun _ => 1) := by
 intro fuel cs x h
 obtain ⟨n, rfl, rfl, hw⟩ := DataW.trod_int ht h
 exact ⟨n, ⟨rfl, hw⟩, by simp [Rows.uptoBulk]⟩
theorem opn_str (ht : Try.prog.underlying t = some .string) : Opn enc w t (fun cs (l : List UInt8) => cs = [.string (strB l)] ∧ l.length ≤ maxLen) (fun l => l.length + 1) := by
 intro fuel cs x h
 obtain ⟨s, rfl, rfl, hs⟩ := DataW.trod_string ht h
 exact ⟨s.data.toList, ⟨by rw [strB_list], by rw [Array.length_toList]; exact hs⟩, Nat.le_refl _⟩
theorem range_sum {α : Type} (f : Nat → α) (sz : α → Nat) (D : Nat → DataW H) (n : Nat) (h : ∀ i, i < n → sz (f i) ≤ Rows.uptoBulk (D i)) : (((List.range n).map f).map sz).sum ≤ Rows.uptoBulkAll ((List.range n).map D) := by
 induction n with
 | zero => simp
 | succ n ih =>
  have h1 := ih fun i hi => h i (by omega)
  have h2 := h n (by omega)
  rw [List.range_succ, List.map_append, List.map_append, List.sum_append, List.map_append, bulk_append]
  simp only [List.map_cons, List.map_nil, List.sum_cons, List.sum_nil, Rows.uptoBulkAll]
  omega
theorem opn_list {α : Type} [Inhabited α] {R : List Value → α → Prop} {sz : α → Nat} {c : Nat} (ht : Try.prog.underlying t = some (.slice e)) (hc : Try.prog.cellsOf e = c) (he : Opn enc w e R sz) (hc0 : 0 < c) :
  Opn enc w t (fun cs l => ∃ v, cs = [v] ∧ RdL w (· < w.heap.size) c R v l) (szL sz) := by
 intro fuel cs x h
 rcases open_slice ht h with ⟨rfl, rfl⟩ | ⟨a, len, cap, m, n, D, Pl, rfl, hb, hl, hm, hmm, rfl, hx⟩
 ·exact ⟨[], ⟨_, rfl, [], rfl, Rd.nil _ _ _, fun p hp => by cases hp⟩, by simp [szL, Rows.uptoBulk]⟩
 ·rw [hc] at hx
  have hlm : len ≤ m := by rw [hmm]; split <;> omega
  obtain ⟨f, hf⟩ := choose_lt (α := List Value × α) (n := len) (p := fun i p => w.cells? 0 (a.add (i * c)) c = some p.1 ∧ R p.1 p.2 ∧ sz p.2 ≤ Rows.uptoBulk (D i)) (fun i hi => by
   obtain ⟨cs', h1, h2⟩ := hx i (by omega)
   obtain ⟨q, hq, hs⟩ := he _ _ _ h2
   exact ⟨(cs', q), h1, hq, hs⟩)
  have hfl : ∀ i, i < len → (f i).1.length = c := fun i hi => (World.cells?_some (hf i hi).1).2.1
  have hall : ∀ p ∈ (List.range len).map f, p.1.length = c := by
   intro p hp
   obtain ⟨i, hi, rfl⟩ := List.mem_map.1 hp
   exact hfl i (List.mem_range.1 hi)
  have hlen : (((List.range len).map f).flatMap (·.1)).length = len * c := by
   rw [flat_lenC c _ _ hall, List.length_map, List.length_range]
  refine ⟨((List.range len).map f).map (·.2), ⟨_, rfl, (List.range len).map f, rfl, ?_, ?_⟩, ?_⟩
  ·rw [List.length_map, List.length_range]
   refine ⟨hlen, _, _, rfl, hl, hm, fun h => (Option.some_ne_none _ h).elim, fun hn => ⟨a, rfl, ?_, fun j u hu => ?_⟩⟩
   ·have h0 := hf 0 hn
    obtain ⟨_, h1, h2⟩ := World.cells?_some h0.1
    have h3 := h2 0 hc0
    rw [List.getElem?_eq_getElem (by omega)] at h3
    have := World.block_lt_of_cell? w _ h3
    rwa [block_add, block_add] at this
   ·have hj : j < len * c := by
     rcases Nat.lt_or_ge j (((List.range len).map f).flatMap (·.1)).length with h | h
     ·omega
     ·rw [List.getElem?_eq_none h] at hu; cases hu
    have hd : j / c < len := Nat.div_lt_of_lt_mul (by rw [Nat.mul_comm]; exact hj)
    have hmj : j % c < c := Nat.mod_lt _ hc0
    have hje : j / c * c + j % c = j := by rw [Nat.mul_comm]; exact Nat.div_add_mod j c
    obtain ⟨_, h1, h2⟩ := World.cells?_some (hf (j / c) hd).1
    have h3 := h2 (j % c) hmj
    rw [add_add', hje] at h3
    have h4 := flat_getC c ((List.range len).map f) (·.1) hall (j / c) (j % c) hmj (f (j / c)) (by rw [List.getElem?_map, List.getElem?_range hd]; rfl)
    rw [hje] at h4
    rw [h3, ← hu, h4]
  ·intro p hp
   obtain ⟨i, hi, rfl⟩ := List.mem_map.1 hp
   exact ⟨hfl i (List.mem_range.1 hi), (hf i (List.mem_range.1 hi)).2.1⟩
  ·have := range_sum (fun i => (f i).2) sz D len fun i hi => (hf i hi).2.2
   rw [List.map_map]
   simp only [szL, Rows.uptoBulk, Function.comp_def] at *
   omega
theorem RdL.bytes {v : Value} {F : Nat → Prop} {l : List Int} (h : RdL w F 1 (fun cs n => cs = [.int .u8 n] ∧ (Lit.int .u8 n).wf = true) v l) : RdB w F v (l.map fun z => UInt8.ofNat z.toNat) := by
 obtain ⟨ps, rfl, hr, hp⟩ := h
 have e : ps.flatMap (·.1) = bv ((ps.map (·.2)).map fun z => UInt8.ofNat z.toNat) := by
  clear hr
  induction ps with
  | nil => rfl
  | cons p ps ih =>
   obtain ⟨_, h1, h2⟩ := hp p (List.mem_cons_self ..)
   have hb : 0 ≤ p.2 ∧ p.2 ≤ 255 := by simpa [Lit.wf, IntKind.min, IntKind.max, IntKind.signed, IntKind.bits] using h2
   rw [List.flatMap_cons, ih (fun q hq => hp q (List.mem_cons_of_mem _ hq)), h1]
   simp only [List.map_cons, bv, List.cons_append, List.nil_append, List.cons.injEq, and_true]
   rw [← byte_of (by omega)]
   congr 1
   omega
 unfold RdB
 rw [List.length_map, List.length_map, ← e]
 exact hr
theorem szL_one {l : List Int} : szL (fun _ : Int => 1) l = l.length + 1 := by
 have : ∀ l : List Int, (l.map fun _ => 1).sum = l.length := by
  intro l
  induction l with
  | nil => rfl
  | cons x r ih => rw [List.map_cons, List.sum_cons, ih, List.length_cons]; omega
 rw [szL, this]
theorem opn_bytes (ht : Try.prog.underlying t = some (.slice 5)) : Opn enc w t (fun cs (l : List UInt8) => ∃ v, cs = [v] ∧ RdB w (· < w.heap.size) v l) (fun l => l.length + 1) := by
 intro fuel cs x h
 obtain ⟨l, ⟨v, rfl, hl⟩, hs⟩ := opn_list (c := 1) ht (by kernel_rfl) (opn_int Try.underlying5) (by omega) fuel cs x h
 exact ⟨_, ⟨v, rfl, hl.bytes⟩, by rw [szL_one] at hs; simpa using hs⟩
theorem opn_fields {fs : Array Field} {fuel : Nat} {cs : List Value} {x : DataW H × List MemPlace} (ht : Try.prog.underlying t = some (.struct fs)) (h : DataW.trod enc Try.prog w 0 (fun _ => true) true fuel t cs = some x) :
  cs.length = Try.prog.cellsOf t ∧ ∃ (n : Nat) (xs : List (DataW H × List MemPlace)), xs.length = fs.size ∧ Rows.uptoBulk x.1 = Rows.uptoBulkAll (xs.map (·.1)) + 1 ∧
   ∀ (i : Nat) (f : Field), fs[i]? = some f → DataW.trod enc Try.prog w 0 (fun _ => true) true n f.type ((cs.drop f.offset).take (Try.prog.cellsOf f.type)) = xs[i]? := by
 obtain ⟨xs, n, _, rfl, hl, hx, hf⟩ := DataW.trod_struct ht h
 exact ⟨hl, n, xs, hx, by simp [Rows.uptoBulk], hf⟩
theorem Opn.arg {α : Type} {R : List Value → α → Prop} {sz : α → Nat} (h : Opn enc w t R sz) {v : Value} {d : DataW H} {ps : List MemPlace} (hd : DataW.Trod enc Try.prog w 0 (fun _ => true) true t v d ps) : ∃ a, R v.cells.toList a ∧ sz a ≤ Rows.uptoBulk d := by
 obtain ⟨fuel, hf⟩ := hd
 exact h fuel _ _ hf
end
end Go.Proofs.Ythfbfmkdplifeaa
