/-
  Disks: operations and files, in plain words.
-/
import Derived.Test.YtooojgokkigncaaDiskC
namespace Go.Proofs.Ytooojgokkigncaa
open Go.RowKit Go.Lib Go.IntWalk

structure DOp where
  kind : Nat
  name : List UInt8
  to : List UInt8
  data : List UInt8
abbrev FM := List UInt8 → Option (List UInt8)
def applyF (fm : FM) (o : DOp) : FM :=
  if o.kind = 0 then updG fm o.name (some ((fm o.name).getD [] ++ o.data))
  else if o.kind = 1 then updG fm o.name none
  else if o.kind = 2 then updG (updG fm o.name none) o.to (some ((fm o.name).getD []))
  else fm
def viewF (fm : FM) (os : List DOp) : FM := os.foldl applyF fm

/-- at each key the map has a slice with the file's bytes, or neither has anything -/
def GRd (B : Nat) (w : World) (g : List UInt8 → Option Value) (fm : FM) : Prop :=
  ∀ key, (g key = none ∧ fm key = none) ∨ ∃ v l, g key = some v ∧ fm key = some l ∧ DatB B w v l
/-- the value of an operation -/
def opV (o : DOp) (dv : Value) : Value := .agg #[.int .i64 (o.kind : Int), .string (strB o.name), .string (strB o.to), dv]

theorem GRd.start (B : Nat) (w : World) : GRd B w (fun _ => none) (fun _ => none) := fun _ => .inl ⟨rfl, rfl⟩
theorem GRd.chg {B : Nat} {w w' : World} {S : Nat → Prop} {g : List UInt8 → Option Value} {fm : FM} (h : GRd B w g fm) (hB : B ≤ w.heap.size) (hc : Chg S w w') (hs : ∀ b, BR B w b → ¬ S b) : GRd B w' g fm := by
  intro key
  rcases h key with h | ⟨v, l, h1, h2, h3⟩
  · exact .inl h
  · exact .inr ⟨v, l, h1, h2, h3.chg hB hc hs⟩
theorem GRd.get {B : Nat} {w : World} {g : List UInt8 → Option Value} {fm : FM} (h : GRd B w g fm) (key : List UInt8) : DatB B w ((g key).getD (.slice none 0 0)) ((fm key).getD []) := by
  rcases h key with ⟨h1, h2⟩ | ⟨v, l, h1, h2, h3⟩
  · rw [h1, h2]; exact DatB.nil _ _
  · rw [h1, h2]; exact h3
theorem GRd.some_eq {B : Nat} {w : World} {g : List UInt8 → Option Value} {fm : FM} (h : GRd B w g fm) (key : List UInt8) : (g key).isSome = (fm key).isSome := by
  rcases h key with ⟨h1, h2⟩ | ⟨v, l, h1, h2, h3⟩ <;> rw [h1, h2] <;> rfl
theorem GRd.put {B : Nat} {w : World} {g : List UInt8 → Option Value} {fm : FM} (h : GRd B w g fm) (key : List UInt8) {v : Value} {l : List UInt8} (hv : DatB B w v l) : GRd B w (updG g key (some v)) (updG fm key (some l)) := by
  intro x
  by_cases hx : x = key
  · exact .inr ⟨v, l, by rw [updG, if_pos hx], by rw [updG, if_pos hx], hv⟩
  · simp only [updG, if_neg hx]; exact h x
theorem GRd.del {B : Nat} {w : World} {g : List UInt8 → Option Value} {fm : FM} (h : GRd B w g fm) (key : List UInt8) : GRd B w (updG g key none) (updG fm key none) := by
  intro x
  by_cases hx : x = key
  · exact .inl ⟨by rw [updG, if_pos hx], by rw [updG, if_pos hx]⟩
  · simp only [updG, if_neg hx]; exact h x
theorem BR_not_map {B : Nat} {w : World} {M b : Nat} (hM : B ≤ M) (h : ∃ es clock, w.heap[M]? = some (.map es clock)) (hb : BR B w b) : ¬ b = M := by
  rintro rfl
  obtain ⟨es, clock, h⟩ := h
  rcases hb with hb | ⟨cs, fr, hb⟩
  · omega
  · rw [hb] at h; cases h
theorem BR_not_cells {B : Nat} {w : World} {D b : Nat} {cs : Array Value} {t : TypeId} {fr : Nat × Nat} (hD : B ≤ D) (h : w.heap[D]? = some (.cells cs t fr)) (ht : ¬ t = 5) (hb : BR B w b) : ¬ b = D := by
  rintro rfl
  rcases hb with hb | ⟨cs', fr', hb⟩
  · omega
  · rw [hb] at h; simp only [Option.some.injEq, Obj.cells.injEq] at h; exact ht h.2.1.symm
end Go.Proofs.Ytooojgokkigncaa
