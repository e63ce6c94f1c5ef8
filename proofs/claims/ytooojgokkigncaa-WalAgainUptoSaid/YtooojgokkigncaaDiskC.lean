/-
  Disks: a map from strings to slices, as a plain function.
-/
import Derived.Test.YtooojgokkigncaaDiskB
import Derived.Maps.OwnSet
import Derived.Maps.Range
import Derived.StringKeys
namespace Go.Proofs.Ytooojgokkigncaa
open Go.RowKit Go.Lib Go.IntWalk Go.Maps

abbrev heldE (v : Value) : Option (DataW Value × List MemPlace) := some (.held v, [])
theorem lawS : Keyed Try.prog 9 := string_keyed Try.underlying9
theorem zeroS (w : World) : (zeroValue 23).run Try.prog w = .ok (.slice none 0 0) w := by kernel_rfl
theorem keyS (s : List UInt8) (h : s.length ≤ maxLen) : keyOf Try.prog 9 (.string (strB s)) = some (.string s) := by
  have := Go.WideMaps.keyOf_string_mk (P := Try.prog) Try.underlying9 (s := strB s) (by rw [strB_size]; exact h)
  simpa [strB] using this
theorem keyLit (s : List UInt8) : WideAt.IsKeyLit (.string s) := trivial

/-- block M is a map of at most n entries: at each key what g says -/
def MapIs (w : World) (M n : Nat) (g : List UInt8 → Option Value) : Prop :=
  ∃ D : DataW Value, w.ownsMap Try.prog 9 heldE M n D ∧ (∀ key, Maps.has D (.string key) = (g key).isSome) ∧ ∀ key z, D.atKey (.string key) (.held z) = .held ((g key).getD z)
def updG {α : Type} (g : List UInt8 → Option α) (k : List UInt8) (v : Option α) (x : List UInt8) : Option α := if x = k then v else g x

theorem MapIs.made (w : World) : MapIs (w.alloc (.map #[] 0)) w.heap.size 0 (fun _ => none) :=
  ⟨.map [], World.ownsMap_made _ _ _ _, fun _ => rfl, fun _ _ => rfl⟩
theorem MapIs.lt {w : World} {M n : Nat} {g : List UInt8 → Option Value} (h : MapIs w M n g) : M < w.heap.size := by
  obtain ⟨D, h, _⟩ := h; exact h.lt
theorem MapIs.mono {w : World} {M n n' : Nat} {g : List UInt8 → Option Value} (h : MapIs w M n g) (hn : n ≤ n') : MapIs w M n' g := by
  obtain ⟨D, h, h2⟩ := h; exact ⟨D, h.mono hn, h2⟩
theorem MapIs.block {w w' : World} {M n : Nat} {g : List UInt8 → Option Value} (h : MapIs w M n g) (hb : w'.heap[M]? = w.heap[M]?) : MapIs w' M n g := by
  obtain ⟨D, ⟨es, clock, h0, h1⟩, h2⟩ := h; exact ⟨D, ⟨es, clock, hb.trans h0, h1⟩, h2⟩
theorem MapIs.chg {w w' : World} {S : Nat → Prop} {M n : Nat} {g : List UInt8 → Option Value} (h : MapIs w M n g) (hc : Chg S w w') (hs : ¬ S M) : MapIs w' M n g := h.block (hc.block M h.lt hs)
theorem MapIs.obj {w : World} {M n : Nat} {g : List UInt8 → Option Value} (h : MapIs w M n g) : ∃ es clock, w.heap[M]? = some (.map es clock) := by
  obtain ⟨D, ⟨es, clock, h0, h1⟩, h2⟩ := h; exact ⟨es, clock, h0⟩

theorem MapIs.look {w : World} {M n : Nat} {g : List UInt8 → Option Value} (h : MapIs w M n g) (key : List UInt8) (hk : key.length ≤ maxLen) :
    (Instr.lookup 77 (.map (some M)) (.string (strB key)) false).run Try.prog w = .ok ((g key).getD (.slice none 0 0)) w := by
  obtain ⟨D, h, h1, h2⟩ := h
  obtain ⟨v, ps, hr, hv⟩ := h.lookup lawS Try.underlying77 (zeroS w) (zd := .held (.slice none 0 0)) (zp := []) rfl (keyS key hk)
  rw [h2] at hv
  simp only [heldE, Option.some.injEq, Prod.mk.injEq, DataW.held.injEq] at hv
  rw [hr, hv.1]
theorem MapIs.look_ok {w : World} {M n : Nat} {g : List UInt8 → Option Value} (h : MapIs w M n g) (key : List UInt8) (hk : key.length ≤ maxLen) :
    (Instr.lookup 77 (.map (some M)) (.string (strB key)) true).run Try.prog w = .ok (.tuple #[(g key).getD (.slice none 0 0), .bool (g key).isSome]) w := by
  obtain ⟨D, h, h1, h2⟩ := h
  obtain ⟨v, ps, hr, hv⟩ := h.look_ok lawS Try.underlying77 (zeroS w) (zd := .held (.slice none 0 0)) (zp := []) rfl (keyS key hk)
  rw [h2] at hv
  simp only [heldE, Option.some.injEq, Prod.mk.injEq, DataW.held.injEq] at hv
  rw [hr, hv.1, h1]
theorem MapIs.store {w : World} {M n : Nat} {g : List UInt8 → Option Value} (h : MapIs w M n g) (key : List UInt8) (hk : key.length ≤ maxLen) (hn : n < maxLen) (v : Value) :
    ∃ w', (Instr.mapUpdate 77 (.map (some M)) (.string (strB key)) v).run Try.prog w = .ok () w' ∧ MapIs w' M (n + 1) (updG g key (some v)) ∧ Chg (· = M) w w' := by
  obtain ⟨D, h, h1, h2⟩ := h
  obtain ⟨w', hr, ho, ht⟩ := h.store lawS Try.underlying77 hn (keyS key hk) (val := v) (d := .held v) (ps := []) rfl
  refine ⟨w', hr, ⟨_, ho, fun x => ?_, fun x z => ?_⟩, (Chg.of_grown ht.grown).mono fun i hi => Option.some.inj hi⟩
  · by_cases hx : x = key
    · subst hx; rw [has_put_same h.isMap (keyLit x), updG, if_pos rfl]; rfl
    · rw [has_put_other (by simpa using hx), updG, if_neg hx]; exact h1 x
  · by_cases hx : x = key
    · subst hx; rw [atKey_put_same h.isMap (keyLit x), updG, if_pos rfl]; rfl
    · rw [atKey_put_other (by simpa using hx), updG, if_neg hx]; exact h2 x z
theorem MapIs.drop {w : World} {M n : Nat} {g : List UInt8 → Option Value} (h : MapIs w M n g) (key : List UInt8) (hk : key.length ≤ maxLen) (ty : TypeId) :
    ∃ w', (Builtin.delete_ #[77, 9] ty #[.map (some M), .string (strB key)]).run Try.prog w = .ok (.tuple #[]) w' ∧ MapIs w' M n (updG g key none) ∧ Chg (· = M) w w' := by
  obtain ⟨D, h, h1, h2⟩ := h
  obtain ⟨w', hr, ho, ht⟩ := h.drop lawS Try.underlying77 (keyS key hk) ty
  refine ⟨w', hr, ⟨_, ho, fun x => ?_, fun x z => ?_⟩, (Chg.of_grown ht.grown).mono fun i hi => Option.some.inj hi⟩
  · by_cases hx : x = key
    · subst hx; rw [has_del_same, updG, if_pos rfl]; rfl
    · rw [has_del_other (by simpa using hx), updG, if_neg hx]; exact h1 x
  · by_cases hx : x = key
    · subst hx; rw [atKey_del_same, updG, if_pos rfl]; rfl
    · rw [atKey_del_other (by simpa using hx), updG, if_neg hx]; exact h2 x z
theorem mclone_any {w : World} {M n : Nat} {g : List UInt8 → Option Value} (h : MapIs w M n g) :
    Calls Try.prog 70 #[.map (some M)] w fun e w' => e = .returned (.map (some w.heap.size)) ∧ MapIs w' w.heap.size n g ∧ Below w.heap.size w w' := by
  obtain ⟨D, ⟨es, clock, hb, h1⟩, h2⟩ := h
  refine (mclone_raw M es clock w hb).mono ?_
  rintro e w' ⟨rfl, rfl⟩
  exact ⟨rfl, ⟨D, ⟨es, clock, heap_alloc_new w _, h1⟩, h2⟩, Below.of_alloc _⟩
end Go.Proofs.Ytooojgokkigncaa
