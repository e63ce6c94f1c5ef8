/-
  Worlds that differ in some blocks alone; lists of slices of bytes. Plain lemmas.
-/
import Derived.Test.YtooojgokkigncaaBytes2
import Derived.Test.YtooojgokkigncaaMem3
namespace Go.Proofs.Ytooojgokkigncaa
open Go.RowKit Go.Lib

/-- w' is w but for the blocks of S and new ones -/
structure Chg (S : Nat → Prop) (w w' : World) : Prop where
  os : w'.os = w.os
  tape : w'.tape = w.tape
  output : w'.output = w.output
  size : w.heap.size ≤ w'.heap.size
  block : ∀ k, k < w.heap.size → ¬ S k → w'.heap[k]? = w.heap[k]?

theorem Chg.refl (S : Nat → Prop) (w : World) : Chg S w w := ⟨rfl, rfl, rfl, Nat.le_refl _, fun _ _ _ => rfl⟩
theorem Chg.trans {S T : Nat → Prop} {a b c : World} (h : Chg S a b) (k : Chg T b c) (hs : ∀ i, i < a.heap.size → T i → S i) : Chg S a c :=
  ⟨k.os.trans h.os, k.tape.trans h.tape, k.output.trans h.output, Nat.le_trans h.size k.size, fun i hi hn => (k.block i (Nat.lt_of_lt_of_le hi h.size) (fun t => hn (hs i hi t))).trans (h.block i hi hn)⟩
theorem Chg.mono {S T : Nat → Prop} {a b : World} (h : Chg S a b) (hs : ∀ i, S i → T i) : Chg T a b :=
  ⟨h.os, h.tape, h.output, h.size, fun i hi hn => h.block i hi (fun t => hn (hs i t))⟩
theorem Chg.below {B : Nat} {S : Nat → Prop} {a b : World} (h : Chg S a b) (hB : B ≤ a.heap.size) (hs : ∀ i, S i → B ≤ i) : Below B a b :=
  ⟨h.os, h.tape, h.output, h.size, fun i hi => h.block i (by omega) (fun t => by have := hs i t; omega)⟩
theorem Chg.of_below {a b : World} (h : Below a.heap.size a b) (S : Nat → Prop) : Chg S a b :=
  ⟨h.os, h.tape, h.output, h.size, fun i hi _ => h.block i hi⟩
theorem Chg.of_grown {a b : World} {row : Option Nat} (h : a.grownBy b row) : Chg (fun i => some i = row) a b :=
  ⟨h.os, h.tape, h.output, h.size, fun i hi hn => h.block i hi hn⟩
theorem Chg.alloc {S : Nat → Prop} {a b : World} (h : Chg S a b) (o : Obj) : Chg S a (b.alloc o) :=
  h.trans (Chg.of_below (Below.of_alloc o) S) (fun _ _ t => t)
theorem Chg.drew {S : Nat → Prop} {a b : World} (h : Chg S a b) : Chg S a b.drew := ⟨h.os, h.tape, h.output, h.size, h.block⟩
theorem Chg.then_below {S : Nat → Prop} {a b c : World} (h : Chg S a b) (k : Below b.heap.size b c) : Chg S a c :=
  h.trans (Chg.of_below k S) (fun _ _ t => t)
theorem Chg.setCell {S : Nat → Prop} {a b : World} (h : Chg S a b) {p : Addr} (hp : S p.block ∨ a.heap.size ≤ p.block) (u : Value) : Chg S a (b.setCell p u) :=
  ⟨h.os, h.tape, h.output, Nat.le_trans h.size (by simp [World.setCell]), fun i hi hn => (Below.heap_setCell _ _ _ _ (fun e => by subst e; exact hp.elim hn (fun h => by omega))).trans (h.block i hi hn)⟩

/-- a block that the input has, or a row of bytes -/
def BR (B : Nat) (w : World) (b : Nat) : Prop := b < B ∨ ∃ cs fr, w.heap[b]? = some (.cells cs 5 fr)
/-- bytes that nobody writes any more -/
def DatB (B : Nat) (w : World) (v : Value) (l : List UInt8) : Prop := RdB w (BR B w) v l
/-- a block of slices of bytes -/
def LR (B : Nat) (w : World) (b : Nat) : Prop := b < B ∨ ∃ cs, w.heap[b]? = some (.cells cs 23 (0, 0))
/-- a list of slices of bytes -/
def DatL (B : Nat) (w : World) (v : Value) (ls : List (List UInt8)) : Prop :=
  ∃ vs : List Value, Rd w (LR B w) 1 v ls.length vs ∧ ∀ (i : Nat) (u : Value) (l : List UInt8), vs[i]? = some u → ls[i]? = some l → DatB B w u l

theorem DatB.chg {B : Nat} {w w' : World} {S : Nat → Prop} {v : Value} {l : List UInt8} (h : DatB B w v l) (hB : B ≤ w.heap.size) (hc : Chg S w w') (hs : ∀ b, BR B w b → ¬ S b) : DatB B w' v l := by
  have hk : ∀ b, BR B w b → w'.heap[b]? = w.heap[b]? := by
    intro b hb
    refine hc.block b ?_ (hs b hb)
    rcases hb with hb | ⟨cs, fr, hb⟩
    · omega
    · exact (Array.getElem?_eq_some_iff.1 hb).1
  refine (Rd.keep h hk).wide ?_
  intro b hb
  have := hk b hb
  rcases hb with hb | ⟨cs, fr, hb⟩
  · exact .inl hb
  · exact .inr ⟨cs, fr, this.trans hb⟩
theorem DatB.below {B : Nat} {w w' : World} {v : Value} {l : List UInt8} (h : DatB B w v l) (hB : B ≤ w.heap.size) (hb : Below w.heap.size w w') : DatB B w' v l :=
  h.chg hB (Chg.of_below hb (fun _ => False)) (fun _ _ hf => hf)
theorem DatL.chg {B : Nat} {w w' : World} {S : Nat → Prop} {v : Value} {ls : List (List UInt8)} (h : DatL B w v ls) (hB : B ≤ w.heap.size) (hc : Chg S w w') (hs : ∀ b, BR B w b → ¬ S b) (ht : ∀ b, LR B w b → ¬ S b) : DatL B w' v ls := by
  obtain ⟨vs, hr, hv⟩ := h
  have hk : ∀ b, LR B w b → w'.heap[b]? = w.heap[b]? := by
    intro b hb
    refine hc.block b ?_ (ht b hb)
    rcases hb with hb | ⟨cs, hb⟩
    · omega
    · exact (Array.getElem?_eq_some_iff.1 hb).1
  refine ⟨vs, (Rd.keep hr hk).wide ?_, fun i u l hu hl => (hv i u l hu hl).chg hB hc hs⟩
  intro b hb
  have := hk b hb
  rcases hb with hb | ⟨cs, hb⟩
  · exact .inl hb
  · exact .inr ⟨cs, this.trans hb⟩
theorem DatB.of_own {B base : Nat} {w : World} {v : Value} {l : List UInt8} (h : OwnB w base v l) : DatB B w v l := by
  refine ⟨h.1, ?_⟩
  rcases h.2 with ⟨rfl, h0⟩ | ⟨g, cap, cur, rfl, hb, hg, hnc, hcm, hcs, htake⟩
  · rw [h0]
    exact ⟨none, 0, rfl, Nat.le_refl _, Nat.zero_le _, fun _ => rfl, fun h => absurd h (by omega)⟩
  · exact ⟨_, cap, rfl, hnc, hcm, fun h => (Option.some_ne_none _ h).elim, fun _ => ⟨_, rfl, .inr ⟨cur, _, hg⟩, World.ownsRow.cells (g := g) h rfl⟩⟩
theorem DatB.nil (B : Nat) (w : World) : DatB B w (.slice none 0 0) [] := RdB.nil _ _
theorem DatB.rd {B : Nat} {w : World} {v : Value} {l : List UInt8} (h : DatB B w v l) (hB : B ≤ w.heap.size) : RdB w (· < w.heap.size) v l := by
  refine Rd.wide h ?_
  intro b hb
  rcases hb with hb | ⟨cs, fr, hb⟩
  · omega
  · exact (Array.getElem?_eq_some_iff.1 hb).1
theorem DatB.of_input {B : Nat} {w : World} {v : Value} {l : List UInt8} (h : RdB w (· < B) v l) : DatB B w v l := Rd.wide h fun _ hb => .inl hb

/-- a row of slices of bytes of the call's own -/
def OwnL (w : World) (base : Nat) (v : Value) (ls : List (List UInt8)) : Prop :=
  ∃ vs : List Value, w.ownsRow base 23 1 v ls.length vs ∧ ∀ (i : Nat) (u : Value) (l : List UInt8), vs[i]? = some u → ls[i]? = some l → OwnB w base u l
theorem OwnL.nil (w : World) (base : Nat) : OwnL w base (.slice none 0 0) [] := ⟨[], World.ownsRow_nil w _ _ _, fun i u l h => by simp at h⟩
theorem OwnL.dat {B base : Nat} {w : World} {v : Value} {ls : List (List UInt8)} (h : OwnL w base v ls) : DatL B w v ls := by
  obtain ⟨vs, h, hv⟩ := h
  refine ⟨vs, ⟨h.1, ?_⟩, fun i u l hu hl => DatB.of_own (hv i u l hu hl)⟩
  rcases h.2 with ⟨rfl, h0⟩ | ⟨g, cap, cur, rfl, hb, hg, hnc, hcm, hcs, htake⟩
  · rw [h0]
    exact ⟨none, 0, rfl, Nat.le_refl _, Nat.zero_le _, fun _ => rfl, fun h => absurd h (by omega)⟩
  · exact ⟨_, cap, rfl, hnc, hcm, fun h => (Option.some_ne_none _ h).elim, fun _ => ⟨_, rfl, .inr ⟨cur, hg⟩, World.ownsRow.cells (g := g) h rfl⟩⟩
theorem OwnB.below {w w' : World} {base : Nat} {v : Value} {l : List UInt8} (h : OwnB w base v l) (hb : Below w.heap.size w w') : OwnB w' base v l :=
  World.ownsRow.kept (row := none) h ⟨hb.os, hb.tape, hb.output, hb.size, fun k hk _ => hb.block k hk⟩ (by cases v.ownBlock <;> simp)
theorem OwnL.below {w w' : World} {base : Nat} {v : Value} {ls : List (List UInt8)} (h : OwnL w base v ls) (hb : Below w.heap.size w w') : OwnL w' base v ls := by
  obtain ⟨vs, h, hv⟩ := h
  exact ⟨vs, World.ownsRow.kept (row := none) h ⟨hb.os, hb.tape, hb.output, hb.size, fun k hk _ => hb.block k hk⟩ (by cases v.ownBlock <;> simp), fun i u l hu hl => (hv i u l hu hl).below hb⟩
end Go.Proofs.Ytooojgokkigncaa
