/-
 RdA
-/
import Derived.Test.YthfbfmkdplifeaaDRefJ
import Derived.Test.YthfbfmkdplifeaaDFile
namespace Go.Proofs.Ythfbfmkdplifeaa
open Go.RowKit Go.Lib Go.IntWalk
section
variable {i j : Inhabited Nb} {B : Nat} {w w' : World}
/-- no row of bytes in the elder world is the block that is left out now -/
def ReB (j : Inhabited Nb) (B : Nat) (w w' : World) : Prop := (∀ b cs fr, B ≤ b → w.heap[b]? = some (.cells cs 5 fr) → ¬ b = @NB j) ∧ @NB j < w'.heap.size
theorem DatB.re {v : Value} {l : List UInt8} (h : @DatB i B w v l) (hB : B ≤ w.heap.size) (hb : Below w.heap.size w w') (hj : ReB j B w w') : @DatB j B w' v l := by
 have hk : ∀ b, @BR i B w b → w'.heap[b]? = w.heap[b]? := by
  intro b hb'
  refine hb.block b ?_
  rcases BR.old hb' with h1 | ⟨cs, fr, h1⟩
  ·omega
  ·exact (Array.getElem?_eq_some_iff.1 h1).1
 refine (Rd.keep h hk).wide ?_
 intro b hb'
 have := hk b hb'
 by_cases hlt : b < B
 ·exact ⟨.inl hlt, hj.2⟩
 ·rcases BR.old hb' with h1 | ⟨cs, fr, h1⟩
  ·exact absurd h1 hlt
  ·exact ⟨.inr ⟨⟨cs, fr, this.trans h1⟩, hj.1 b cs fr (by omega) h1⟩, hj.2⟩
theorem GRd.re {g : List UInt8 → Option Value} {fm : FM} (h : @GRd i B w g fm) (hB : B ≤ w.heap.size) (hb : Below w.heap.size w w') (hj : ReB j B w w') : @GRd j B w' g fm := by
 intro key
 rcases h key with h | ⟨v, l, h1, h2, h3⟩
 ·exact .inl h
 ·exact .inr ⟨v, l, h1, h2, DatB.re h3 hB hb hj⟩
theorem DiskAt.re {Z D : Nat} {P : Option Nat} {fm : FM} {os : List DOp} (h : @DiskAt i B Z w D P fm os) (hB : B ≤ w.heap.size) (hb : Below w.heap.size w w') (hj : ReB j B w w') : @DiskAt j B Z w' D P fm os := by
 obtain ⟨M, n, g, pv, h1, h2, h3, h4, h5, h6, ⟨ps, q1, q2, q3⟩, h8, h9⟩ := h
 exact ⟨M, n, g, pv, (hb.block D (Array.getElem?_eq_some_iff.1 h1).1).trans h1, h2, h3, h4.block (hb.block M h4.lt), h5, GRd.re h6 hB hb hj, ⟨ps, q1, own_below q2 hb, fun p hp => DatB.re (q3 p hp) hB hb hj⟩, h8, h9⟩
theorem FlsRd.re {v : Value} {fl : FL} (h : @FlsRd i B w v fl) (hB : B ≤ w.heap.size) (hb : Below w.heap.size w w') (hj : ReB j B w w') : @FlsRd j B w' v fl := by
 obtain ⟨ps, h1, hr, hd⟩ := h
 have hk : ∀ b, FR B w b → w'.heap[b]? = w.heap[b]? := by
  intro b hb'
  refine hb.block b ?_
  rcases hb' with h | ⟨cs, h⟩
  ·omega
  ·exact (Array.getElem?_eq_some_iff.1 h).1
 refine ⟨ps, h1, (Rd.keep hr hk).wide ?_, fun p hp => DatB.re (hd p hp) hB hb hj⟩
 intro b hb'
 have := hk b hb'
 rcases hb' with h | ⟨cs, h⟩
 ·exact .inl h
 ·exact .inr ⟨cs, this.trans h⟩
theorem DosRd.re {v : Value} {os : List DOp} (h : @DosRd i B w v os) (hB : B ≤ w.heap.size) (hb : Below w.heap.size w w') (hj : ReB j B w w') : @DosRd j B w' v os := by
 obtain ⟨ps, h1, hr, hd⟩ := h
 have hk : ∀ b, DoR B w b → w'.heap[b]? = w.heap[b]? := by
  intro b hb'
  refine hb.block b ?_
  rcases hb' with h | ⟨cs, h⟩
  ·omega
  ·exact (Array.getElem?_eq_some_iff.1 h).1
 refine ⟨ps, h1, (Rd.keep hr hk).wide ?_, fun p hp => DatB.re (hd p hp) hB hb hj⟩
 intro b hb'
 have := hk b hb'
 rcases hb' with h | ⟨cs, h⟩
 ·exact .inl h
 ·exact .inr ⟨cs, this.trans h⟩
theorem Both.re {Z D : Nat} {P : Option Nat} {lv ov : Value} (h : @Both i B Z w D P lv ov) (hB : B ≤ w.heap.size) (hb : Below w.heap.size w w') (hj : ReB j B w w') : @Both j B Z w' D P lv ov := by
 obtain ⟨fm, os, fl, h1, h2, h3, h4, h5, h6⟩ := h
 exact ⟨fm, os, fl, DiskAt.re h1 hB hb hj, FlsRd.re h2 hB hb hj, DosRd.re h3 hB hb hj, h4, h5, h6⟩
/-- the disk's own block may be left out -/
theorem ReB.disk {Z D : Nat} {P : Option Nat} {fm : FM} {os : List DOp} (h : @DiskAt i B Z w D P fm os) : ReB ⟨⟨D⟩⟩ B w w := by
 obtain ⟨M, n, g, pv, h1, h2, _⟩ := h
 refine ⟨fun b cs fr _ hb e => ?_, (Array.getElem?_eq_some_iff.1 h1).1⟩
 have e : b = D := e
 rw [e, h1] at hb
 simp only [Option.some.injEq, Obj.cells.injEq] at hb
 exact absurd hb.2.1 (by decide)
/-- a younger block may be left out -/
theorem ReB.new {X : Nat} (hX : w.heap.size ≤ X) (hX' : X < w'.heap.size) : ReB ⟨⟨X⟩⟩ B w w' := by
 refine ⟨fun b cs fr _ hb e => ?_, hX'⟩
 have e : b = X := e
 have := (Array.getElem?_eq_some_iff.1 hb).1
 omega
/-- the row that is left out is written to -/
theorem Both.mut {Z D X : Nat} {P : Option Nat} {lv ov : Value} {cs : Array Value} {fr : Nat × Nat} (h : @Both ⟨⟨X⟩⟩ B Z w D P lv ov) (hB : B ≤ w.heap.size) (hX : B ≤ X) (hr : w.heap[X]? = some (.cells cs 5 fr)) (hc : Chg (· = X) w w') : @Both ⟨⟨X⟩⟩ B Z w' D P lv ov := by
 letI : Inhabited Nb := ⟨⟨X⟩⟩
 obtain ⟨fm, os, fl, h1, h2, h3, h4, h5, h6⟩ := h
 have hbr : ∀ b, BR B w b → ¬ b = X := by
  rintro b ⟨hb | ⟨_, hb⟩, _⟩
  ·omega
  ·exact hb
 have key : ∀ (b : Nat) (cs' : Array Value) (t : TypeId) (fr' : Nat × Nat), ¬ t = 5 → w.heap[b]? = some (.cells cs' t fr') → ¬ b = X := by
  intro b cs' t fr' ht hb e
  rw [e, hr] at hb
  simp only [Option.some.injEq, Obj.cells.injEq] at hb
  exact ht hb.2.1.symm
 refine ⟨fm, os, fl, ?_, h2.chg hB hc hbr ?_, h3.chg hB hc hbr ?_, h4, h5, h6⟩
 ·obtain ⟨M, n, g, pv, g1, g2, g3, g4, g5, g6, ⟨ps, q1, q2, q3⟩, g8, g9⟩ := h1
  have hM : ¬ M = X := by
   obtain ⟨es, clock, e'⟩ := g4.obj
   rintro rfl
   rw [e'] at hr; cases hr
  refine ⟨M, n, g, pv, (hc.block D (Array.getElem?_eq_some_iff.1 g1).1 (key D _ _ _ (by decide) g1)).trans g1, g2, g3, g4.chg hc hM, g5, g6.chg hB hc hbr, ⟨ps, q1, own_chg q2 hc ?_, q3.chg hB hc hbr⟩, g8, g9⟩
  intro b hb
  obtain ⟨_, cur, hcu⟩ := own_block q2 hb
  exact key b _ _ _ (by decide) hcu
 ·rintro b (hb | ⟨cs', hb⟩)
  ·omega
  ·exact key b _ _ _ (by decide) hb
 ·rintro b (hb | ⟨cs', hb⟩)
  ·omega
  ·exact key b _ _ _ (by decide) hb
end
end Go.Proofs.Ythfbfmkdplifeaa
