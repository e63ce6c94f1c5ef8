/-
 Frame
-/
import Derived.Test.YthfbfmkdplifeaaDBase
import Derived.Laws.CopyOwn
import Derived.Laws.OwnMore
namespace Go.Proofs.Ythfbfmkdplifeaa
section
set_option maxRecDepth 100000
open Go.RowKit Go.Lib Go.IntWalk
theorem RdB.byte {w : World} {F : Nat → Prop} {A : Option Addr} {c : Nat} {l : List UInt8} (h : RdB w F (.slice A l.length c) l) {k : Nat} (hk : k < l.length) :
  ∃ b off, A = some ⟨b, off, none⟩ ∧ F b ∧ w.cell? ⟨b, off + k, none⟩ = some (.int .u8 (l[k].toNat : Int)) := by
 obtain ⟨h1, A', c', hv, h2, h3, h4, h5⟩ := h
 injection hv with e1 e2 e3
 subst e1; subst e3
 obtain ⟨ad, rfl, hF, hc⟩ := h5 (by omega)
 obtain ⟨b, off, sp⟩ := ad
 have hk' := hc k _ (bv_get hk)
 have hsp : sp = none := by
  cases sp with
  | none => rfl
  | some q =>
   have h0 := hc 0 _ (bv_get (show 0 < l.length by omega))
   rw [add_zero'] at h0
   simp only [World.cell?] at h0
   split at h0 <;> simp at h0
 subst hsp
 refine ⟨b, off, rfl, hF, ?_⟩
 unfold Addr.add at hk'
 split at hk'
 ·rename_i hj; subst hj; exact hk'
 ·exact hk'
end
section
set_option maxRecDepth 100000
open Go.RowKit Go.Lib Go.IntWalk
theorem bytes_at {w : World} {F : Nat → Prop} {A : Option Addr} {c : Nat} {l : List UInt8} (h : RdB w F (.slice A l.length c) l) (hp : 0 < l.length) :
  ∃ b off, A = some ⟨b, off, none⟩ ∧ F b ∧ ∀ j, j < l.length → w.cell? ⟨b, off + j, none⟩ = some (.int .u8 ((l.getD j 0).toNat : Int)) := by
 obtain ⟨b, off, rfl, hF, hc⟩ := Rd.plain h hp (by omega)
 refine ⟨b, off, rfl, hF, fun j hj => ?_⟩
 have := hc j _ (bv_get hj)
 rw [this]
 simp [List.getD, hj]
/-- a slice of a slice of bytes, its address written out -/
theorem RdB.sub {w : World} {F : Nat → Prop} {b off c : Nat} {l : List UInt8} (h : RdB w F (.slice (some ⟨b, off, none⟩) l.length c) l) {o k c' : Nat} (h1 : o + k ≤ l.length) (h2 : k ≤ c') (h3 : c' ≤ c) (hp : 0 < l.length) :
  RdB w F (.slice (some ⟨b, off + o, none⟩) k c') ((l.drop o).take k) := by
 have hlen : ((l.drop o).take k).length = k := by rw [List.length_take, List.length_drop]; omega
 obtain ⟨b', off', e, hF, hc⟩ := bytes_at h hp
 simp only [Option.some.injEq, Addr.mk.injEq, and_true] at e
 obtain ⟨rfl, rfl⟩ := e
 obtain ⟨_, _, e, _, hm, _⟩ := h.open_
 simp only [Value.slice.injEq] at e
 obtain ⟨_, _, rfl⟩ := e
 unfold RdB
 rw [hlen]
 refine ⟨by rw [bv_length, hlen, Nat.mul_one], _, c', rfl, h2, by omega, fun h => (Option.some_ne_none _ h).elim, fun hk => ⟨_, rfl, hF, fun j u hu => ?_⟩⟩
 have hj : j < k := by
  rcases Nat.lt_or_ge j k with h' | h'
  ·exact h'
  ·rw [List.getElem?_eq_none (by rw [bv_length, hlen]; exact h')] at hu; cases hu
 have hadd : (⟨b, off + o, none⟩ : Addr).add j = ⟨b, off + (o + j), none⟩ := by unfold Addr.add; split <;> simp_all [Nat.add_assoc]
 rw [hadd, hc (o + j) (by omega)]
 rw [bv_get (by rw [hlen]; exact hj)] at hu
 rw [← hu]
 have : o + j < l.length := by omega
 simp [List.getD, this]
end
section
set_option maxRecDepth 100000
open Go.RowKit Go.Lib
/-- the name of a block -/
structure Nb where
 x : Nat
/-- the block that is left out -/
def NB [Inhabited Nb] : Nat := (default : Nb).x
/-- a block that the input has, or a row of bytes but for the block that is left out -/
def BR [Inhabited Nb] (B : Nat) (w : World) (b : Nat) : Prop := (b < B ∨ ((∃ cs fr, w.heap[b]? = some (.cells cs 5 fr)) ∧ ¬ b = NB)) ∧ NB < w.heap.size
theorem BR.old {_ : Inhabited Nb} {B : Nat} {w : World} {b : Nat} (h : BR B w b) : b < B ∨ ∃ cs fr, w.heap[b]? = some (.cells cs 5 fr) := h.1.imp (fun h => h) (fun h => h.1)
/-- bytes that nobody writes any more -/
def DatB [Inhabited Nb] (B : Nat) (w : World) (v : Value) (l : List UInt8) : Prop := RdB w (BR B w) v l
theorem DatB.chg {_ : Inhabited Nb} {B : Nat} {w w' : World} {S : Nat → Prop} {v : Value} {l : List UInt8} (h : DatB B w v l) (hB : B ≤ w.heap.size) (hc : Chg S w w') (hs : ∀ b, BR B w b → ¬ S b) : DatB B w' v l := by
 have hk : ∀ b, BR B w b → w'.heap[b]? = w.heap[b]? := by
  intro b hb
  refine hc.block b ?_ (hs b hb)
  rcases hb.old with hb | ⟨cs, fr, hb⟩
  ·omega
  ·exact (Array.getElem?_eq_some_iff.1 hb).1
 refine (Rd.keep h hk).wide ?_
 intro b hb
 have := hk b hb
 have hsz := hc.size
 obtain ⟨hb | ⟨⟨cs, fr, hb⟩, hne⟩, hnb⟩ := hb
 ·exact ⟨.inl hb, by omega⟩
 ·exact ⟨.inr ⟨⟨cs, fr, this.trans hb⟩, hne⟩, by omega⟩
theorem DatB.nb {_ : Inhabited Nb} {B : Nat} {w : World} {v : Value} {l : List UInt8} (h : DatB B w v l) (hl : 0 < l.length) : NB < w.heap.size := by
 obtain ⟨_, A, c, _, _, _, _, h5⟩ := h
 obtain ⟨ad, _, hb, _⟩ := h5 hl
 exact hb.2
theorem DatB.below {_ : Inhabited Nb} {B : Nat} {w w' : World} {v : Value} {l : List UInt8} (h : DatB B w v l) (hB : B ≤ w.heap.size) (hb : Below w.heap.size w w') : DatB B w' v l :=
 h.chg hB (Chg.of_below hb (fun _ => False)) (fun _ _ hf => hf)
theorem DatB.of_own {_ : Inhabited Nb} {B base : Nat} {w : World} {v : Value} {l : List UInt8} (h : OwnB w base v l) (hx : 0 < l.length → NB < base) : DatB B w v l := by
 refine ⟨h.1, ?_⟩
 rcases h.2 with ⟨rfl, h0⟩ | ⟨g, cap, cur, rfl, hb, hg, hnc, hcm, hcs, htake⟩
 ·rw [h0]
  exact ⟨none, 0, rfl, Nat.le_refl _, Nat.zero_le _, fun _ => rfl, fun h => absurd h (by omega)⟩
 ·exact ⟨_, cap, rfl, hnc, hcm, fun h => (Option.some_ne_none _ h).elim, fun h0 => ⟨_, rfl, ⟨.inr ⟨⟨cur, _, hg⟩, fun e => by have := hx h0; have e : g = NB := e; omega⟩, by have := hx h0; have := (Array.getElem?_eq_some_iff.1 hg).1; omega⟩, World.ownsRow.cells (g := g) h rfl⟩⟩
theorem DatB.nil [Inhabited Nb] (B : Nat) (w : World) : DatB B w (.slice none 0 0) [] := RdB.nil _ _
theorem DatB.rd {_ : Inhabited Nb} {B : Nat} {w : World} {v : Value} {l : List UInt8} (h : DatB B w v l) (hB : B ≤ w.heap.size) : RdB w (· < w.heap.size) v l := by
 refine Rd.wide h ?_
 intro b hb
 rcases hb.old with hb | ⟨cs, fr, hb⟩
 ·omega
 ·exact (Array.getElem?_eq_some_iff.1 hb).1
theorem DatB.of_input {_ : Inhabited Nb} {B : Nat} {w : World} {v : Value} {l : List UInt8} (h : RdB w (· < B) v l) (hB : B ≤ w.heap.size) (hn : NB = 0) : DatB B w v l := Rd.wide h fun _ hb => ⟨.inl hb, by rw [hn]; omega⟩
theorem OwnB.below {w w' : World} {base : Nat} {v : Value} {l : List UInt8} (h : OwnB w base v l) (hb : Below w.heap.size w w') : OwnB w' base v l :=
 World.ownsRow.kept (row := none) h ⟨hb.os, hb.tape, hb.output, hb.size, fun k hk _ => hb.block k hk⟩ (by cases v.ownBlock <;> simp)
end
section
set_option maxRecDepth 100000
open Go.RowKit Go.Lib Go.IntWalk
theorem OwnB.base {w : World} {b b' : Nat} {v : Value} {l : List UInt8} (h : OwnB w b v l) (hb : b' ≤ b) : OwnB w b' v l := by
 refine ⟨h.1, h.2.imp id ?_⟩
 rintro ⟨g, cap, cur, e, h1, h2⟩
 exact ⟨g, cap, cur, e, Nat.le_trans hb h1, h2⟩
end
end Go.Proofs.Ythfbfmkdplifeaa
