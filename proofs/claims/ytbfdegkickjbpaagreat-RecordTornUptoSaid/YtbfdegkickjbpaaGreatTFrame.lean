/-
 Frame
-/
import Derived.Test.YtbfdegkickjbpaaGreatTBase
import Derived.Laws.CopyOwn
import Derived.Laws.OwnMore
namespace Go.Proofs.YtbfdegkickjbpaaGreat
section
set_option maxRecDepth 100000
open Go.RowKit Go.Lib Go.IntWalk
theorem RdB.byte {w : World} {F : Nat → Prop} {A : Option Addr} {c : Nat} {l : List UInt8} (h : RdB w F (.slice A l.length c) l) {k : Nat} (hk : k < l.length) :
  ∃ b off, A = some ⟨b, off, none⟩ ∧ F b ∧ w.cell? ⟨b, off + k, none⟩ = some (.int .u8 (l[k].toNat : Int)) := by
 obtain ⟨h1, A', c', hv, h2, h3, h4, h5⟩ := h
 injection hv with e1 e2 e3
 subst e1; subst e3
 obtain ⟨ad, rfl, hF, hc⟩ := h5 (by omega)
 obtain ⟨b, off, sp⟩ := ad
 have hk' := hc k _ (bv_get hk)
 have hsp : sp = none := by
  cases sp with
  | none => rfl
  | some q =>
   have h0 := hc 0 _ (bv_get (show 0 < l.length by omega))
   rw [add_zero'] at h0
   simp only [World.cell?] at h0
   split at h0 <;> simp at h0
 subst hsp
 refine ⟨b, off, rfl, hF, ?_⟩
 unfold Addr.add at hk'
 split at hk'
 ·rename_i hj; subst hj; exact hk'
 ·exact hk'
end
section
set_option maxRecDepth 100000
open Go.RowKit Go.Lib Go.IntWalk
theorem bytes_at {w : World} {F : Nat → Prop} {A : Option Addr} {c : Nat} {l : List UInt8} (h : RdB w F (.slice A l.length c) l) (hp : 0 < l.length) :
  ∃ b off, A = some ⟨b, off, none⟩ ∧ F b ∧ ∀ j, j < l.length → w.cell? ⟨b, off + j, none⟩ = some (.int .u8 ((l.getD j 0).toNat : Int)) := by
 obtain ⟨b, off, rfl, hF, hc⟩ := Rd.plain h hp (by omega)
 refine ⟨b, off, rfl, hF, fun j hj => ?_⟩
 have := hc j _ (bv_get hj)
 rw [this]
 simp [List.getD, hj]
/-- a slice of a slice of bytes, its address written out -/
theorem RdB.sub {w : World} {F : Nat → Prop} {b off c : Nat} {l : List UInt8} (h : RdB w F (.slice (some ⟨b, off, none⟩) l.length c) l) {o k c' : Nat} (h1 : o + k ≤ l.length) (h2 : k ≤ c') (h3 : c' ≤ c) (hp : 0 < l.length) :
  RdB w F (.slice (some ⟨b, off + o, none⟩) k c') ((l.drop o).take k) := by
 have hlen : ((l.drop o).take k).length = k := by rw [List.length_take, List.length_drop]; omega
 obtain ⟨b', off', e, hF, hc⟩ := bytes_at h hp
 simp only [Option.some.injEq, Addr.mk.injEq, and_true] at e
 obtain ⟨rfl, rfl⟩ := e
 obtain ⟨_, _, e, _, hm, _⟩ := h.open_
 simp only [Value.slice.injEq] at e
 obtain ⟨_, _, rfl⟩ := e
 unfold RdB
 rw [hlen]
 refine ⟨by rw [bv_length, hlen, Nat.mul_one], _, c', rfl, h2, by omega, fun h => (Option.some_ne_none _ h).elim, fun hk => ⟨_, rfl, hF, fun j u hu => ?_⟩⟩
 have hj : j < k := by
  rcases Nat.lt_or_ge j k with h' | h'
  ·exact h'
  ·rw [List.getElem?_eq_none (by rw [bv_length, hlen]; exact h')] at hu; cases hu
 have hadd : (⟨b, off + o, none⟩ : Addr).add j = ⟨b, off + (o + j), none⟩ := by unfold Addr.add; split <;> simp_all [Nat.add_assoc]
 rw [hadd, hc (o + j) (by omega)]
 rw [bv_get (by rw [hlen]; exact hj)] at hu
 rw [← hu]
 have : o + j < l.length := by omega
 simp [List.getD, this]
end
section
set_option maxRecDepth 100000
open Go.RowKit Go.Lib
theorem OwnB.below {w w' : World} {base : Nat} {v : Value} {l : List UInt8} (h : OwnB w base v l) (hb : Below w.heap.size w w') : OwnB w' base v l :=
 World.ownsRow.kept (row := none) h ⟨hb.os, hb.tape, hb.output, hb.size, fun k hk _ => hb.block k hk⟩ (by cases v.ownBlock <;> simp)
end
section
set_option maxRecDepth 100000
open Go.RowKit Go.Lib Go.IntWalk
theorem OwnB.base {w : World} {b b' : Nat} {v : Value} {l : List UInt8} (h : OwnB w b v l) (hb : b' ≤ b) : OwnB w b' v l := by
 refine ⟨h.1, h.2.imp id ?_⟩
 rintro ⟨g, cap, cur, e, h1, h2⟩
 exact ⟨g, cap, cur, e, Nat.le_trans hb h1, h2⟩
end
end Go.Proofs.YtbfdegkickjbpaaGreat
