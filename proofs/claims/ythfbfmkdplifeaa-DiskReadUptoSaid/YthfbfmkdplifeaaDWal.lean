/-
 Wal
-/
import Derived.Test.YthfbfmkdplifeaaDDisk
import Derived.Test.YthfbfmkdplifeaaDFrame
import Derived.Lib.SlBytesConst
namespace Go.Proofs.Ythfbfmkdplifeaa
section
set_option maxRecDepth 100000
open Go.RowKit Go.Lib Go.IntWalk
section
variable {w w' : World} {S : Nat → Prop} {L D : Nat} {rec by_ : Int} {nm : List UInt8}
end
/-- blocks of a disk are no log -/
theorem DiskAt.not_log {_ : Inhabited Nb} {B Z : Nat} {w : World} {D : Nat} {P : Option Nat} {fm : FM} {os : List DOp} (h : DiskAt B Z w D P fm os) {b : Nat} {cs : Array Value} {t : TypeId} {fr : Nat × Nat} (hb : w.heap[b]? = some (.cells cs t fr)) (h1 : ¬ t = 47) (h2 : ¬ t = 70) : ¬ (b = D ∨ some b = P) := by
 obtain ⟨M, n, g, pv, hD, hBD, hBM, hM, hn, hG, ⟨ps, hps, hown, hO⟩, hZs, rfl⟩ := h
 rintro (rfl | e)
 ·rw [hb] at hD; simp only [Option.some.injEq, Obj.cells.injEq] at hD; exact h1 hD.2.1
 ·obtain ⟨_, cur, hc⟩ := own_block hown e
  rw [hb] at hc; simp only [Option.some.injEq, Obj.cells.injEq] at hc; exact h2 hc.2.1
theorem DiskAt.ge {_ : Inhabited Nb} {B Z : Nat} {w : World} {D : Nat} {P : Option Nat} {fm : FM} {os : List DOp} (h : DiskAt B Z w D P fm os) {b : Nat} (hb : b = D ∨ some b = P) : B ≤ b := by
 obtain ⟨M, n, g, pv, hD, hBD, hBM, hM, hn, hG, ⟨ps, hps, hown, hO⟩, hZs, rfl⟩ := h
 rcases hb with rfl | e
 ·exact hBD
 ·exact (own_block hown e).1
theorem DiskAt.br {_ : Inhabited Nb} {B Z : Nat} {w : World} {D : Nat} {P : Option Nat} {fm : FM} {os : List DOp} (h : DiskAt B Z w D P fm os) : ∀ b, BR B w b → ¬ (b = D ∨ some b = P) := by
 intro b hbr hS
 rcases hbr.old with hb | ⟨cs, fr, hb⟩
 ·have := h.ge hS; omega
 ·exact h.not_log hb (by decide) (by decide) hS
end
section
set_option maxRecDepth 100000
open Go.RowKit Go.Lib Go.IntWalk
theorem RdB.take {w : World} {F : Nat → Prop} {A : Option Addr} {c : Nat} {l : List UInt8} (h : RdB w F (.slice A l.length c) l) (m : Nat) (hm : m ≤ l.length) : RdB w F (.slice A m c) (l.take m) := by
 have := Rd.pre h hm
 unfold RdB
 rw [List.length_take, Nat.min_eq_left hm]
 rw [Nat.mul_one] at this
 have e : bv (l.take m) = (bv l).take m := by simp [bv]
 rw [e]
 exact this
end
section
set_option maxRecDepth 100000
open Go.RowKit Go.Lib Go.IntWalk
theorem rdB_fr {_ : Inhabited Nb} {B : Nat} (w : World) (m : List UInt8) (fr : Nat × Nat) (hm : m.length ≤ 1000) (hnb : NB < w.heap.size) : DatB B (w.alloc (.cells (bv m).toArray 5 fr)) (.slice (some ⟨w.heap.size, 0, none⟩) m.length m.length) m := by
 refine ⟨by rw [bv_length, Nat.mul_one], _, _, rfl, Nat.le_refl _, by simp only [maxLen]; omega, fun h => (Option.some_ne_none _ h).elim, fun _ => ⟨_, rfl, ⟨.inr ⟨⟨_, _, heap_alloc_new w _⟩, fun e => by have e : w.heap.size = NB := e; omega⟩, by simp; omega⟩, fun j u hu => ?_⟩⟩
 have hadd : (⟨w.heap.size, 0, none⟩ : Addr).add j = ⟨w.heap.size, j, none⟩ := by unfold Addr.add; split <;> simp_all
 rw [hadd, cell_of_row (w.alloc (.cells (bv m).toArray 5 fr)) w.heap.size j (bv m).toArray 5 fr (heap_alloc_new w _)]
 simpa using hu
end
end Go.Proofs.Ythfbfmkdplifeaa
