/-
  Disks: what lies apart from a disk's blocks. Plain lemmas.
-/
import Derived.Test.YthjephhojngiaaaGreatDoorDisk
namespace Go.Proofs.YthjephhojngiaaaGreatDoor
open Go.RowKit Go.Lib Go.IntWalk

theorem DiskAt.not_log {B Z : Nat} {w : World} {D : Nat} {P : Option Nat} {fm : FM} {os : List DOp} (h : DiskAt B Z w D P fm os) {b : Nat} {cs : Array Value} {t : TypeId} {fr : Nat × Nat} (hb : w.heap[b]? = some (.cells cs t fr)) (h1 : ¬ t = 67) (h2 : ¬ t = 97) : ¬ (b = D ∨ some b = P) := by
  obtain ⟨M, n, g, pv, hD, hBD, hBM, hM, hn, hG, ⟨ps, hps, hown, hO⟩, hZs, rfl⟩ := h
  rintro (rfl | e)
  · rw [hb] at hD; simp only [Option.some.injEq, Obj.cells.injEq] at hD; exact h1 hD.2.1
  · obtain ⟨_, cur, hc⟩ := own_block hown e
    rw [hb] at hc; simp only [Option.some.injEq, Obj.cells.injEq] at hc; exact h2 hc.2.1
theorem DiskAt.ge {B Z : Nat} {w : World} {D : Nat} {P : Option Nat} {fm : FM} {os : List DOp} (h : DiskAt B Z w D P fm os) {b : Nat} (hb : b = D ∨ some b = P) : B ≤ b := by
  obtain ⟨M, n, g, pv, hD, hBD, hBM, hM, hn, hG, ⟨ps, hps, hown, hO⟩, hZs, rfl⟩ := h
  rcases hb with rfl | e
  · exact hBD
  · exact (own_block hown e).1
theorem DiskAt.br {B Z : Nat} {w : World} {D : Nat} {P : Option Nat} {fm : FM} {os : List DOp} (h : DiskAt B Z w D P fm os) : ∀ b, BR B w b → ¬ (b = D ∨ some b = P) := by
  rintro b (hb | ⟨cs, fr, hb⟩) hS
  · have := h.ge hS; omega
  · exact h.not_log hb (by decide) (by decide) hS
theorem DiskAt.lr {B Z : Nat} {w : World} {D : Nat} {P : Option Nat} {fm : FM} {os : List DOp} (h : DiskAt B Z w D P fm os) : ∀ b, LR B w b → ¬ (b = D ∨ some b = P) := by
  rintro b (hb | ⟨cs, hb⟩) hS
  · have := h.ge hS; omega
  · exact h.not_log hb (by decide) (by decide) hS
theorem chg_push {D : Nat} {P P1 : Option Nat} {w0 w1 w2 : World} (hP1 : P1 = P ∨ ∃ p, P1 = some p ∧ w0.heap.size ≤ p) (hc1 : Chg (fun b => b = D ∨ some b = P) w0 w1) (hc2 : Chg (fun b => b = D ∨ some b = P1) w1 w2) : Chg (fun b => b = D ∨ some b = P) w0 w2 := by
  refine hc1.trans hc2 ?_
  rintro i hi (rfl | e)
  · exact .inl rfl
  · rcases hP1 with rfl | ⟨p, rfl, hp⟩
    · exact .inr e
    · injection e with e; omega
end Go.Proofs.YthjephhojngiaaaGreatDoor
