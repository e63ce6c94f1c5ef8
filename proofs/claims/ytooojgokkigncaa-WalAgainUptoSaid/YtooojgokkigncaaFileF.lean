/-
  Two disks: what is done on one leaves the other.
-/
import Derived.Test.YtooojgokkigncaaFileE
namespace Go.Proofs.Ytooojgokkigncaa
open Go.RowKit Go.Lib Go.IntWalk

theorem own_chg {w w' : World} {S : Nat → Prop} {base : Nat} {e : TypeId} {size n : Nat} {v : Value} {cs : List Value} (h : w.ownsRow base e size v n cs) (hc : Chg S w w') (hs : ∀ b, some b = v.ownBlock → ¬ S b) : w'.ownsRow base e size v n cs := by
  refine ⟨h.1, ?_⟩
  rcases h.2 with h0 | ⟨g, cap, cur, rfl, hb, hg, hr⟩
  · exact .inl h0
  · exact .inr ⟨g, cap, cur, rfl, hb, (hc.block g (Array.getElem?_eq_some_iff.1 hg).1 (hs g rfl)).trans hg, hr⟩
theorem DiskAt.other {B Z Z' : Nat} {w w' : World} {U D : Nat} {PU P : Option Nat} {fmu fm : FM} {osu os : List DOp} (h : DiskAt B Z w U PU fmu osu) (hd : DiskAt B Z' w D P fm os) (hB : B ≤ w.heap.size) (hne : ¬ U = D) (hp : ∀ b, some b = PU → ¬ some b = P)
    (hc : Chg (fun b => b = D ∨ some b = P) w w') : DiskAt B Z w' U PU fmu osu := by
  have hbr := hd.br
  obtain ⟨M, n, g, pv, h1, h2, h3, h4, h5, h6, ⟨ps, p1, p2, p3⟩, h8, h9⟩ := h
  have hU : ¬ (U = D ∨ some U = P) := by
    rintro (e | e)
    · exact hne e
    · obtain ⟨M', n', g', pv', d1, d2, d3, d4, d5, d6, ⟨qs, q1, q2, q3⟩, d8, rfl⟩ := hd
      exact own_not_disk q2 h1 e
  have hM : ¬ (M = D ∨ some M = P) := by
    obtain ⟨es, clock, hm⟩ := h4.obj
    obtain ⟨M', n', g', pv', d1, d2, d3, d4, d5, d6, ⟨qs, q1, q2, q3⟩, d8, rfl⟩ := hd
    rintro (rfl | e)
    · rw [d1] at hm; cases hm
    · obtain ⟨_, cur, hcu⟩ := own_block q2 e
      rw [hcu] at hm; cases hm
  have hUl : U < w.heap.size := (Array.getElem?_eq_some_iff.1 h1).1
  refine ⟨M, n, g, pv, (hc.block U hUl hU).trans h1, h2, h3, h4.chg hc hM, h5, h6.chg hB hc hbr, ⟨ps, p1, ?_, p3.chg hB hc hbr⟩, h8, h9⟩
  refine own_chg p2 hc fun b hb => ?_
  rintro (rfl | e)
  · obtain ⟨M', n', g', pv', d1, _⟩ := hd
    exact own_not_disk p2 d1 hb
  · exact hp b (hb.trans h9) e
end Go.Proofs.Ytooojgokkigncaa
