/-
 SrcB
-/
import Derived.Test.YtbfdegkickjbpaaGreatTSrcA
namespace Go.Proofs.YtbfdegkickjbpaaGreat
open Go.RowKit Go.Lib Go.IntWalk Go.Sort Go.Shelf
theorem heldSkipRun {P : Program} {ops : Array Oper} {Q : Exit → Act → World → Prop} {md : Region.Mode} {S : World → Prop} {fuel : Nat} {listed : Array Bool} {a : Act} {w : World} (i : Nat) (dst : Option Tmp) {oi : Oper} {w' : World} (hi : ops.toList[i]? = some oi) (hd : oi.dst = dst) (hr : Region.ready md ops listed = [i]) (hw : Region.wanted oi (yielded ops a.tmps) = true)
  (hrun : (execOp a.eval oi).run P w = .ok .skip w') (hS : S w')
  (h : wpAnyH P md ops Q S fuel (listed.setIfInBounds i true) (a.put dst undef) w') : wpAnyH P md ops Q S (fuel + 1) listed a w := by
 subst hd
 refine heldOp i hi hr hw ?_
 unfold Oper.wp
 rw [hrun]
 exact ⟨hS, h⟩
theorem rdS_mono {α : Type} {dec : Int → α × Int × Int} {z : α} {s : Int × Int} {a : α} {m : Int} (hd : ∀ k a m, dec k = (a, m, 0) → k + 1 ≤ m) (h : rdS dec z s = (a, m, 0)) : s.2 = 0 ∧ s.1 + 1 ≤ m ∧ dec s.1 = (a, m, 0) := by
 unfold rdS at h
 split at h
 ·rename_i h0
  simp only [Prod.mk.injEq] at h
  exact absurd (by rw [h.2]) h0
 ·rename_i h0
  rcases hq : dec s.1 with ⟨b, q, e⟩
  rw [hq] at h
  simp only at h
  split at h
  ·rename_i he
   subst he
   simp only [Prod.mk.injEq, and_true] at h
   obtain ⟨rfl, rfl⟩ := h
   exact ⟨by omega, hd _ _ _ hq, rfl⟩
  ·rename_i he
   simp only [Prod.mk.injEq] at h
   exact absurd h.2.2 he
theorem rdI_mono {l : List UInt8} {s : Int × Int} {a m : Int} (h : rdI l s = (a, m, 0)) : s.2 = 0 ∧ s.1 + 1 ≤ m ∧ decI l s.1 = (a, m, 0) := rdS_mono (fun k a m h => by
 obtain ⟨x, r, _, hk, hm⟩ := decI_got h
 have := encI_pos a
 rw [hk, hm, List.length_append]; omega) h
def endE (s : Int × Int) (n : Nat) : Int := if s.2 = 0 ∧ s.1 < n then 3 else s.2
set_option maxRecDepth 1000000 in
set_option maxHeartbeats 4000000 in
theorem srcEnd_any (R : Nat) (v : Value) (l : List UInt8) (s : Int × Int) (w : World) (h : SrcAt w R v s) (hv : RdB w (· < R) v l) :
  Calls Tryz.prog 73 #[.pointer (some ⟨R, 0, none⟩)] w fun x w' => x = .returned (.int .i64 (endE s l.length)) ∧ Below w.heap.size w w' := by
 obtain ⟨k, er⟩ := s
 have hR := h.lt
 obtain ⟨Av, cv, rfl, y1, y2, y3⟩ := Rd.open_ hv
 have c0 : w.cell? ⟨R, 0, none⟩ = some (.slice Av l.length cv) := cell_of_row w R 0 _ _ _ h
 have c1 : w.cell? ⟨R, 1, none⟩ = some (.int .i64 k) := cell_of_row w R 1 _ _ _ h
 have c2 : w.cell? ⟨R, 2, none⟩ = some (.int .i64 er) := cell_of_row w R 2 _ _ _ h
 clear h hv y3 y2
 by_cases he : er = 0
 case pos =>
  subst he
  by_cases hk : k < (l.length : Int)
  case pos =>
   rw [show endE (k, 0) l.length = 3 from if_pos ⟨rfl, hk⟩]
   go_enter Tryz.func73, Tryz.ntmps73
   go_wp2_with fail
   refine wp_region_noPanic ?_
   refine wp_region_held_drew (S := (fun w' => Below w.heap.size w w')) (by kernel_rfl) ?_ (fun hHeld => ?_)
   ·exact (Below.refl _ _).drew
   refine hT 0 3 hHeld ?_
   simp only [aP]
   refine hT 1 4 hHeld ?_
   simp only [aP]
   refine hT 2 5 hHeld ?_
   simp only [aP]
   refine hU 3 6 (v := ?_) hHeld ?_ ?_
   rotate_left
   ·intro w' hSw; (try dsimp only at hSw); have q0 := (World.cell?_of_block (w := w) (a := ⟨R, 2, none⟩) (hSw.block R hR)).trans c2; go_simp <;> with_reducible rfl
   simp only [aP]
   refine hT 4 7 hHeld ?_
   simp only [aP]
   refine hT 5 8 hHeld ?_
   simp only [aP]
   refine hT 6 9 hHeld ?_
   simp only [aP]
   refine hT 7 10 hHeld ?_
   simp only [aP]
   refine hT 8 11 hHeld ?_
   simp only [aP]
   refine hU 9 12 (v := ?_) hHeld ?_ ?_
   rotate_left
   ·intro w' hSw; (try dsimp only at hSw); have q0 := (World.cell?_of_block (w := w) (a := ⟨R, 1, none⟩) (hSw.block R hR)).trans c1; go_simp <;> with_reducible rfl
   simp only [aP]
   refine hT 10 13 hHeld ?_
   simp only [aP]
   refine hT 11 14 hHeld ?_
   simp only [aP]
   refine hT 12 15 hHeld ?_
   simp only [aP]
   refine hU 13 16 (v := ?_) hHeld ?_ ?_
   rotate_left
   ·intro w' hSw; (try dsimp only at hSw); have q0 := (World.cell?_of_block (w := w) (a := ⟨R, 0, none⟩) (hSw.block R hR)).trans c0; go_simp <;> with_reducible rfl
   simp only [aP]
   refine hT 14 17 hHeld ?_
   simp only [aP]
   refine hT 15 18 hHeld ?_
   simp only [aP]
   refine hT 16 19 hHeld ?_
   simp only [aP]
   refine wpAnyH_done (by kernel_rfl) ?_ _
   refine NoPanic.normal ?_
   clear hHeld
   go_wp2_with fail
   go_ret
   exact ⟨rfl, (Below.refl _ _).drew⟩
  case neg =>
   rw [show endE (k, 0) l.length = 0 from if_neg (fun h => hk h.2)]
   go_enter Tryz.func73, Tryz.ntmps73
   go_wp2_with fail
   refine wp_region_noPanic ?_
   refine wp_region_held_drew (S := (fun w' => Below w.heap.size w w')) (by kernel_rfl) ?_ (fun hHeld => ?_)
   ·exact (Below.refl _ _).drew
   refine hT 0 3 hHeld ?_
   simp only [aP]
   refine hT 1 4 hHeld ?_
   simp only [aP]
   refine hT 2 5 hHeld ?_
   simp only [aP]
   refine hU 3 6 (v := ?_) hHeld ?_ ?_
   rotate_left
   ·intro w' hSw; (try dsimp only at hSw); have q0 := (World.cell?_of_block (w := w) (a := ⟨R, 2, none⟩) (hSw.block R hR)).trans c2; go_simp <;> with_reducible rfl
   simp only [aP]
   refine hT 4 7 hHeld ?_
   simp only [aP]
   refine hT 5 8 hHeld ?_
   simp only [aP]
   refine hT 6 9 hHeld ?_
   simp only [aP]
   refine hT 7 10 hHeld ?_
   simp only [aP]
   refine hT 8 11 hHeld ?_
   simp only [aP]
   refine hU 9 12 (v := ?_) hHeld ?_ ?_
   rotate_left
   ·intro w' hSw; (try dsimp only at hSw); have q0 := (World.cell?_of_block (w := w) (a := ⟨R, 1, none⟩) (hSw.block R hR)).trans c1; go_simp <;> with_reducible rfl
   simp only [aP]
   refine hT 10 13 hHeld ?_
   simp only [aP]
   refine hT 11 14 hHeld ?_
   simp only [aP]
   refine hT 12 15 hHeld ?_
   simp only [aP]
   refine hU 13 16 (v := ?_) hHeld ?_ ?_
   rotate_left
   ·intro w' hSw; (try dsimp only at hSw); have q0 := (World.cell?_of_block (w := w) (a := ⟨R, 0, none⟩) (hSw.block R hR)).trans c0; go_simp <;> with_reducible rfl
   simp only [aP]
   refine hT 14 17 hHeld ?_
   simp only [aP]
   refine hT 15 18 hHeld ?_
   simp only [aP]
   refine hT 16 19 hHeld ?_
   simp only [aP]
   refine wpAnyH_done (by kernel_rfl) ?_ _
   refine NoPanic.normal ?_
   clear hHeld
   go_wp2_with fail
   go_ret
   exact ⟨rfl, (Below.refl _ _).drew⟩
 case neg =>
  rw [show endE (k, er) l.length = er from if_neg (fun h => he h.1)]
  have he1 : (er == 0) = false := by simpa using he
  have he2 : decide (er = 0) = false := by simpa using he
  go_enter Tryz.func73, Tryz.ntmps73
  go_wp2_with fail
  refine wp_region_noPanic ?_
  refine wp_region_held_drew (S := (fun w' => Below w.heap.size w w')) (by kernel_rfl) ?_ (fun hHeld => ?_)
  ·exact (Below.refl _ _).drew
  refine hT 0 3 hHeld ?_
  simp only [aP]
  refine hT 1 4 hHeld ?_
  simp only [aP]
  refine hT 2 5 hHeld ?_
  simp only [aP]
  refine hU 3 6 (v := ?_) hHeld ?_ ?_
  rotate_left
  ·intro w' hSw; (try dsimp only at hSw); have q0 := (World.cell?_of_block (w := w) (a := ⟨R, 2, none⟩) (hSw.block R hR)).trans c2; go_simp <;> with_reducible rfl
  simp only [aP]
  refine hT 4 7 hHeld ?_
  simp only [aP]
  refine hT 5 8 hHeld ?_
  simp only [aP]
  refine hK 6 9 hHeld ?_
  simp only [aP]
  refine hK 7 10 hHeld ?_
  simp only [aP]
  refine hK 8 11 hHeld ?_
  simp only [aP]
  refine hK 9 12 hHeld ?_
  simp only [aP]
  refine hK 10 13 hHeld ?_
  simp only [aP]
  refine hK 11 14 hHeld ?_
  simp only [aP]
  refine hK 12 15 hHeld ?_
  simp only [aP]
  refine hK 13 16 hHeld ?_
  simp only [aP]
  refine hK 14 17 hHeld ?_
  simp only [aP]
  refine hK 15 18 hHeld ?_
  simp only [aP]
  refine hT 16 19 hHeld ?_
  simp only [aP]
  refine wpAnyH_done (by kernel_rfl) ?_ _
  refine NoPanic.normal ?_
  clear hHeld
  go_wp2_with fail
  go_ret
  exact ⟨rfl, (Below.refl _ _).drew⟩
end Go.Proofs.YtbfdegkickjbpaaGreat
