/-
  Readers: a version; the end.
-/
import Derived.Test.YtacjiocffbgkkaaGreatSrcA
namespace Go.Proofs.YtacjiocffbgkkaaGreat
open Go.RowKit Go.Lib Go.IntWalk Go.Sort Go.Shelf

theorem heldSkipRun {P : Program} {ops : Array Oper} {Q : Exit → Act → World → Prop} {md : Region.Mode} {S : World → Prop} {fuel : Nat} {listed : Array Bool} {a : Act} {w : World} (i : Nat) (dst : Option Tmp) {oi : Oper} {w' : World} (hi : ops.toList[i]? = some oi) (hd : oi.dst = dst) (hr : Region.ready md ops listed = [i]) (hw : Region.wanted oi (yielded ops a.tmps) = true)
    (hrun : (execOp a.eval oi).run P w = .ok .skip w') (hS : S w')
    (h : wpAnyH P md ops Q S fuel (listed.setIfInBounds i true) (a.put dst undef) w') : wpAnyH P md ops Q S (fuel + 1) listed a w := by
  subst hd
  refine heldOp i hi hr hw ?_
  unfold Oper.wp
  rw [hrun]
  exact ⟨hS, h⟩
def rdVer (l : List UInt8) (s : Int × Int) : Ver × Int × Int :=
  let a := rdI l s
  let b := rdI l a.2
  let r := rdR l b.2
  let p := rdP l r.2
  let q := rdP l p.2
  let c := rdI l q.2
  let d := rdI l c.2
  (⟨a.1, b.1, r.1, p.1.1, p.1.2, q.1.1, q.1.2, c.1, d.1⟩, d.2)
theorem rdS_mono {α : Type} {dec : Int → α × Int × Int} {z : α} {s : Int × Int} {a : α} {m : Int} (hd : ∀ k a m, dec k = (a, m, 0) → k + 1 ≤ m) (h : rdS dec z s = (a, m, 0)) : s.2 = 0 ∧ s.1 + 1 ≤ m ∧ dec s.1 = (a, m, 0) := by
  unfold rdS at h
  split at h
  · rename_i h0
    simp only [Prod.mk.injEq] at h
    exact absurd (by rw [h.2]) h0
  · rename_i h0
    rcases hq : dec s.1 with ⟨b, q, e⟩
    rw [hq] at h
    simp only at h
    split at h
    · rename_i he
      subst he
      simp only [Prod.mk.injEq, and_true] at h
      obtain ⟨rfl, rfl⟩ := h
      exact ⟨by omega, hd _ _ _ hq, rfl⟩
    · rename_i he
      simp only [Prod.mk.injEq] at h
      exact absurd h.2.2 he
theorem rdI_mono {l : List UInt8} {s : Int × Int} {a m : Int} (h : rdI l s = (a, m, 0)) : s.2 = 0 ∧ s.1 + 1 ≤ m ∧ decI l s.1 = (a, m, 0) := rdS_mono (fun k a m h => by
  obtain ⟨x, r, _, hk, hm⟩ := decI_got h
  have := encI_pos a
  rw [hk, hm, List.length_append]; omega) h
theorem rdR_mono {l : List UInt8} {s : Int × Int} {a : List Val} {m : Int} (h : rdR l s = (a, m, 0)) : s.2 = 0 ∧ s.1 + 1 ≤ m ∧ decR l s.1 = (a, m, 0) := rdS_mono (fun k a m h => by
  obtain ⟨x, r, _, hk, hm, _⟩ := decR_got h
  have := encI_pos a.length
  rw [hk, hm, List.length_append, encR, List.length_append]; omega) h
theorem rdP_mono {l : List UInt8} {s : Int × Int} {a : Int × Int} {m : Int} (h : rdP l s = (a, m, 0)) : s.2 = 0 ∧ s.1 + 1 ≤ m ∧ decP l s.1 = (a, m, 0) := rdS_mono (fun k a m h => by
  obtain ⟨f, t⟩ := a
  obtain ⟨x, r, _, hk, hm, _⟩ := decP_got h
  have := encI_pos f
  rw [hk, hm, List.length_append, List.length_append]; omega) h
theorem rdVer_mono {l : List UInt8} {k : Int} {x : Ver} {m : Int} (h : rdVer l (k, 0) = (x, m, 0)) : k + 1 ≤ m ∧ m ≤ l.length := by
  unfold rdVer at h
  simp only [Prod.mk.injEq] at h
  rcases h1 : rdI l (k, 0) with ⟨n1, k1, e1⟩
  rw [h1] at h
  rcases h2 : rdI l (k1, e1) with ⟨n2, k2, e2⟩
  rw [h2] at h
  rcases h3 : rdR l (k2, e2) with ⟨xs, k3, e3⟩
  rw [h3] at h
  rcases h4 : rdP l (k3, e3) with ⟨p4, k4, e4⟩
  rw [h4] at h
  rcases h5 : rdP l (k4, e4) with ⟨p5, k5, e5⟩
  rw [h5] at h
  rcases h6 : rdI l (k5, e5) with ⟨n6, k6, e6⟩
  rw [h6] at h
  rcases h7 : rdI l (k6, e6) with ⟨n7, k7, e7⟩
  rw [h7] at h
  obtain ⟨_, rfl, rfl⟩ := h
  have g7 := rdI_mono h7
  obtain rfl : e6 = 0 := g7.1
  have g6 := rdI_mono h6
  obtain rfl : e5 = 0 := g6.1
  have g5 := rdP_mono h5
  obtain rfl : e4 = 0 := g5.1
  have g4 := rdP_mono h4
  obtain rfl : e3 = 0 := g4.1
  have g3 := rdR_mono h3
  obtain rfl : e2 = 0 := g3.1
  have g2 := rdI_mono h2
  obtain rfl : e1 = 0 := g2.1
  have g1 := rdI_mono h1
  have e := g7.2.2
  obtain ⟨x, r, hl, hk, hm⟩ := decI_got e
  have hln : l.length = (x ++ encI n7).length + r.length := by rw [hl]; simp [Nat.add_assoc]
  simp only at g1 g2 g3 g4 g5 g6 g7
  omega
theorem nine_set {w : World} {T : Nat} {a0 a1 a2 a3 a4 a5 a6 a7 a8 : Value} {e : TypeId} (h : w.heap[T]? = some (.cells #[a0, a1, a2, a3, a4, a5, a6, a7, a8] e (0, 0))) (c0 c1 c2 c3 c4 c5 c6 c7 c8 : Value) :
    (((((((((w.setCell ⟨T, 0, none⟩ c0).setCell ⟨T, 1, none⟩ c1).setCell ⟨T, 2, none⟩ c2).setCell ⟨T, 3, none⟩ c3).setCell ⟨T, 4, none⟩ c4).setCell ⟨T, 5, none⟩ c5).setCell ⟨T, 6, none⟩ c6).setCell ⟨T, 7, none⟩ c7).setCell ⟨T, 8, none⟩ c8).heap[T]? = some (.cells #[c0, c1, c2, c3, c4, c5, c6, c7, c8] e (0, 0)) := by
  have h0 := heap_setCell_same w T 0 _ _ c0 h
  have h1 := heap_setCell_same _ T 1 _ _ c1 h0
  have h2 := heap_setCell_same _ T 2 _ _ c2 h1
  have h3 := heap_setCell_same _ T 3 _ _ c3 h2
  have h4 := heap_setCell_same _ T 4 _ _ c4 h3
  have h5 := heap_setCell_same _ T 5 _ _ c5 h4
  have h6 := heap_setCell_same _ T 6 _ _ c6 h5
  have h7 := heap_setCell_same _ T 7 _ _ c7 h6
  have h8 := heap_setCell_same _ T 8 _ _ c8 h7
  simpa using h8
theorem nine_chg (w : World) (T : Nat) (c0 c1 c2 c3 c4 c5 c6 c7 c8 : Value) :
    Chg (· = T) w (((((((((w.setCell ⟨T, 0, none⟩ c0).setCell ⟨T, 1, none⟩ c1).setCell ⟨T, 2, none⟩ c2).setCell ⟨T, 3, none⟩ c3).setCell ⟨T, 4, none⟩ c4).setCell ⟨T, 5, none⟩ c5).setCell ⟨T, 6, none⟩ c6).setCell ⟨T, 7, none⟩ c7).setCell ⟨T, 8, none⟩ c8) :=
  ((((((((Chg.refl (· = T) w |>.setCell (p := ⟨T, 0, none⟩) (.inl rfl) c0).setCell (p := ⟨T, 1, none⟩) (.inl rfl) c1).setCell (p := ⟨T, 2, none⟩) (.inl rfl) c2).setCell (p := ⟨T, 3, none⟩) (.inl rfl) c3).setCell (p := ⟨T, 4, none⟩) (.inl rfl) c4).setCell (p := ⟨T, 5, none⟩) (.inl rfl) c5).setCell (p := ⟨T, 6, none⟩) (.inl rfl) c6).setCell (p := ⟨T, 7, none⟩) (.inl rfl) c7).setCell (p := ⟨T, 8, none⟩) (.inl rfl) c8

set_option maxRecDepth 1000000 in
set_option maxHeartbeats 4000000 in
theorem srcVersion_any (R : Nat) (v : Value) (l : List UInt8) (s : Int × Int) (w : World) (h : SrcAt w R v s) (hv : RdB w (· < R) v l) :
    Calls Tryz.prog 60 #[.pointer (some ⟨R, 0, none⟩)] w fun x w' => ∃ r : RV, x = .returned (.agg r.enc.toArray) ∧ VerIs w' (fun b => w.heap.size ≤ b ∧ b < w'.heap.size) r (rdVer l s).1 ∧ SrcAt w' R v (rdVer l s).2 ∧ Chg (· = R) w w' := by
  rcases h1 : rdI l s with ⟨n1, s1⟩
  rcases h2 : rdI l s1 with ⟨n2, s2⟩
  rcases h3 : rdR l s2 with ⟨xs, s3⟩
  rcases h4 : rdP l s3 with ⟨⟨f4, t4⟩, s4⟩
  rcases h5 : rdP l s4 with ⟨⟨f5, t5⟩, s5⟩
  rcases h6 : rdI l s5 with ⟨n6, s6⟩
  rcases h7 : rdI l s6 with ⟨n7, s7⟩
  have hd : rdVer l s = (⟨n1, n2, xs, f4, t4, f5, t5, n6, n7⟩, s7) := by unfold rdVer; simp only [h1, h2, h3, h4, h5, h6, h7]
  have hok : ∀ x ∈ xs, goV x := by
    have e : xs = (rdR l s2).1 := by rw [h3]
    rw [e]
    unfold rdR rdS
    split
    · intro x hx; cases hx
    · split <;> exact decR_ok l _
  rw [hd]
  obtain ⟨W, hW⟩ : ∃ W, W = w.alloc (.cells #[.int .i64 0, .int .i64 0, .slice none 0 0, .int .i64 0, .int .i64 0, .int .i64 0, .int .i64 0, .int .i64 0, .int .i64 0] 61) := ⟨_, rfl⟩
  have hR := h.lt
  have hbW : Below w.heap.size w W := by rw [hW]; exact Below.of_alloc _
  have hWs : W.heap.size = w.heap.size + 1 := by rw [hW]; simp
  have hQ : W.heap[w.heap.size]? = some (.cells #[.int .i64 0, .int .i64 0, .slice none 0 0, .int .i64 0, .int .i64 0, .int .i64 0, .int .i64 0, .int .i64 0, .int .i64 0] 61 (0, 0)) := by rw [hW]; exact heap_alloc_new _ _
  have hS0 : SrcAt W.drew R v s := (h.below hbW).below (Below.refl _ _).drew
  have hC0 : Chg (· = R) W W.drew := (Chg.refl _ _).drew
  have hvW : ∀ V, Chg (· = R) W V → RdB V (· < R) v l := fun V hV => Rd.keep hv (fun b (hb : b < R) => (hV.block b (by omega) (by omega)).trans (hbW.block b (by omega)))
  have KI : ∀ s n s' V, rdI l s = (n, s') → SrcAt V R v s → Chg (· = R) W V → Calls Tryz.prog 101 #[.pointer (some ⟨R, 0, none⟩)] V fun x w' => x = .returned (.int .i64 n) ∧ SrcAt w' R v s' ∧ Chg (· = R) V w' := fun s n s' V he hs hV => by
    have k := srcInt_any R v l s V hs (hvW V hV)
    rw [he] at k
    exact k
  have KR : ∀ s n s' V, rdR l s = (n, s') → SrcAt V R v s → Chg (· = R) W V → Calls Tryz.prog 128 #[.pointer (some ⟨R, 0, none⟩)] V fun x w' => ∃ u, x = .returned u ∧ RdV w' (fun b => V.heap.size ≤ b ∧ b < w'.heap.size) u n ∧ SrcAt w' R v s' ∧ Chg (· = R) V w' := fun s n s' V he hs hV => by
    have k := srcRow_any R v l s V hs (hvW V hV)
    rw [he] at k
    exact k
  have KP : ∀ s f t s' V, rdP l s = ((f, t), s') → SrcAt V R v s → Chg (· = R) W V → Calls Tryz.prog 129 #[.pointer (some ⟨R, 0, none⟩)] V fun x w' => x = .returned (.agg #[.int .i64 f, .int .i64 t]) ∧ SrcAt w' R v s' ∧ Chg (· = R) V w' := fun s f t s' V he hs hV => by
    have k := srcPeriod_any R v l s V hs (hvW V hV)
    rw [he] at k
    exact k
  have HQ := Lib.hid hQ
  have HbW := Lib.hid hbW
  have HOK := Lib.hid hok
  clear h hv hd hok hvW hQ hbW
  go_enter Tryz.func60, Tryz.ntmps60
  go_wp2_with fail
  rw [← hW]
  clear hW
  refine wp_region_noPanic ?_
  refine wp_region_held_drew (S := (fun _ : World => True)) (by kernel_rfl) ?_ (fun hHeld => ?_)
  · trivial
  refine heldTake 0 (some 3) (v := ?_) rfl rfl (by kernel_rfl) (by kernel_rfl) (by kernel_rfl) (by rfl) hHeld (fun _ _ _ h => h) ?_ ?_
  rotate_left
  · intro w' hSw; (try dsimp only at hSw); go_simp <;> with_reducible rfl
  simp only [Act.put, List.setIfInBounds_toArray, List.set_cons_zero, List.set_cons_succ]
  refine heldTake 1 (some 4) (v := ?_) rfl rfl (by kernel_rfl) (by kernel_rfl) (by kernel_rfl) (by rfl) hHeld (fun _ _ _ h => h) ?_ ?_
  rotate_left
  · intro w' hSw; (try dsimp only at hSw); go_simp <;> with_reducible rfl
  simp only [Act.put, List.setIfInBounds_toArray, List.set_cons_zero, List.set_cons_succ]
  refine heldTake 2 (some 5) (v := ?_) rfl rfl (by kernel_rfl) (by kernel_rfl) (by kernel_rfl) (by rfl) hHeld (fun _ _ _ h => h) ?_ ?_
  rotate_left
  · intro w' hSw; (try dsimp only at hSw); go_simp <;> with_reducible rfl
  simp only [Act.put, List.setIfInBounds_toArray, List.set_cons_zero, List.set_cons_succ]
  refine heldTake 4 (some 7) (v := ?_) rfl rfl (by kernel_rfl) (by kernel_rfl) (by kernel_rfl) (by rfl) hHeld (fun _ _ _ h => h) ?_ ?_
  rotate_left
  · intro w' hSw; (try dsimp only at hSw); go_simp <;> with_reducible rfl
  simp only [Act.put, List.setIfInBounds_toArray, List.set_cons_zero, List.set_cons_succ]
  refine heldTake 5 (some 8) (v := ?_) rfl rfl (by kernel_rfl) (by kernel_rfl) (by kernel_rfl) (by rfl) hHeld (fun _ _ _ h => h) ?_ ?_
  rotate_left
  · intro w' hSw; (try dsimp only at hSw); go_simp <;> with_reducible rfl
  simp only [Act.put, List.setIfInBounds_toArray, List.set_cons_zero, List.set_cons_succ]
  refine heldTake 6 (some 9) (v := ?_) rfl rfl (by kernel_rfl) (by kernel_rfl) (by kernel_rfl) (by rfl) hHeld (fun _ _ _ h => h) ?_ ?_
  rotate_left
  · intro w' hSw; (try dsimp only at hSw); go_simp <;> with_reducible rfl
  simp only [Act.put, List.setIfInBounds_toArray, List.set_cons_zero, List.set_cons_succ]
  refine heldTake 8 (some 11) (v := ?_) rfl rfl (by kernel_rfl) (by kernel_rfl) (by kernel_rfl) (by rfl) hHeld (fun _ _ _ h => h) ?_ ?_
  rotate_left
  · intro w' hSw; (try dsimp only at hSw); go_simp <;> with_reducible rfl
  simp only [Act.put, List.setIfInBounds_toArray, List.set_cons_zero, List.set_cons_succ]
  refine heldTake 9 (some 12) (v := ?_) rfl rfl (by kernel_rfl) (by kernel_rfl) (by kernel_rfl) (by rfl) hHeld (fun _ _ _ h => h) ?_ ?_
  rotate_left
  · intro w' hSw; (try dsimp only at hSw); go_simp <;> with_reducible rfl
  simp only [Act.put, List.setIfInBounds_toArray, List.set_cons_zero, List.set_cons_succ]
  refine heldTake 10 (some 13) (v := ?_) rfl rfl (by kernel_rfl) (by kernel_rfl) (by kernel_rfl) (by rfl) hHeld (fun _ _ _ h => h) ?_ ?_
  rotate_left
  · intro w' hSw; (try dsimp only at hSw); go_simp <;> with_reducible rfl
  simp only [Act.put, List.setIfInBounds_toArray, List.set_cons_zero, List.set_cons_succ]
  refine heldTake 12 (some 15) (v := ?_) rfl rfl (by kernel_rfl) (by kernel_rfl) (by kernel_rfl) (by rfl) hHeld (fun _ _ _ h => h) ?_ ?_
  rotate_left
  · intro w' hSw; (try dsimp only at hSw); go_simp <;> with_reducible rfl
  simp only [Act.put, List.setIfInBounds_toArray, List.set_cons_zero, List.set_cons_succ]
  refine heldTake 13 (some 16) (v := ?_) rfl rfl (by kernel_rfl) (by kernel_rfl) (by kernel_rfl) (by rfl) hHeld (fun _ _ _ h => h) ?_ ?_
  rotate_left
  · intro w' hSw; (try dsimp only at hSw); go_simp <;> with_reducible rfl
  simp only [Act.put, List.setIfInBounds_toArray, List.set_cons_zero, List.set_cons_succ]
  refine heldTake 14 (some 17) (v := ?_) rfl rfl (by kernel_rfl) (by kernel_rfl) (by kernel_rfl) (by rfl) hHeld (fun _ _ _ h => h) ?_ ?_
  rotate_left
  · intro w' hSw; (try dsimp only at hSw); go_simp <;> with_reducible rfl
  simp only [Act.put, List.setIfInBounds_toArray, List.set_cons_zero, List.set_cons_succ]
  refine heldTake 16 (some 19) (v := ?_) rfl rfl (by kernel_rfl) (by kernel_rfl) (by kernel_rfl) (by rfl) hHeld (fun _ _ _ h => h) ?_ ?_
  rotate_left
  · intro w' hSw; (try dsimp only at hSw); go_simp <;> with_reducible rfl
  simp only [Act.put, List.setIfInBounds_toArray, List.set_cons_zero, List.set_cons_succ]
  refine heldTake 17 (some 20) (v := ?_) rfl rfl (by kernel_rfl) (by kernel_rfl) (by kernel_rfl) (by rfl) hHeld (fun _ _ _ h => h) ?_ ?_
  rotate_left
  · intro w' hSw; (try dsimp only at hSw); go_simp <;> with_reducible rfl
  simp only [Act.put, List.setIfInBounds_toArray, List.set_cons_zero, List.set_cons_succ]
  refine heldTake 18 (some 21) (v := ?_) rfl rfl (by kernel_rfl) (by kernel_rfl) (by kernel_rfl) (by rfl) hHeld (fun _ _ _ h => h) ?_ ?_
  rotate_left
  · intro w' hSw; (try dsimp only at hSw); go_simp <;> with_reducible rfl
  simp only [Act.put, List.setIfInBounds_toArray, List.set_cons_zero, List.set_cons_succ]
  refine heldTake 20 (some 23) (v := ?_) rfl rfl (by kernel_rfl) (by kernel_rfl) (by kernel_rfl) (by rfl) hHeld (fun _ _ _ h => h) ?_ ?_
  rotate_left
  · intro w' hSw; (try dsimp only at hSw); go_simp <;> with_reducible rfl
  simp only [Act.put, List.setIfInBounds_toArray, List.set_cons_zero, List.set_cons_succ]
  refine heldTake 21 (some 24) (v := ?_) rfl rfl (by kernel_rfl) (by kernel_rfl) (by kernel_rfl) (by rfl) hHeld (fun _ _ _ h => h) ?_ ?_
  rotate_left
  · intro w' hSw; (try dsimp only at hSw); go_simp <;> with_reducible rfl
  simp only [Act.put, List.setIfInBounds_toArray, List.set_cons_zero, List.set_cons_succ]
  refine heldTake 22 (some 25) (v := ?_) rfl rfl (by kernel_rfl) (by kernel_rfl) (by kernel_rfl) (by rfl) hHeld (fun _ _ _ h => h) ?_ ?_
  rotate_left
  · intro w' hSw; (try dsimp only at hSw); go_simp <;> with_reducible rfl
  simp only [Act.put, List.setIfInBounds_toArray, List.set_cons_zero, List.set_cons_succ]
  refine heldTake 24 (some 27) (v := ?_) rfl rfl (by kernel_rfl) (by kernel_rfl) (by kernel_rfl) (by rfl) hHeld (fun _ _ _ h => h) ?_ ?_
  rotate_left
  · intro w' hSw; (try dsimp only at hSw); go_simp <;> with_reducible rfl
  simp only [Act.put, List.setIfInBounds_toArray, List.set_cons_zero, List.set_cons_succ]
  refine heldTake 25 (some 28) (v := ?_) rfl rfl (by kernel_rfl) (by kernel_rfl) (by kernel_rfl) (by rfl) hHeld (fun _ _ _ h => h) ?_ ?_
  rotate_left
  · intro w' hSw; (try dsimp only at hSw); go_simp <;> with_reducible rfl
  simp only [Act.put, List.setIfInBounds_toArray, List.set_cons_zero, List.set_cons_succ]
  refine heldTake 26 (some 29) (v := ?_) rfl rfl (by kernel_rfl) (by kernel_rfl) (by kernel_rfl) (by rfl) hHeld (fun _ _ _ h => h) ?_ ?_
  rotate_left
  · intro w' hSw; (try dsimp only at hSw); go_simp <;> with_reducible rfl
  simp only [Act.put, List.setIfInBounds_toArray, List.set_cons_zero, List.set_cons_succ]
  refine heldCall 3 (some 6) (f := ?_) (args := ?_) rfl rfl (by kernel_rfl) (by rfl) ?_ ?_
  rotate_left 2
  · go_simp <;> first | (constructor <;> with_reducible rfl) | with_reducible rfl
  (with_reducible refine (KI s n1 s1 _ h1 hS0 hC0).mono ?_)
  rintro _ v1 ⟨rfl, hS1, hD1⟩
  have hC1 : Chg (· = R) W v1 := hC0.trans hD1 (fun _ _ h => h)
  refine ⟨_, rfl, keepAnd ?_ (fun hNew => ?_)⟩
  · trivial
  clear hHeld
  have hHeld := hNew
  clear hNew
  simp only [Act.put, List.setIfInBounds_toArray, List.set_cons_zero, List.set_cons_succ]
  refine heldCall 7 (some 10) (f := ?_) (args := ?_) rfl rfl (by kernel_rfl) (by rfl) ?_ ?_
  rotate_left 2
  · go_simp <;> first | (constructor <;> with_reducible rfl) | with_reducible rfl
  (with_reducible refine (KI s1 n2 s2 _ h2 hS1 hC1).mono ?_)
  rintro _ v2 ⟨rfl, hS2, hD2⟩
  have hC2 : Chg (· = R) W v2 := hC1.trans hD2 (fun _ _ h => h)
  refine ⟨_, rfl, keepAnd ?_ (fun hNew => ?_)⟩
  · trivial
  clear hHeld
  have hHeld := hNew
  clear hNew
  simp only [Act.put, List.setIfInBounds_toArray, List.set_cons_zero, List.set_cons_succ]
  refine heldCall 11 (some 14) (f := ?_) (args := ?_) rfl rfl (by kernel_rfl) (by rfl) ?_ ?_
  rotate_left 2
  · go_simp <;> first | (constructor <;> with_reducible rfl) | with_reducible rfl
  (with_reducible refine (KR s2 xs s3 _ h3 hS2 hC2).mono ?_)
  rintro _ v3 ⟨u, rfl, hU, hS3, hD3⟩
  obtain ⟨Au, cu, rfl, _⟩ := Rd.open_ hU
  have HU := Lib.hid hU
  clear hU
  have hC3 : Chg (· = R) W v3 := hC2.trans hD3 (fun _ _ h => h)
  refine ⟨_, rfl, keepAnd ?_ (fun hNew => ?_)⟩
  · trivial
  clear hHeld
  have hHeld := hNew
  clear hNew
  simp only [Act.put, List.setIfInBounds_toArray, List.set_cons_zero, List.set_cons_succ]
  refine heldCall 15 (some 18) (f := ?_) (args := ?_) rfl rfl (by kernel_rfl) (by rfl) ?_ ?_
  rotate_left 2
  · go_simp <;> first | (constructor <;> with_reducible rfl) | with_reducible rfl
  (with_reducible refine (KP s3 f4 t4 s4 _ h4 hS3 hC3).mono ?_)
  rintro _ v4 ⟨rfl, hS4, hD4⟩
  have hC4 : Chg (· = R) W v4 := hC3.trans hD4 (fun _ _ h => h)
  refine ⟨_, rfl, keepAnd ?_ (fun hNew => ?_)⟩
  · trivial
  clear hHeld
  have hHeld := hNew
  clear hNew
  simp only [Act.put, List.setIfInBounds_toArray, List.set_cons_zero, List.set_cons_succ]
  refine heldCall 19 (some 22) (f := ?_) (args := ?_) rfl rfl (by kernel_rfl) (by rfl) ?_ ?_
  rotate_left 2
  · go_simp <;> first | (constructor <;> with_reducible rfl) | with_reducible rfl
  (with_reducible refine (KP s4 f5 t5 s5 _ h5 hS4 hC4).mono ?_)
  rintro _ v5 ⟨rfl, hS5, hD5⟩
  have hC5 : Chg (· = R) W v5 := hC4.trans hD5 (fun _ _ h => h)
  refine ⟨_, rfl, keepAnd ?_ (fun hNew => ?_)⟩
  · trivial
  clear hHeld
  have hHeld := hNew
  clear hNew
  simp only [Act.put, List.setIfInBounds_toArray, List.set_cons_zero, List.set_cons_succ]
  refine heldCall 23 (some 26) (f := ?_) (args := ?_) rfl rfl (by kernel_rfl) (by rfl) ?_ ?_
  rotate_left 2
  · go_simp <;> first | (constructor <;> with_reducible rfl) | with_reducible rfl
  (with_reducible refine (KI s5 n6 s6 _ h6 hS5 hC5).mono ?_)
  rintro _ v6 ⟨rfl, hS6, hD6⟩
  have hC6 : Chg (· = R) W v6 := hC5.trans hD6 (fun _ _ h => h)
  refine ⟨_, rfl, keepAnd ?_ (fun hNew => ?_)⟩
  · trivial
  clear hHeld
  have hHeld := hNew
  clear hNew
  simp only [Act.put, List.setIfInBounds_toArray, List.set_cons_zero, List.set_cons_succ]
  refine heldCall 27 (some 30) (f := ?_) (args := ?_) rfl rfl (by kernel_rfl) (by rfl) ?_ ?_
  rotate_left 2
  · go_simp <;> first | (constructor <;> with_reducible rfl) | with_reducible rfl
  (with_reducible refine (KI s6 n7 s7 _ h7 hS6 hC6).mono ?_)
  rintro _ v7 ⟨rfl, hS7, hD7⟩
  have hC7 : Chg (· = R) W v7 := hC6.trans hD7 (fun _ _ h => h)
  refine ⟨_, rfl, keepAnd ?_ (fun hNew => ?_)⟩
  · trivial
  clear hHeld
  have hHeld := hNew
  clear hNew
  simp only [Act.put, List.setIfInBounds_toArray, List.set_cons_zero, List.set_cons_succ]
  refine heldTake 28 (some 31) (v := ?_) rfl rfl (by kernel_rfl) (by kernel_rfl) (by kernel_rfl) (by rfl) hHeld (fun _ _ _ h => h) ?_ ?_
  rotate_left
  · intro w' hSw; (try dsimp only at hSw); go_simp <;> with_reducible rfl
  simp only [Act.put, List.setIfInBounds_toArray, List.set_cons_zero, List.set_cons_succ]
  have hNew : (fun _ : World => True) ((((((((((v7.setCell ⟨w.heap.size, 0, none⟩ (.int .i64 n1)).setCell ⟨w.heap.size, 1, none⟩ (.int .i64 n2)).setCell ⟨w.heap.size, 2, none⟩ (.slice Au xs.length cu)).setCell ⟨w.heap.size, 3, none⟩ (.int .i64 f4)).setCell ⟨w.heap.size, 4, none⟩ (.int .i64 t4)).setCell ⟨w.heap.size, 5, none⟩ (.int .i64 f5)).setCell ⟨w.heap.size, 6, none⟩ (.int .i64 t5)).setCell ⟨w.heap.size, 7, none⟩ (.int .i64 n6)).setCell ⟨w.heap.size, 8, none⟩ (.int .i64 n7))) := by trivial
  refine heldSkipRun 29 none (w' := (((((((((v7.setCell ⟨w.heap.size, 0, none⟩ (.int .i64 n1)).setCell ⟨w.heap.size, 1, none⟩ (.int .i64 n2)).setCell ⟨w.heap.size, 2, none⟩ (.slice Au xs.length cu)).setCell ⟨w.heap.size, 3, none⟩ (.int .i64 f4)).setCell ⟨w.heap.size, 4, none⟩ (.int .i64 t4)).setCell ⟨w.heap.size, 5, none⟩ (.int .i64 f5)).setCell ⟨w.heap.size, 6, none⟩ (.int .i64 t5)).setCell ⟨w.heap.size, 7, none⟩ (.int .i64 n6)).setCell ⟨w.heap.size, 8, none⟩ (.int .i64 n7))) rfl rfl (by kernel_rfl) (by rfl) ?_ hNew ?_
  · have hQ7 : v7.heap[w.heap.size]? = some (.cells #[.int .i64 0, .int .i64 0, .slice none 0 0, .int .i64 0, .int .i64 0, .int .i64 0, .int .i64 0, .int .i64 0, .int .i64 0] 61 (0, 0)) := (hC7.block w.heap.size (by omega) (by omega)).trans HQ.out; have p0 : v7.cell? ⟨w.heap.size, 0, none⟩ = some (.int .i64 0) := cell_of_row v7 _ 0 _ _ _ hQ7; have g0 : v7.frozen? ⟨w.heap.size, 0, none⟩ = false := frozen_of_row v7 _ 0 _ _ hQ7; have p1 : v7.cell? ⟨w.heap.size, 1, none⟩ = some (.int .i64 0) := cell_of_row v7 _ 1 _ _ _ hQ7; have g1 : v7.frozen? ⟨w.heap.size, 1, none⟩ = false := frozen_of_row v7 _ 1 _ _ hQ7; have p2 : v7.cell? ⟨w.heap.size, 2, none⟩ = some (.slice none 0 0) := cell_of_row v7 _ 2 _ _ _ hQ7; have g2 : v7.frozen? ⟨w.heap.size, 2, none⟩ = false := frozen_of_row v7 _ 2 _ _ hQ7; have p3 : v7.cell? ⟨w.heap.size, 3, none⟩ = some (.int .i64 0) := cell_of_row v7 _ 3 _ _ _ hQ7; have g3 : v7.frozen? ⟨w.heap.size, 3, none⟩ = false := frozen_of_row v7 _ 3 _ _ hQ7; have p4 : v7.cell? ⟨w.heap.size, 4, none⟩ = some (.int .i64 0) := cell_of_row v7 _ 4 _ _ _ hQ7; have g4 : v7.frozen? ⟨w.heap.size, 4, none⟩ = false := frozen_of_row v7 _ 4 _ _ hQ7; have p5 : v7.cell? ⟨w.heap.size, 5, none⟩ = some (.int .i64 0) := cell_of_row v7 _ 5 _ _ _ hQ7; have g5 : v7.frozen? ⟨w.heap.size, 5, none⟩ = false := frozen_of_row v7 _ 5 _ _ hQ7; have p6 : v7.cell? ⟨w.heap.size, 6, none⟩ = some (.int .i64 0) := cell_of_row v7 _ 6 _ _ _ hQ7; have g6 : v7.frozen? ⟨w.heap.size, 6, none⟩ = false := frozen_of_row v7 _ 6 _ _ hQ7; have p7 : v7.cell? ⟨w.heap.size, 7, none⟩ = some (.int .i64 0) := cell_of_row v7 _ 7 _ _ _ hQ7; have g7 : v7.frozen? ⟨w.heap.size, 7, none⟩ = false := frozen_of_row v7 _ 7 _ _ hQ7; have p8 : v7.cell? ⟨w.heap.size, 8, none⟩ = some (.int .i64 0) := cell_of_row v7 _ 8 _ _ _ hQ7; have g8 : v7.frozen? ⟨w.heap.size, 8, none⟩ = false := frozen_of_row v7 _ 8 _ _ hQ7; go_simp <;> with_reducible rfl
  clear hHeld
  have hHeld := hNew
  clear hNew
  simp only [Act.put]
  refine wpAnyH_done (by kernel_rfl) ?_ _
  refine NoPanic.normal ?_
  clear hHeld
  have hQ7 : v7.heap[w.heap.size]? = some (.cells #[.int .i64 0, .int .i64 0, .slice none 0 0, .int .i64 0, .int .i64 0, .int .i64 0, .int .i64 0, .int .i64 0, .int .i64 0] 61 (0, 0)) := (hC7.block w.heap.size (by omega) (by omega)).trans HQ.out
  have hY9 := nine_set hQ7 (.int .i64 n1) (.int .i64 n2) (.slice Au xs.length cu) (.int .i64 f4) (.int .i64 t4) (.int .i64 f5) (.int .i64 t5) (.int .i64 n6) (.int .i64 n7)
  have hYc := nine_chg v7 w.heap.size (.int .i64 n1) (.int .i64 n2) (.slice Au xs.length cu) (.int .i64 f4) (.int .i64 t4) (.int .i64 f5) (.int .i64 t5) (.int .i64 n6) (.int .i64 n7)
  generalize (((((((((v7.setCell ⟨w.heap.size, 0, none⟩ (.int .i64 n1)).setCell ⟨w.heap.size, 1, none⟩ (.int .i64 n2)).setCell ⟨w.heap.size, 2, none⟩ (.slice Au xs.length cu)).setCell ⟨w.heap.size, 3, none⟩ (.int .i64 f4)).setCell ⟨w.heap.size, 4, none⟩ (.int .i64 t4)).setCell ⟨w.heap.size, 5, none⟩ (.int .i64 f5)).setCell ⟨w.heap.size, 6, none⟩ (.int .i64 t5)).setCell ⟨w.heap.size, 7, none⟩ (.int .i64 n6)).setCell ⟨w.heap.size, 8, none⟩ (.int .i64 n7)) = Y at *
  have p0 : Y.cell? ⟨w.heap.size, 0, none⟩ = some (.int .i64 n1) := cell_of_row Y _ 0 _ _ _ hY9; have p1 : Y.cell? ⟨w.heap.size, 1, none⟩ = some (.int .i64 n2) := cell_of_row Y _ 1 _ _ _ hY9; have p2 : Y.cell? ⟨w.heap.size, 2, none⟩ = some (.slice Au xs.length cu) := cell_of_row Y _ 2 _ _ _ hY9; have p3 : Y.cell? ⟨w.heap.size, 3, none⟩ = some (.int .i64 f4) := cell_of_row Y _ 3 _ _ _ hY9; have p4 : Y.cell? ⟨w.heap.size, 4, none⟩ = some (.int .i64 t4) := cell_of_row Y _ 4 _ _ _ hY9; have p5 : Y.cell? ⟨w.heap.size, 5, none⟩ = some (.int .i64 f5) := cell_of_row Y _ 5 _ _ _ hY9; have p6 : Y.cell? ⟨w.heap.size, 6, none⟩ = some (.int .i64 t5) := cell_of_row Y _ 6 _ _ _ hY9; have p7 : Y.cell? ⟨w.heap.size, 7, none⟩ = some (.int .i64 n6) := cell_of_row Y _ 7 _ _ _ hY9; have p8 : Y.cell? ⟨w.heap.size, 8, none⟩ = some (.int .i64 n7) := cell_of_row Y _ 8 _ _ _ hY9
  have hD37 : Chg (· = R) v3 v7 := (((hD4.trans hD5 (fun _ _ h => h)).trans hD6 (fun _ _ h => h)).trans hD7 (fun _ _ h => h))
  have hz3 := hD3.size
  have hz7 := hD37.size
  have hzY := hYc.size
  have hzd : v2.heap.size ≥ W.heap.size := hC2.size
  have hRow : RdV Y (fun b => w.heap.size ≤ b ∧ b < Y.heap.size) (.slice Au xs.length cu) xs := (Rd.keep HU.out (fun b (hb : v2.heap.size ≤ b ∧ b < v3.heap.size) => (hYc.block b (by omega) (by show b ≠ w.heap.size; omega)).trans (hD37.block b hb.2 (by show b ≠ R; omega)))).wide (fun b (hb : v2.heap.size ≤ b ∧ b < v3.heap.size) => ⟨by omega, by omega⟩)
  have hSY : SrcAt Y R v s7 := (hYc.block R (by have := hS7.lt; exact this) (by show R ≠ w.heap.size; omega)).trans hS7
  have hCY : Chg (· = R) w Y := ((Chg.of_below HbW.out _).trans hC7 (fun _ _ h => h)).trans hYc (fun i hi (h : i = w.heap.size) => by omega)
  have HRow := Lib.hid hRow
  have HSY := Lib.hid hSY
  have HCY := Lib.hid hCY
  clear hRow hSY hCY hQ7 hY9 hYc hS0 hC0 hS1 hC1 hD1 hS2 hC2 hD2 hS3 hC3 hD3 hS4 hC4 hD4 hS5 hC5 hD5 hS6 hC6 hD6 hS7 hC7 hD7 hD37
  go_wp2_with fail
  exact bodyPost_ret (v := .agg (⟨n1, n2, Au, xs.length, cu, f4, t4, f5, t5, n6, n7⟩ : RV).enc.toArray) (by simp [results, Tryz.results60, RV.enc, go_sem, p0, p1, p2, p3, p4, p5, p6, p7, p8]) rfl ⟨(⟨n1, n2, Au, xs.length, cu, f4, t4, f5, t5, n6, n7⟩ : RV), rfl, ⟨rfl, rfl, rfl, rfl, rfl, rfl, rfl, rfl, HRow.out, HOK.out⟩, HSY.out, HCY.out⟩

def endE (s : Int × Int) (n : Nat) : Int := if s.2 = 0 ∧ s.1 < n then 3 else s.2
set_option maxRecDepth 1000000 in
set_option maxHeartbeats 4000000 in
theorem srcEnd_any (R : Nat) (v : Value) (l : List UInt8) (s : Int × Int) (w : World) (h : SrcAt w R v s) (hv : RdB w (· < R) v l) :
    Calls Tryz.prog 61 #[.pointer (some ⟨R, 0, none⟩)] w fun x w' => x = .returned (.int .i64 (endE s l.length)) ∧ Below w.heap.size w w' := by
  obtain ⟨k, er⟩ := s
  have hR := h.lt
  obtain ⟨Av, cv, rfl, y1, y2, y3⟩ := Rd.open_ hv
  have c0 : w.cell? ⟨R, 0, none⟩ = some (.slice Av l.length cv) := cell_of_row w R 0 _ _ _ h
  have c1 : w.cell? ⟨R, 1, none⟩ = some (.int .i64 k) := cell_of_row w R 1 _ _ _ h
  have c2 : w.cell? ⟨R, 2, none⟩ = some (.int .i64 er) := cell_of_row w R 2 _ _ _ h
  clear h hv y3 y2
  by_cases he : er = 0
  case pos =>
    subst he
    by_cases hk : k < (l.length : Int)
    case pos =>
      rw [show endE (k, 0) l.length = 3 from if_pos ⟨rfl, hk⟩]
      go_enter Tryz.func61, Tryz.ntmps61
      go_wp2_with fail
      refine wp_region_noPanic ?_
      refine wp_region_held_drew (S := (fun w' => Below w.heap.size w w')) (by kernel_rfl) ?_ (fun hHeld => ?_)
      · exact (Below.refl _ _).drew
      refine heldTake 0 (some 3) (v := ?_) rfl rfl (by kernel_rfl) (by kernel_rfl) (by kernel_rfl) (by rfl) hHeld (fun _ _ _ h => h) ?_ ?_
      rotate_left
      · intro w' hSw; (try dsimp only at hSw); go_simp <;> with_reducible rfl
      simp only [Act.put, List.setIfInBounds_toArray, List.set_cons_zero, List.set_cons_succ]
      refine heldTake 1 (some 4) (v := ?_) rfl rfl (by kernel_rfl) (by kernel_rfl) (by kernel_rfl) (by rfl) hHeld (fun _ _ _ h => h) ?_ ?_
      rotate_left
      · intro w' hSw; (try dsimp only at hSw); go_simp <;> with_reducible rfl
      simp only [Act.put, List.setIfInBounds_toArray, List.set_cons_zero, List.set_cons_succ]
      refine heldTake 2 (some 5) (v := ?_) rfl rfl (by kernel_rfl) (by kernel_rfl) (by kernel_rfl) (by rfl) hHeld (fun _ _ _ h => h) ?_ ?_
      rotate_left
      · intro w' hSw; (try dsimp only at hSw); go_simp <;> with_reducible rfl
      simp only [Act.put, List.setIfInBounds_toArray, List.set_cons_zero, List.set_cons_succ]
      refine heldTake 3 (some 6) (v := ?_) rfl rfl (by kernel_rfl) (by kernel_rfl) (by kernel_rfl) (by rfl) hHeld (fun _ _ _ h => h) ?_ ?_
      rotate_left
      · intro w' hSw; (try dsimp only at hSw); have q0 := (World.cell?_of_block (w := w) (a := ⟨R, 2, none⟩) (hSw.block R hR)).trans c2; go_simp <;> with_reducible rfl
      simp only [Act.put, List.setIfInBounds_toArray, List.set_cons_zero, List.set_cons_succ]
      refine heldTake 4 (some 7) (v := ?_) rfl rfl (by kernel_rfl) (by kernel_rfl) (by kernel_rfl) (by rfl) hHeld (fun _ _ _ h => h) ?_ ?_
      rotate_left
      · intro w' hSw; (try dsimp only at hSw); go_simp <;> with_reducible rfl
      simp only [Act.put, List.setIfInBounds_toArray, List.set_cons_zero, List.set_cons_succ]
      refine heldTake 5 (some 8) (v := ?_) rfl rfl (by kernel_rfl) (by kernel_rfl) (by kernel_rfl) (by rfl) hHeld (fun _ _ _ h => h) ?_ ?_
      rotate_left
      · intro w' hSw; (try dsimp only at hSw); go_simp <;> with_reducible rfl
      simp only [Act.put, List.setIfInBounds_toArray, List.set_cons_zero, List.set_cons_succ]
      refine heldTake 6 (some 9) (v := ?_) rfl rfl (by kernel_rfl) (by kernel_rfl) (by kernel_rfl) (by rfl) hHeld (fun _ _ _ h => h) ?_ ?_
      rotate_left
      · intro w' hSw; (try dsimp only at hSw); go_simp <;> with_reducible rfl
      simp only [Act.put, List.setIfInBounds_toArray, List.set_cons_zero, List.set_cons_succ]
      refine heldTake 7 (some 10) (v := ?_) rfl rfl (by kernel_rfl) (by kernel_rfl) (by kernel_rfl) (by rfl) hHeld (fun _ _ _ h => h) ?_ ?_
      rotate_left
      · intro w' hSw; (try dsimp only at hSw); go_simp <;> with_reducible rfl
      simp only [Act.put, List.setIfInBounds_toArray, List.set_cons_zero, List.set_cons_succ]
      refine heldTake 8 (some 11) (v := ?_) rfl rfl (by kernel_rfl) (by kernel_rfl) (by kernel_rfl) (by rfl) hHeld (fun _ _ _ h => h) ?_ ?_
      rotate_left
      · intro w' hSw; (try dsimp only at hSw); go_simp <;> with_reducible rfl
      simp only [Act.put, List.setIfInBounds_toArray, List.set_cons_zero, List.set_cons_succ]
      refine heldTake 9 (some 12) (v := ?_) rfl rfl (by kernel_rfl) (by kernel_rfl) (by kernel_rfl) (by rfl) hHeld (fun _ _ _ h => h) ?_ ?_
      rotate_left
      · intro w' hSw; (try dsimp only at hSw); have q0 := (World.cell?_of_block (w := w) (a := ⟨R, 1, none⟩) (hSw.block R hR)).trans c1; go_simp <;> with_reducible rfl
      simp only [Act.put, List.setIfInBounds_toArray, List.set_cons_zero, List.set_cons_succ]
      refine heldTake 10 (some 13) (v := ?_) rfl rfl (by kernel_rfl) (by kernel_rfl) (by kernel_rfl) (by rfl) hHeld (fun _ _ _ h => h) ?_ ?_
      rotate_left
      · intro w' hSw; (try dsimp only at hSw); go_simp <;> with_reducible rfl
      simp only [Act.put, List.setIfInBounds_toArray, List.set_cons_zero, List.set_cons_succ]
      refine heldTake 11 (some 14) (v := ?_) rfl rfl (by kernel_rfl) (by kernel_rfl) (by kernel_rfl) (by rfl) hHeld (fun _ _ _ h => h) ?_ ?_
      rotate_left
      · intro w' hSw; (try dsimp only at hSw); go_simp <;> with_reducible rfl
      simp only [Act.put, List.setIfInBounds_toArray, List.set_cons_zero, List.set_cons_succ]
      refine heldTake 12 (some 15) (v := ?_) rfl rfl (by kernel_rfl) (by kernel_rfl) (by kernel_rfl) (by rfl) hHeld (fun _ _ _ h => h) ?_ ?_
      rotate_left
      · intro w' hSw; (try dsimp only at hSw); go_simp <;> with_reducible rfl
      simp only [Act.put, List.setIfInBounds_toArray, List.set_cons_zero, List.set_cons_succ]
      refine heldTake 13 (some 16) (v := ?_) rfl rfl (by kernel_rfl) (by kernel_rfl) (by kernel_rfl) (by rfl) hHeld (fun _ _ _ h => h) ?_ ?_
      rotate_left
      · intro w' hSw; (try dsimp only at hSw); have q0 := (World.cell?_of_block (w := w) (a := ⟨R, 0, none⟩) (hSw.block R hR)).trans c0; go_simp <;> with_reducible rfl
      simp only [Act.put, List.setIfInBounds_toArray, List.set_cons_zero, List.set_cons_succ]
      refine heldTake 14 (some 17) (v := ?_) rfl rfl (by kernel_rfl) (by kernel_rfl) (by kernel_rfl) (by rfl) hHeld (fun _ _ _ h => h) ?_ ?_
      rotate_left
      · intro w' hSw; (try dsimp only at hSw); go_simp <;> with_reducible rfl
      simp only [Act.put, List.setIfInBounds_toArray, List.set_cons_zero, List.set_cons_succ]
      refine heldTake 15 (some 18) (v := ?_) rfl rfl (by kernel_rfl) (by kernel_rfl) (by kernel_rfl) (by rfl) hHeld (fun _ _ _ h => h) ?_ ?_
      rotate_left
      · intro w' hSw; (try dsimp only at hSw); go_simp <;> with_reducible rfl
      simp only [Act.put, List.setIfInBounds_toArray, List.set_cons_zero, List.set_cons_succ]
      refine heldTake 16 (some 19) (v := ?_) rfl rfl (by kernel_rfl) (by kernel_rfl) (by kernel_rfl) (by rfl) hHeld (fun _ _ _ h => h) ?_ ?_
      rotate_left
      · intro w' hSw; (try dsimp only at hSw); go_simp <;> with_reducible rfl
      simp only [Act.put, List.setIfInBounds_toArray, List.set_cons_zero, List.set_cons_succ]
      refine wpAnyH_done (by kernel_rfl) ?_ _
      refine NoPanic.normal ?_
      clear hHeld
      go_wp2_with fail
      go_ret
      exact ⟨rfl, (Below.refl _ _).drew⟩
    case neg =>
      rw [show endE (k, 0) l.length = 0 from if_neg (fun h => hk h.2)]
      go_enter Tryz.func61, Tryz.ntmps61
      go_wp2_with fail
      refine wp_region_noPanic ?_
      refine wp_region_held_drew (S := (fun w' => Below w.heap.size w w')) (by kernel_rfl) ?_ (fun hHeld => ?_)
      · exact (Below.refl _ _).drew
      refine heldTake 0 (some 3) (v := ?_) rfl rfl (by kernel_rfl) (by kernel_rfl) (by kernel_rfl) (by rfl) hHeld (fun _ _ _ h => h) ?_ ?_
      rotate_left
      · intro w' hSw; (try dsimp only at hSw); go_simp <;> with_reducible rfl
      simp only [Act.put, List.setIfInBounds_toArray, List.set_cons_zero, List.set_cons_succ]
      refine heldTake 1 (some 4) (v := ?_) rfl rfl (by kernel_rfl) (by kernel_rfl) (by kernel_rfl) (by rfl) hHeld (fun _ _ _ h => h) ?_ ?_
      rotate_left
      · intro w' hSw; (try dsimp only at hSw); go_simp <;> with_reducible rfl
      simp only [Act.put, List.setIfInBounds_toArray, List.set_cons_zero, List.set_cons_succ]
      refine heldTake 2 (some 5) (v := ?_) rfl rfl (by kernel_rfl) (by kernel_rfl) (by kernel_rfl) (by rfl) hHeld (fun _ _ _ h => h) ?_ ?_
      rotate_left
      · intro w' hSw; (try dsimp only at hSw); go_simp <;> with_reducible rfl
      simp only [Act.put, List.setIfInBounds_toArray, List.set_cons_zero, List.set_cons_succ]
      refine heldTake 3 (some 6) (v := ?_) rfl rfl (by kernel_rfl) (by kernel_rfl) (by kernel_rfl) (by rfl) hHeld (fun _ _ _ h => h) ?_ ?_
      rotate_left
      · intro w' hSw; (try dsimp only at hSw); have q0 := (World.cell?_of_block (w := w) (a := ⟨R, 2, none⟩) (hSw.block R hR)).trans c2; go_simp <;> with_reducible rfl
      simp only [Act.put, List.setIfInBounds_toArray, List.set_cons_zero, List.set_cons_succ]
      refine heldTake 4 (some 7) (v := ?_) rfl rfl (by kernel_rfl) (by kernel_rfl) (by kernel_rfl) (by rfl) hHeld (fun _ _ _ h => h) ?_ ?_
      rotate_left
      · intro w' hSw; (try dsimp only at hSw); go_simp <;> with_reducible rfl
      simp only [Act.put, List.setIfInBounds_toArray, List.set_cons_zero, List.set_cons_succ]
      refine heldTake 5 (some 8) (v := ?_) rfl rfl (by kernel_rfl) (by kernel_rfl) (by kernel_rfl) (by rfl) hHeld (fun _ _ _ h => h) ?_ ?_
      rotate_left
      · intro w' hSw; (try dsimp only at hSw); go_simp <;> with_reducible rfl
      simp only [Act.put, List.setIfInBounds_toArray, List.set_cons_zero, List.set_cons_succ]
      refine heldTake 6 (some 9) (v := ?_) rfl rfl (by kernel_rfl) (by kernel_rfl) (by kernel_rfl) (by rfl) hHeld (fun _ _ _ h => h) ?_ ?_
      rotate_left
      · intro w' hSw; (try dsimp only at hSw); go_simp <;> with_reducible rfl
      simp only [Act.put, List.setIfInBounds_toArray, List.set_cons_zero, List.set_cons_succ]
      refine heldTake 7 (some 10) (v := ?_) rfl rfl (by kernel_rfl) (by kernel_rfl) (by kernel_rfl) (by rfl) hHeld (fun _ _ _ h => h) ?_ ?_
      rotate_left
      · intro w' hSw; (try dsimp only at hSw); go_simp <;> with_reducible rfl
      simp only [Act.put, List.setIfInBounds_toArray, List.set_cons_zero, List.set_cons_succ]
      refine heldTake 8 (some 11) (v := ?_) rfl rfl (by kernel_rfl) (by kernel_rfl) (by kernel_rfl) (by rfl) hHeld (fun _ _ _ h => h) ?_ ?_
      rotate_left
      · intro w' hSw; (try dsimp only at hSw); go_simp <;> with_reducible rfl
      simp only [Act.put, List.setIfInBounds_toArray, List.set_cons_zero, List.set_cons_succ]
      refine heldTake 9 (some 12) (v := ?_) rfl rfl (by kernel_rfl) (by kernel_rfl) (by kernel_rfl) (by rfl) hHeld (fun _ _ _ h => h) ?_ ?_
      rotate_left
      · intro w' hSw; (try dsimp only at hSw); have q0 := (World.cell?_of_block (w := w) (a := ⟨R, 1, none⟩) (hSw.block R hR)).trans c1; go_simp <;> with_reducible rfl
      simp only [Act.put, List.setIfInBounds_toArray, List.set_cons_zero, List.set_cons_succ]
      refine heldTake 10 (some 13) (v := ?_) rfl rfl (by kernel_rfl) (by kernel_rfl) (by kernel_rfl) (by rfl) hHeld (fun _ _ _ h => h) ?_ ?_
      rotate_left
      · intro w' hSw; (try dsimp only at hSw); go_simp <;> with_reducible rfl
      simp only [Act.put, List.setIfInBounds_toArray, List.set_cons_zero, List.set_cons_succ]
      refine heldTake 11 (some 14) (v := ?_) rfl rfl (by kernel_rfl) (by kernel_rfl) (by kernel_rfl) (by rfl) hHeld (fun _ _ _ h => h) ?_ ?_
      rotate_left
      · intro w' hSw; (try dsimp only at hSw); go_simp <;> with_reducible rfl
      simp only [Act.put, List.setIfInBounds_toArray, List.set_cons_zero, List.set_cons_succ]
      refine heldTake 12 (some 15) (v := ?_) rfl rfl (by kernel_rfl) (by kernel_rfl) (by kernel_rfl) (by rfl) hHeld (fun _ _ _ h => h) ?_ ?_
      rotate_left
      · intro w' hSw; (try dsimp only at hSw); go_simp <;> with_reducible rfl
      simp only [Act.put, List.setIfInBounds_toArray, List.set_cons_zero, List.set_cons_succ]
      refine heldTake 13 (some 16) (v := ?_) rfl rfl (by kernel_rfl) (by kernel_rfl) (by kernel_rfl) (by rfl) hHeld (fun _ _ _ h => h) ?_ ?_
      rotate_left
      · intro w' hSw; (try dsimp only at hSw); have q0 := (World.cell?_of_block (w := w) (a := ⟨R, 0, none⟩) (hSw.block R hR)).trans c0; go_simp <;> with_reducible rfl
      simp only [Act.put, List.setIfInBounds_toArray, List.set_cons_zero, List.set_cons_succ]
      refine heldTake 14 (some 17) (v := ?_) rfl rfl (by kernel_rfl) (by kernel_rfl) (by kernel_rfl) (by rfl) hHeld (fun _ _ _ h => h) ?_ ?_
      rotate_left
      · intro w' hSw; (try dsimp only at hSw); go_simp <;> with_reducible rfl
      simp only [Act.put, List.setIfInBounds_toArray, List.set_cons_zero, List.set_cons_succ]
      refine heldTake 15 (some 18) (v := ?_) rfl rfl (by kernel_rfl) (by kernel_rfl) (by kernel_rfl) (by rfl) hHeld (fun _ _ _ h => h) ?_ ?_
      rotate_left
      · intro w' hSw; (try dsimp only at hSw); go_simp <;> with_reducible rfl
      simp only [Act.put, List.setIfInBounds_toArray, List.set_cons_zero, List.set_cons_succ]
      refine heldTake 16 (some 19) (v := ?_) rfl rfl (by kernel_rfl) (by kernel_rfl) (by kernel_rfl) (by rfl) hHeld (fun _ _ _ h => h) ?_ ?_
      rotate_left
      · intro w' hSw; (try dsimp only at hSw); go_simp <;> with_reducible rfl
      simp only [Act.put, List.setIfInBounds_toArray, List.set_cons_zero, List.set_cons_succ]
      refine wpAnyH_done (by kernel_rfl) ?_ _
      refine NoPanic.normal ?_
      clear hHeld
      go_wp2_with fail
      go_ret
      exact ⟨rfl, (Below.refl _ _).drew⟩
  case neg =>
    rw [show endE (k, er) l.length = er from if_neg (fun h => he h.1)]
    have he1 : (er == 0) = false := by simpa using he
    have he2 : decide (er = 0) = false := by simpa using he
    go_enter Tryz.func61, Tryz.ntmps61
    go_wp2_with fail
    refine wp_region_noPanic ?_
    refine wp_region_held_drew (S := (fun w' => Below w.heap.size w w')) (by kernel_rfl) ?_ (fun hHeld => ?_)
    · exact (Below.refl _ _).drew
    refine heldTake 0 (some 3) (v := ?_) rfl rfl (by kernel_rfl) (by kernel_rfl) (by kernel_rfl) (by rfl) hHeld (fun _ _ _ h => h) ?_ ?_
    rotate_left
    · intro w' hSw; (try dsimp only at hSw); go_simp <;> with_reducible rfl
    simp only [Act.put, List.setIfInBounds_toArray, List.set_cons_zero, List.set_cons_succ]
    refine heldTake 1 (some 4) (v := ?_) rfl rfl (by kernel_rfl) (by kernel_rfl) (by kernel_rfl) (by rfl) hHeld (fun _ _ _ h => h) ?_ ?_
    rotate_left
    · intro w' hSw; (try dsimp only at hSw); go_simp <;> with_reducible rfl
    simp only [Act.put, List.setIfInBounds_toArray, List.set_cons_zero, List.set_cons_succ]
    refine heldTake 2 (some 5) (v := ?_) rfl rfl (by kernel_rfl) (by kernel_rfl) (by kernel_rfl) (by rfl) hHeld (fun _ _ _ h => h) ?_ ?_
    rotate_left
    · intro w' hSw; (try dsimp only at hSw); go_simp <;> with_reducible rfl
    simp only [Act.put, List.setIfInBounds_toArray, List.set_cons_zero, List.set_cons_succ]
    refine heldTake 3 (some 6) (v := ?_) rfl rfl (by kernel_rfl) (by kernel_rfl) (by kernel_rfl) (by rfl) hHeld (fun _ _ _ h => h) ?_ ?_
    rotate_left
    · intro w' hSw; (try dsimp only at hSw); have q0 := (World.cell?_of_block (w := w) (a := ⟨R, 2, none⟩) (hSw.block R hR)).trans c2; go_simp <;> with_reducible rfl
    simp only [Act.put, List.setIfInBounds_toArray, List.set_cons_zero, List.set_cons_succ]
    refine heldTake 4 (some 7) (v := ?_) rfl rfl (by kernel_rfl) (by kernel_rfl) (by kernel_rfl) (by rfl) hHeld (fun _ _ _ h => h) ?_ ?_
    rotate_left
    · intro w' hSw; (try dsimp only at hSw); go_simp <;> with_reducible rfl
    simp only [Act.put, List.setIfInBounds_toArray, List.set_cons_zero, List.set_cons_succ]
    refine heldTake 5 (some 8) (v := ?_) rfl rfl (by kernel_rfl) (by kernel_rfl) (by kernel_rfl) (by rfl) hHeld (fun _ _ _ h => h) ?_ ?_
    rotate_left
    · intro w' hSw; (try dsimp only at hSw); go_simp <;> with_reducible rfl
    simp only [Act.put, List.setIfInBounds_toArray, List.set_cons_zero, List.set_cons_succ]
    refine heldSkip 6 (some 9) rfl rfl (by kernel_rfl) (by kernel_rfl) (by kernel_rfl) (by rfl) hHeld (fun _ _ _ h => h) ?_
    simp only [Act.put, List.setIfInBounds_toArray, List.set_cons_zero, List.set_cons_succ]
    refine heldSkip 7 (some 10) rfl rfl (by kernel_rfl) (by kernel_rfl) (by kernel_rfl) (by rfl) hHeld (fun _ _ _ h => h) ?_
    simp only [Act.put, List.setIfInBounds_toArray, List.set_cons_zero, List.set_cons_succ]
    refine heldSkip 8 (some 11) rfl rfl (by kernel_rfl) (by kernel_rfl) (by kernel_rfl) (by rfl) hHeld (fun _ _ _ h => h) ?_
    simp only [Act.put, List.setIfInBounds_toArray, List.set_cons_zero, List.set_cons_succ]
    refine heldSkip 9 (some 12) rfl rfl (by kernel_rfl) (by kernel_rfl) (by kernel_rfl) (by rfl) hHeld (fun _ _ _ h => h) ?_
    simp only [Act.put, List.setIfInBounds_toArray, List.set_cons_zero, List.set_cons_succ]
    refine heldSkip 10 (some 13) rfl rfl (by kernel_rfl) (by kernel_rfl) (by kernel_rfl) (by rfl) hHeld (fun _ _ _ h => h) ?_
    simp only [Act.put, List.setIfInBounds_toArray, List.set_cons_zero, List.set_cons_succ]
    refine heldSkip 11 (some 14) rfl rfl (by kernel_rfl) (by kernel_rfl) (by kernel_rfl) (by rfl) hHeld (fun _ _ _ h => h) ?_
    simp only [Act.put, List.setIfInBounds_toArray, List.set_cons_zero, List.set_cons_succ]
    refine heldSkip 12 (some 15) rfl rfl (by kernel_rfl) (by kernel_rfl) (by kernel_rfl) (by rfl) hHeld (fun _ _ _ h => h) ?_
    simp only [Act.put, List.setIfInBounds_toArray, List.set_cons_zero, List.set_cons_succ]
    refine heldSkip 13 (some 16) rfl rfl (by kernel_rfl) (by kernel_rfl) (by kernel_rfl) (by rfl) hHeld (fun _ _ _ h => h) ?_
    simp only [Act.put, List.setIfInBounds_toArray, List.set_cons_zero, List.set_cons_succ]
    refine heldSkip 14 (some 17) rfl rfl (by kernel_rfl) (by kernel_rfl) (by kernel_rfl) (by rfl) hHeld (fun _ _ _ h => h) ?_
    simp only [Act.put, List.setIfInBounds_toArray, List.set_cons_zero, List.set_cons_succ]
    refine heldSkip 15 (some 18) rfl rfl (by kernel_rfl) (by kernel_rfl) (by kernel_rfl) (by rfl) hHeld (fun _ _ _ h => h) ?_
    simp only [Act.put, List.setIfInBounds_toArray, List.set_cons_zero, List.set_cons_succ]
    refine heldTake 16 (some 19) (v := ?_) rfl rfl (by kernel_rfl) (by kernel_rfl) (by kernel_rfl) (by rfl) hHeld (fun _ _ _ h => h) ?_ ?_
    rotate_left
    · intro w' hSw; (try dsimp only at hSw); go_simp <;> with_reducible rfl
    simp only [Act.put, List.setIfInBounds_toArray, List.set_cons_zero, List.set_cons_succ]
    refine wpAnyH_done (by kernel_rfl) ?_ _
    refine NoPanic.normal ?_
    clear hHeld
    go_wp2_with fail
    go_ret
    exact ⟨rfl, (Below.refl _ _).drew⟩
end Go.Proofs.YtacjiocffbgkkaaGreat
