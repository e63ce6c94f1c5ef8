/-
 WkE
-/
import Derived.Test.YtbfdegkickjbpaaGreatSWkD
namespace Go.Proofs.YtbfdegkickjbpaaGreat
open Go.RowKit Go.Lib Go.IntWalk Go.Sort Go.Shelf
theorem ten_set {w : World} {T : Nat} {a0 a1 a2 a3 a4 a5 a6 a7 a8 a9 : Value} {e : TypeId} (h : w.heap[T]? = some (.cells #[a0, a1, a2, a3, a4, a5, a6, a7, a8, a9] e (0, 0))) (c0 c1 c2 c3 c4 c5 c6 c7 c8 c9 : Value) :
  ((((((((((w.setCell ⟨T, 0, none⟩ c0).setCell ⟨T, 1, none⟩ c1).setCell ⟨T, 2, none⟩ c2).setCell ⟨T, 3, none⟩ c3).setCell ⟨T, 4, none⟩ c4).setCell ⟨T, 5, none⟩ c5).setCell ⟨T, 6, none⟩ c6).setCell ⟨T, 7, none⟩ c7).setCell ⟨T, 8, none⟩ c8).setCell ⟨T, 9, none⟩ c9).heap[T]? = some (.cells #[c0, c1, c2, c3, c4, c5, c6, c7, c8, c9] e (0, 0)) := by
 have h0 := heap_setCell_same w T 0 _ _ c0 h
 have h1 := heap_setCell_same _ T 1 _ _ c1 h0
 have h2 := heap_setCell_same _ T 2 _ _ c2 h1
 have h3 := heap_setCell_same _ T 3 _ _ c3 h2
 have h4 := heap_setCell_same _ T 4 _ _ c4 h3
 have h5 := heap_setCell_same _ T 5 _ _ c5 h4
 have h6 := heap_setCell_same _ T 6 _ _ c6 h5
 have h7 := heap_setCell_same _ T 7 _ _ c7 h6
 have h8 := heap_setCell_same _ T 8 _ _ c8 h7
 have h9 := heap_setCell_same _ T 9 _ _ c9 h8
 simpa using h9
theorem ten_chg (w : World) (T : Nat) (c0 c1 c2 c3 c4 c5 c6 c7 c8 c9 : Value) : Chg (· = T) w ((((((((((w.setCell ⟨T, 0, none⟩ c0).setCell ⟨T, 1, none⟩ c1).setCell ⟨T, 2, none⟩ c2).setCell ⟨T, 3, none⟩ c3).setCell ⟨T, 4, none⟩ c4).setCell ⟨T, 5, none⟩ c5).setCell ⟨T, 6, none⟩ c6).setCell ⟨T, 7, none⟩ c7).setCell ⟨T, 8, none⟩ c8).setCell ⟨T, 9, none⟩ c9) :=
 ((((((((((Chg.refl (· = T) w).setCell (p := ⟨T, 0, none⟩) (.inl rfl) c0).setCell (p := ⟨T, 1, none⟩) (.inl rfl) c1).setCell (p := ⟨T, 2, none⟩) (.inl rfl) c2).setCell (p := ⟨T, 3, none⟩) (.inl rfl) c3).setCell (p := ⟨T, 4, none⟩) (.inl rfl) c4).setCell (p := ⟨T, 5, none⟩) (.inl rfl) c5).setCell (p := ⟨T, 6, none⟩) (.inl rfl) c6).setCell (p := ⟨T, 7, none⟩) (.inl rfl) c7).setCell (p := ⟨T, 8, none⟩) (.inl rfl) c8).setCell (p := ⟨T, 9, none⟩) (.inl rfl) c9
set_option maxRecDepth 1000000 in
set_option maxHeartbeats 32000000 in
theorem decNil (v : Value) (w : World) (hv : RdB w (· < w.heap.size) v [2, 10, 10, 2, 0, 0, 0, 0, 0, 0]) : Calls Tryz.prog 17 #[v] w fun e w' => e = .returned (.tuple #[.agg #[.int .i64 1, .int .i64 5, .int .i64 5, .int .i64 1, .slice none 0 0, .slice none 0 0, .slice none 0 0, .slice none 0 0, .slice none 0 0, .slice none 0 0], .int .i64 0]) ∧ Below w.heap.size w w' := by
 obtain ⟨Av, cv, rfl, y1, y2, y3⟩ := Rd.open_ hv
 obtain ⟨W0, hW0⟩ : ∃ W0, W0 = w.alloc (.cells #[.int .i64 0, .int .i64 0, .int .i64 0, .int .i64 0, .slice none 0 0, .slice none 0 0, .slice none 0 0, .slice none 0 0, .slice none 0 0, .slice none 0 0] 29) := ⟨_, rfl⟩
 obtain ⟨W, hW⟩ : ∃ W, W = W0.alloc (.cells #[.slice Av 10 cv, .int .i64 0, .int .i64 0] 130) := ⟨_, rfl⟩
 obtain ⟨R, hR⟩ : ∃ R, R = W0.heap.size := ⟨_, rfl⟩
 have hb0 : Below w.heap.size w W0 := by rw [hW0]; exact Below.of_alloc _
 have hz0 : W0.heap.size = w.heap.size + 1 := by rw [hW0]; simp
 have hbZ0 : W0.heap[w.heap.size]? = some (.cells #[.int .i64 0, .int .i64 0, .int .i64 0, .int .i64 0, .slice none 0 0, .slice none 0 0, .slice none 0 0, .slice none 0 0, .slice none 0 0, .slice none 0 0] 29 (0, 0)) := by rw [hW0]; exact heap_alloc_new _ _
 have hb1 : Below W0.heap.size W0 W := by rw [hW]; exact Below.of_alloc _
 have hsW : SrcAt W R (.slice Av 10 cv) (0, 0) := by rw [hW, hR]; exact heap_alloc_new _ _
 have HBZ := Lib.hid ((hb1.block w.heap.size (by omega)).trans hbZ0)
 have HBW : Hid (Below w.heap.size w W) := Lib.hid (hb0.trans (hb1.mono hb0.size))
 have HRE : Hid (R = w.heap.size + 1) := Lib.hid (by rw [hR, hz0])
 have HRW : Hid (R < W.heap.size) := Lib.hid hsW.lt
 have HBL : Hid (w.heap.size < W.heap.size) := Lib.hid (by have := HRE.out; have := HRW.out; omega)
 have HVV : Hid (∀ V, Chg (· = R) W V → RdB V (· < R) (.slice Av 10 cv) [2, 10, 10, 2, 0, 0, 0, 0, 0, 0]) := Lib.hid (fun V hV => (Rd.keep (Rd.keep hv (Keeps.below HBW.out)) (fun b (hb : b < w.heap.size) => hV.block b (by have := HBL.out; omega) (by have := HRE.out; omega))).wide (fun b (hb : b < w.heap.size) => by have := HRE.out; show b < R; omega))
 have KI0 : ∀ V, SrcAt V R (.slice Av 10 cv) (0, 0) → Chg (· = R) W V → Calls Tryz.prog 60 #[.pointer (some ⟨R, 0, none⟩)] V fun x w' => x = .returned (.int .i64 1) ∧ SrcAt w' R (.slice Av 10 cv) (1, 0) ∧ Chg (· = R) V w' := fun V h hc => by
  have k := srcInt_any R _ [2, 10, 10, 2, 0, 0, 0, 0, 0, 0] (0, 0) V h (HVV.out V hc)
  rw [show rdI [2, 10, 10, 2, 0, 0, 0, 0, 0, 0] (0, 0) = (1, 1, 0) from by decide] at k
  exact k
 have KI1 : ∀ V, SrcAt V R (.slice Av 10 cv) (1, 0) → Chg (· = R) W V → Calls Tryz.prog 60 #[.pointer (some ⟨R, 0, none⟩)] V fun x w' => x = .returned (.int .i64 5) ∧ SrcAt w' R (.slice Av 10 cv) (2, 0) ∧ Chg (· = R) V w' := fun V h hc => by
  have k := srcInt_any R _ [2, 10, 10, 2, 0, 0, 0, 0, 0, 0] (1, 0) V h (HVV.out V hc)
  rw [show rdI [2, 10, 10, 2, 0, 0, 0, 0, 0, 0] (1, 0) = (5, 2, 0) from by decide] at k
  exact k
 have KI2 : ∀ V, SrcAt V R (.slice Av 10 cv) (2, 0) → Chg (· = R) W V → Calls Tryz.prog 60 #[.pointer (some ⟨R, 0, none⟩)] V fun x w' => x = .returned (.int .i64 5) ∧ SrcAt w' R (.slice Av 10 cv) (3, 0) ∧ Chg (· = R) V w' := fun V h hc => by
  have k := srcInt_any R _ [2, 10, 10, 2, 0, 0, 0, 0, 0, 0] (2, 0) V h (HVV.out V hc)
  rw [show rdI [2, 10, 10, 2, 0, 0, 0, 0, 0, 0] (2, 0) = (5, 3, 0) from by decide] at k
  exact k
 have KI3 : ∀ V, SrcAt V R (.slice Av 10 cv) (3, 0) → Chg (· = R) W V → Calls Tryz.prog 60 #[.pointer (some ⟨R, 0, none⟩)] V fun x w' => x = .returned (.int .i64 1) ∧ SrcAt w' R (.slice Av 10 cv) (4, 0) ∧ Chg (· = R) V w' := fun V h hc => by
  have k := srcInt_any R _ [2, 10, 10, 2, 0, 0, 0, 0, 0, 0] (3, 0) V h (HVV.out V hc)
  rw [show rdI [2, 10, 10, 2, 0, 0, 0, 0, 0, 0] (3, 0) = (1, 4, 0) from by decide] at k
  exact k
 have hs : SrcAt W.drew R (.slice Av 10 cv) (0, 0) := hsW
 have hc : Chg (· = R) W W.drew := (Chg.refl _ _).drew
 have hli : ¬ (1048576 : Int) < ((10 : Nat) : Int) := by omega
 clear hv y1 y2 y3 hb0 hbZ0 hb1 hsW
 go_enter Tryz.func17, Tryz.ntmps17
 go_wp2_with fail
 rw [← hW0, ← hW]
 first | rw [← hR] | skip
 first | rw [hz0.symm.trans hR.symm] | skip
 clear hW0 hW hz0 hR
 refine wp_region_noPanic ?_
 refine beginT (S := (fun _ : World => True)) 18 (by kernel_rfl) ?_ (fun hHeld => ?_)
 ·trivial
 refine takeT 0 (some 16) (v := ?_) rfl rfl (by kernel_rfl) (by kernel_rfl) (by kernel_rfl) (by kernel_rfl) (by rfl) hHeld (fun _ _ _ h => h) ?_ ?_
 rotate_left
 ·intro w' hSw; (try dsimp only at hSw); go_simp <;> with_reducible rfl
 simp only [Act.put, List.setIfInBounds_toArray, List.set_cons_zero, List.set_cons_succ]
 refine takeT 1 (some 17) (v := ?_) rfl rfl (by kernel_rfl) (by kernel_rfl) (by kernel_rfl) (by kernel_rfl) (by rfl) hHeld (fun _ _ _ h => h) ?_ ?_
 rotate_left
 ·intro w' hSw; (try dsimp only at hSw); go_simp <;> with_reducible rfl
 simp only [Act.put, List.setIfInBounds_toArray, List.set_cons_zero, List.set_cons_succ]
 refine takeT 2 (some 18) (v := ?_) rfl rfl (by kernel_rfl) (by kernel_rfl) (by kernel_rfl) (by kernel_rfl) (by rfl) hHeld (fun _ _ _ h => h) ?_ ?_
 rotate_left
 ·intro w' hSw; (try dsimp only at hSw); go_simp <;> with_reducible rfl
 simp only [Act.put, List.setIfInBounds_toArray, List.set_cons_zero, List.set_cons_succ]
 refine takeT 4 (some 20) (v := ?_) rfl rfl (by kernel_rfl) (by kernel_rfl) (by kernel_rfl) (by kernel_rfl) (by rfl) hHeld (fun _ _ _ h => h) ?_ ?_
 rotate_left
 ·intro w' hSw; (try dsimp only at hSw); go_simp <;> with_reducible rfl
 simp only [Act.put, List.setIfInBounds_toArray, List.set_cons_zero, List.set_cons_succ]
 refine takeT 5 (some 21) (v := ?_) rfl rfl (by kernel_rfl) (by kernel_rfl) (by kernel_rfl) (by kernel_rfl) (by rfl) hHeld (fun _ _ _ h => h) ?_ ?_
 rotate_left
 ·intro w' hSw; (try dsimp only at hSw); go_simp <;> with_reducible rfl
 simp only [Act.put, List.setIfInBounds_toArray, List.set_cons_zero, List.set_cons_succ]
 refine takeT 6 (some 22) (v := ?_) rfl rfl (by kernel_rfl) (by kernel_rfl) (by kernel_rfl) (by kernel_rfl) (by rfl) hHeld (fun _ _ _ h => h) ?_ ?_
 rotate_left
 ·intro w' hSw; (try dsimp only at hSw); go_simp <;> with_reducible rfl
 simp only [Act.put, List.setIfInBounds_toArray, List.set_cons_zero, List.set_cons_succ]
 refine takeT 8 (some 24) (v := ?_) rfl rfl (by kernel_rfl) (by kernel_rfl) (by kernel_rfl) (by kernel_rfl) (by rfl) hHeld (fun _ _ _ h => h) ?_ ?_
 rotate_left
 ·intro w' hSw; (try dsimp only at hSw); go_simp <;> with_reducible rfl
 simp only [Act.put, List.setIfInBounds_toArray, List.set_cons_zero, List.set_cons_succ]
 refine takeT 9 (some 25) (v := ?_) rfl rfl (by kernel_rfl) (by kernel_rfl) (by kernel_rfl) (by kernel_rfl) (by rfl) hHeld (fun _ _ _ h => h) ?_ ?_
 rotate_left
 ·intro w' hSw; (try dsimp only at hSw); go_simp <;> with_reducible rfl
 simp only [Act.put, List.setIfInBounds_toArray, List.set_cons_zero, List.set_cons_succ]
 refine takeT 10 (some 26) (v := ?_) rfl rfl (by kernel_rfl) (by kernel_rfl) (by kernel_rfl) (by kernel_rfl) (by rfl) hHeld (fun _ _ _ h => h) ?_ ?_
 rotate_left
 ·intro w' hSw; (try dsimp only at hSw); go_simp <;> with_reducible rfl
 simp only [Act.put, List.setIfInBounds_toArray, List.set_cons_zero, List.set_cons_succ]
 refine takeT 12 (some 28) (v := ?_) rfl rfl (by kernel_rfl) (by kernel_rfl) (by kernel_rfl) (by kernel_rfl) (by rfl) hHeld (fun _ _ _ h => h) ?_ ?_
 rotate_left
 ·intro w' hSw; (try dsimp only at hSw); go_simp <;> with_reducible rfl
 simp only [Act.put, List.setIfInBounds_toArray, List.set_cons_zero, List.set_cons_succ]
 refine takeT 13 (some 29) (v := ?_) rfl rfl (by kernel_rfl) (by kernel_rfl) (by kernel_rfl) (by kernel_rfl) (by rfl) hHeld (fun _ _ _ h => h) ?_ ?_
 rotate_left
 ·intro w' hSw; (try dsimp only at hSw); go_simp <;> with_reducible rfl
 simp only [Act.put, List.setIfInBounds_toArray, List.set_cons_zero, List.set_cons_succ]
 refine takeT 14 (some 30) (v := ?_) rfl rfl (by kernel_rfl) (by kernel_rfl) (by kernel_rfl) (by kernel_rfl) (by rfl) hHeld (fun _ _ _ h => h) ?_ ?_
 rotate_left
 ·intro w' hSw; (try dsimp only at hSw); go_simp <;> with_reducible rfl
 simp only [Act.put, List.setIfInBounds_toArray, List.set_cons_zero, List.set_cons_succ]
 refine fork2 3 17 (by kernel_rfl) ?_ ?_
 ·refine callF 3 (some 19) (f := ?_) (args := ?_) rfl rfl (by rfl) ?_ ?_
  rotate_left 2
  ·go_simp <;> first | (constructor <;> with_reducible rfl) | with_reducible rfl
  (with_reducible refine (KI0 W.drew hs hc).mono ?_)
  rintro _ y1 ⟨rfl, hs', hc'⟩
  have hcN : Chg (· = R) W y1 := hc.trans hc' (fun _ _ h => h)
  clear hs hc hc'
  have hs := hs'
  have hc := hcN
  clear hs' hcN
  refine ⟨_, rfl, ?_⟩
  refine keepAnd ?_ (fun hNew => ?_)
  ·intro _; trivial
  have hNew := hNew (by decide)
  clear hHeld
  have hHeld := hNew
  clear hNew
  simp only [Act.put, List.setIfInBounds_toArray, List.set_cons_zero, List.set_cons_succ]
  refine fork2 7 17 (by kernel_rfl) ?_ ?_
  ·refine callF 7 (some 23) (f := ?_) (args := ?_) rfl rfl (by rfl) ?_ ?_
   rotate_left 2
   ·go_simp <;> first | (constructor <;> with_reducible rfl) | with_reducible rfl
   (with_reducible refine (KI1 y1 hs hc).mono ?_)
   rintro _ y2 ⟨rfl, hs', hc'⟩
   have hcN : Chg (· = R) W y2 := hc.trans hc' (fun _ _ h => h)
   clear hs hc hc'
   have hs := hs'
   have hc := hcN
   clear hs' hcN
   refine ⟨_, rfl, ?_⟩
   refine keepAnd ?_ (fun hNew => ?_)
   ·intro _; trivial
   have hNew := hNew (by decide)
   clear hHeld
   have hHeld := hNew
   clear hNew
   simp only [Act.put, List.setIfInBounds_toArray, List.set_cons_zero, List.set_cons_succ]
   refine fork2 11 17 (by kernel_rfl) ?_ ?_
   ·refine callF 11 (some 27) (f := ?_) (args := ?_) rfl rfl (by rfl) ?_ ?_
    rotate_left 2
    ·go_simp <;> first | (constructor <;> with_reducible rfl) | with_reducible rfl
    (with_reducible refine (KI2 y2 hs hc).mono ?_)
    rintro _ y3 ⟨rfl, hs', hc'⟩
    have hcN : Chg (· = R) W y3 := hc.trans hc' (fun _ _ h => h)
    clear hs hc hc'
    have hs := hs'
    have hc := hcN
    clear hs' hcN
    refine ⟨_, rfl, ?_⟩
    refine keepAnd ?_ (fun hNew => ?_)
    ·intro _; trivial
    have hNew := hNew (by decide)
    clear hHeld
    have hHeld := hNew
    clear hNew
    simp only [Act.put, List.setIfInBounds_toArray, List.set_cons_zero, List.set_cons_succ]
    refine fork2 15 17 (by kernel_rfl) ?_ ?_
    ·refine callF 15 (some 31) (f := ?_) (args := ?_) rfl rfl (by rfl) ?_ ?_
     rotate_left 2
     ·go_simp <;> first | (constructor <;> with_reducible rfl) | with_reducible rfl
     (with_reducible refine (KI3 y3 hs hc).mono ?_)
     rintro _ y4 ⟨rfl, hs', hc'⟩
     have hcN : Chg (· = R) W y4 := hc.trans hc' (fun _ _ h => h)
     clear hs hc hc'
     have hs := hs'
     have hc := hcN
     clear hs' hcN
     refine ⟨_, rfl, ?_⟩
     refine keepAnd ?_ (fun hNew => ?_)
     ·intro _; trivial
     have hNew := hNew (by decide)
     clear hHeld
     have hHeld := hNew
     clear hNew
     simp only [Act.put, List.setIfInBounds_toArray, List.set_cons_zero, List.set_cons_succ]
     refine takeT 16 (some 32) (v := ?_) rfl rfl (by kernel_rfl) (by kernel_rfl) (by kernel_rfl) (by kernel_rfl) (by rfl) hHeld (fun _ _ _ h => h) ?_ ?_
     rotate_left
     ·intro w' hSw; (try dsimp only at hSw); go_simp <;> with_reducible rfl
     simp only [Act.put, List.setIfInBounds_toArray, List.set_cons_zero, List.set_cons_succ]
     refine fork1 17 (by kernel_rfl) ?_
     refine runF 17 (some 5) (v := .pointer (some ⟨y4.heap.size, 0, none⟩)) (w' := (y4.alloc (.cells #[.int .i64 0, .int .i64 0, .int .i64 0, .int .i64 0, .slice none 0 0, .slice none 0 0, .slice none 0 0, .slice none 0 0, .slice none 0 0, .slice none 0 0] 29))) rfl rfl (by rfl) ?_ ?_
     ·go_simp <;> with_reducible rfl
     obtain ⟨T, hTe⟩ : ∃ T, T = y4.heap.size := ⟨_, rfl⟩
     obtain ⟨y5, hye⟩ : ∃ y, y = y4.alloc (.cells #[.int .i64 0, .int .i64 0, .int .i64 0, .int .i64 0, .slice none 0 0, .slice none 0 0, .slice none 0 0, .slice none 0 0, .slice none 0 0, .slice none 0 0] 29) := ⟨_, rfl⟩
     have hbN : Below y4.heap.size y4 y5 := by rw [hye]; exact Below.of_alloc _
     have hT : y5.heap[T]? = some (.cells #[.int .i64 0, .int .i64 0, .int .i64 0, .int .i64 0, .slice none 0 0, .slice none 0 0, .slice none 0 0, .slice none 0 0, .slice none 0 0, .slice none 0 0] 29 (0, 0)) := by rw [hye, hTe]; exact heap_alloc_new _ _
     have hTl : T < y5.heap.size := by rw [hye, hTe]; simp
     have hTW : W.heap.size ≤ T := by rw [hTe]; exact hc.size
     have hTR : T ≠ R := by have := HRW.out; omega
     have hs' := hs.below hbN
     have hc' : Chg (· = R) W y5 := hc.then_below hbN
     clear hs hc hbN
     have hs := hs'
     have hc := hc'
     clear hs' hc'
     rw [← hye, ← hTe]
     clear hye hTe
     refine keepAnd ?_ (fun hNew => ?_)
     ·intro _; trivial
     have hNew := hNew (by decide)
     clear hHeld
     have hHeld := hNew
     clear hNew
     simp only [Act.put, List.setIfInBounds_toArray, List.set_cons_zero, List.set_cons_succ]
     refine fork1 18 (by kernel_rfl) ?_
     refine skipRunF 18 none (w' := ((((((((((y5.setCell ⟨T, 0, none⟩ (.int .i64 1)).setCell ⟨T, 1, none⟩ (.int .i64 5)).setCell ⟨T, 2, none⟩ (.int .i64 5)).setCell ⟨T, 3, none⟩ (.int .i64 1)).setCell ⟨T, 4, none⟩ (.slice none 0 0)).setCell ⟨T, 5, none⟩ (.slice none 0 0)).setCell ⟨T, 6, none⟩ (.slice none 0 0)).setCell ⟨T, 7, none⟩ (.slice none 0 0)).setCell ⟨T, 8, none⟩ (.slice none 0 0)).setCell ⟨T, 9, none⟩ (.slice none 0 0))) rfl rfl (by rfl) ?_ ?_
     ·have t0 : y5.cell? ⟨T, 0, none⟩ = some (.int .i64 0) := cell_of_row y5 _ 0 _ _ _ hT; have z0 : y5.frozen? ⟨T, 0, none⟩ = false := frozen_of_row y5 _ 0 _ _ hT; have t1 : y5.cell? ⟨T, 1, none⟩ = some (.int .i64 0) := cell_of_row y5 _ 1 _ _ _ hT; have z1 : y5.frozen? ⟨T, 1, none⟩ = false := frozen_of_row y5 _ 1 _ _ hT; have t2 : y5.cell? ⟨T, 2, none⟩ = some (.int .i64 0) := cell_of_row y5 _ 2 _ _ _ hT; have z2 : y5.frozen? ⟨T, 2, none⟩ = false := frozen_of_row y5 _ 2 _ _ hT; have t3 : y5.cell? ⟨T, 3, none⟩ = some (.int .i64 0) := cell_of_row y5 _ 3 _ _ _ hT; have z3 : y5.frozen? ⟨T, 3, none⟩ = false := frozen_of_row y5 _ 3 _ _ hT; have t4 : y5.cell? ⟨T, 4, none⟩ = some (.slice none 0 0) := cell_of_row y5 _ 4 _ _ _ hT; have z4 : y5.frozen? ⟨T, 4, none⟩ = false := frozen_of_row y5 _ 4 _ _ hT; have t5 : y5.cell? ⟨T, 5, none⟩ = some (.slice none 0 0) := cell_of_row y5 _ 5 _ _ _ hT; have z5 : y5.frozen? ⟨T, 5, none⟩ = false := frozen_of_row y5 _ 5 _ _ hT; have t6 : y5.cell? ⟨T, 6, none⟩ = some (.slice none 0 0) := cell_of_row y5 _ 6 _ _ _ hT; have z6 : y5.frozen? ⟨T, 6, none⟩ = false := frozen_of_row y5 _ 6 _ _ hT; have t7 : y5.cell? ⟨T, 7, none⟩ = some (.slice none 0 0) := cell_of_row y5 _ 7 _ _ _ hT; have z7 : y5.frozen? ⟨T, 7, none⟩ = false := frozen_of_row y5 _ 7 _ _ hT; have t8 : y5.cell? ⟨T, 8, none⟩ = some (.slice none 0 0) := cell_of_row y5 _ 8 _ _ _ hT; have z8 : y5.frozen? ⟨T, 8, none⟩ = false := frozen_of_row y5 _ 8 _ _ hT; have t9 : y5.cell? ⟨T, 9, none⟩ = some (.slice none 0 0) := cell_of_row y5 _ 9 _ _ _ hT; have z9 : y5.frozen? ⟨T, 9, none⟩ = false := frozen_of_row y5 _ 9 _ _ hT; go_simp <;> with_reducible rfl
     refine ⟨fun h => absurd rfl h, ?_⟩
     clear hHeld
     simp only [Act.put]
     refine doneT (by kernel_rfl) ?_ _
     refine NoPanic.normal ?_
     have hTF := ten_set hT (.int .i64 1) (.int .i64 5) (.int .i64 5) (.int .i64 1) (.slice none 0 0) (.slice none 0 0) (.slice none 0 0) (.slice none 0 0) (.slice none 0 0) (.slice none 0 0)
     have hcT := ten_chg y5 T (.int .i64 1) (.int .i64 5) (.int .i64 5) (.int .i64 1) (.slice none 0 0) (.slice none 0 0) (.slice none 0 0) (.slice none 0 0) (.slice none 0 0) (.slice none 0 0)
     have hcF : Chg (· = R) W ((((((((((y5.setCell ⟨T, 0, none⟩ (.int .i64 1)).setCell ⟨T, 1, none⟩ (.int .i64 5)).setCell ⟨T, 2, none⟩ (.int .i64 5)).setCell ⟨T, 3, none⟩ (.int .i64 1)).setCell ⟨T, 4, none⟩ (.slice none 0 0)).setCell ⟨T, 5, none⟩ (.slice none 0 0)).setCell ⟨T, 6, none⟩ (.slice none 0 0)).setCell ⟨T, 7, none⟩ (.slice none 0 0)).setCell ⟨T, 8, none⟩ (.slice none 0 0)).setCell ⟨T, 9, none⟩ (.slice none 0 0)) := ((((((((((hc).setCell (p := ⟨T, 0, none⟩) (.inr hTW) (.int .i64 1)).setCell (p := ⟨T, 1, none⟩) (.inr hTW) (.int .i64 5)).setCell (p := ⟨T, 2, none⟩) (.inr hTW) (.int .i64 5)).setCell (p := ⟨T, 3, none⟩) (.inr hTW) (.int .i64 1)).setCell (p := ⟨T, 4, none⟩) (.inr hTW) (.slice none 0 0)).setCell (p := ⟨T, 5, none⟩) (.inr hTW) (.slice none 0 0)).setCell (p := ⟨T, 6, none⟩) (.inr hTW) (.slice none 0 0)).setCell (p := ⟨T, 7, none⟩) (.inr hTW) (.slice none 0 0)).setCell (p := ⟨T, 8, none⟩) (.inr hTW) (.slice none 0 0)).setCell (p := ⟨T, 9, none⟩) (.inr hTW) (.slice none 0 0)
     have hsF : SrcAt ((((((((((y5.setCell ⟨T, 0, none⟩ (.int .i64 1)).setCell ⟨T, 1, none⟩ (.int .i64 5)).setCell ⟨T, 2, none⟩ (.int .i64 5)).setCell ⟨T, 3, none⟩ (.int .i64 1)).setCell ⟨T, 4, none⟩ (.slice none 0 0)).setCell ⟨T, 5, none⟩ (.slice none 0 0)).setCell ⟨T, 6, none⟩ (.slice none 0 0)).setCell ⟨T, 7, none⟩ (.slice none 0 0)).setCell ⟨T, 8, none⟩ (.slice none 0 0)).setCell ⟨T, 9, none⟩ (.slice none 0 0)) R (.slice Av 10 cv) (4, 0) := (hcT.block R hs.lt (fun e => hTR e.symm)).trans hs
     have hTl2 := hcT.size
     generalize ((((((((((y5.setCell ⟨T, 0, none⟩ (.int .i64 1)).setCell ⟨T, 1, none⟩ (.int .i64 5)).setCell ⟨T, 2, none⟩ (.int .i64 5)).setCell ⟨T, 3, none⟩ (.int .i64 1)).setCell ⟨T, 4, none⟩ (.slice none 0 0)).setCell ⟨T, 5, none⟩ (.slice none 0 0)).setCell ⟨T, 6, none⟩ (.slice none 0 0)).setCell ⟨T, 7, none⟩ (.slice none 0 0)).setCell ⟨T, 8, none⟩ (.slice none 0 0)).setCell ⟨T, 9, none⟩ (.slice none 0 0)) = x0 at *
     have HT0 := Lib.hid hTF
     have HC0 := Lib.hid hcF
     have HX0 := Lib.hid hsF
     have HTL0 : Hid (T < x0.heap.size) := Lib.hid (by omega)
     have HTR := Lib.hid hTR
     have HTW := Lib.hid hTW
     clear hTF hcT hcF hsF hT hc hs hTl hTl2 hTR hTW
     have KG := get0Entry R _ [2, 10, 10, 2, 0, 0, 0, 0, 0, 0] (4, 0) 5 x0 HX0.out (HVV.out x0 HC0.out) (by decide)
     go_wp2_with fail
     (with_reducible refine KG.mono ?_)
     rintro _ u ⟨rfl, hs, hc⟩
     have hT := (hc.block T HTL0.out HTR.out).trans HT0.out
     have t4 : u.cell? ⟨T, 4, none⟩ = some (.slice none 0 0) := cell_of_row u _ 4 _ _ _ hT
     have z4 : u.frozen? ⟨T, 4, none⟩ = false := frozen_of_row u _ 4 _ _ hT
     have hT2 : (u.setCell ⟨T, 4, none⟩ (.slice none 0 0)).heap[T]? = some (.cells #[.int .i64 1, .int .i64 5, .int .i64 5, .int .i64 1, .slice none 0 0, .slice none 0 0, .slice none 0 0, .slice none 0 0, .slice none 0 0, .slice none 0 0] 29 (0, 0)) := by simpa using heap_setCell_same u T 4 _ _ (.slice none 0 0) hT
     have hc2 : Chg (· = R) W (u.setCell ⟨T, 4, none⟩ (.slice none 0 0)) := (HC0.out.trans hc (fun _ _ h => h)).setCell (p := ⟨T, 4, none⟩) (.inr HTW.out) _
     have hs2 : SrcAt (u.setCell ⟨T, 4, none⟩ (.slice none 0 0)) R (.slice Av 10 cv) (5, 0) := hs.other (p := ⟨T, 4, none⟩) HTR.out
     have hl2 : T < (u.setCell ⟨T, 4, none⟩ (.slice none 0 0)).heap.size := (Array.getElem?_eq_some_iff.1 hT2).1
     clear hs hc hT KG
     go_upto_region 6 with (fail)
     generalize u.setCell ⟨T, 4, none⟩ (.slice none 0 0) = x1 at *
     have HT1 := Lib.hid hT2
     have HC1 := Lib.hid hc2
     have HX1 := Lib.hid hs2
     have HTL1 := Lib.hid hl2
     clear hT2 hc2 hs2 hl2 t4 z4 HT0 HC0 HX0 HTL0
     have KG := get0Delta R _ [2, 10, 10, 2, 0, 0, 0, 0, 0, 0] (5, 0) 6 x1 HX1.out (HVV.out x1 HC1.out) (by decide)
     go_wp2_with fail
     (with_reducible refine KG.mono ?_)
     rintro _ u ⟨rfl, hs, hc⟩
     have hT := (hc.block T HTL1.out HTR.out).trans HT1.out
     have t5 : u.cell? ⟨T, 5, none⟩ = some (.slice none 0 0) := cell_of_row u _ 5 _ _ _ hT
     have z5 : u.frozen? ⟨T, 5, none⟩ = false := frozen_of_row u _ 5 _ _ hT
     have hT2 : (u.setCell ⟨T, 5, none⟩ (.slice none 0 0)).heap[T]? = some (.cells #[.int .i64 1, .int .i64 5, .int .i64 5, .int .i64 1, .slice none 0 0, .slice none 0 0, .slice none 0 0, .slice none 0 0, .slice none 0 0, .slice none 0 0] 29 (0, 0)) := by simpa using heap_setCell_same u T 5 _ _ (.slice none 0 0) hT
     have hc2 : Chg (· = R) W (u.setCell ⟨T, 5, none⟩ (.slice none 0 0)) := (HC1.out.trans hc (fun _ _ h => h)).setCell (p := ⟨T, 5, none⟩) (.inr HTW.out) _
     have hs2 : SrcAt (u.setCell ⟨T, 5, none⟩ (.slice none 0 0)) R (.slice Av 10 cv) (6, 0) := hs.other (p := ⟨T, 5, none⟩) HTR.out
     have hl2 : T < (u.setCell ⟨T, 5, none⟩ (.slice none 0 0)).heap.size := (Array.getElem?_eq_some_iff.1 hT2).1
     clear hs hc hT KG
     go_upto_region 7 with (fail)
     generalize u.setCell ⟨T, 5, none⟩ (.slice none 0 0) = x2 at *
     have HT2 := Lib.hid hT2
     have HC2 := Lib.hid hc2
     have HX2 := Lib.hid hs2
     have HTL2 := Lib.hid hl2
     clear hT2 hc2 hs2 hl2 t5 z5 HT1 HC1 HX1 HTL1
     have KG := get0Hold R _ [2, 10, 10, 2, 0, 0, 0, 0, 0, 0] (6, 0) 7 x2 HX2.out (HVV.out x2 HC2.out) (by decide)
     go_wp2_with fail
     (with_reducible refine KG.mono ?_)
     rintro _ u ⟨rfl, hs, hc⟩
     have hT := (hc.block T HTL2.out HTR.out).trans HT2.out
     have t6 : u.cell? ⟨T, 6, none⟩ = some (.slice none 0 0) := cell_of_row u _ 6 _ _ _ hT
     have z6 : u.frozen? ⟨T, 6, none⟩ = false := frozen_of_row u _ 6 _ _ hT
     have hT2 : (u.setCell ⟨T, 6, none⟩ (.slice none 0 0)).heap[T]? = some (.cells #[.int .i64 1, .int .i64 5, .int .i64 5, .int .i64 1, .slice none 0 0, .slice none 0 0, .slice none 0 0, .slice none 0 0, .slice none 0 0, .slice none 0 0] 29 (0, 0)) := by simpa using heap_setCell_same u T 6 _ _ (.slice none 0 0) hT
     have hc2 : Chg (· = R) W (u.setCell ⟨T, 6, none⟩ (.slice none 0 0)) := (HC2.out.trans hc (fun _ _ h => h)).setCell (p := ⟨T, 6, none⟩) (.inr HTW.out) _
     have hs2 : SrcAt (u.setCell ⟨T, 6, none⟩ (.slice none 0 0)) R (.slice Av 10 cv) (7, 0) := hs.other (p := ⟨T, 6, none⟩) HTR.out
     have hl2 : T < (u.setCell ⟨T, 6, none⟩ (.slice none 0 0)).heap.size := (Array.getElem?_eq_some_iff.1 hT2).1
     clear hs hc hT KG
     go_upto_region 8 with (fail)
     generalize u.setCell ⟨T, 6, none⟩ (.slice none 0 0) = x3 at *
     have HT3 := Lib.hid hT2
     have HC3 := Lib.hid hc2
     have HX3 := Lib.hid hs2
     have HTL3 := Lib.hid hl2
     clear hT2 hc2 hs2 hl2 t6 z6 HT2 HC2 HX2 HTL2
     have KG := get0Str R _ [2, 10, 10, 2, 0, 0, 0, 0, 0, 0] (7, 0) 8 x3 HX3.out (HVV.out x3 HC3.out) (by decide)
     go_wp2_with fail
     (with_reducible refine KG.mono ?_)
     rintro _ u ⟨rfl, hs, hc⟩
     have hT := (hc.block T HTL3.out HTR.out).trans HT3.out
     have t7 : u.cell? ⟨T, 7, none⟩ = some (.slice none 0 0) := cell_of_row u _ 7 _ _ _ hT
     have z7 : u.frozen? ⟨T, 7, none⟩ = false := frozen_of_row u _ 7 _ _ hT
     have hT2 : (u.setCell ⟨T, 7, none⟩ (.slice none 0 0)).heap[T]? = some (.cells #[.int .i64 1, .int .i64 5, .int .i64 5, .int .i64 1, .slice none 0 0, .slice none 0 0, .slice none 0 0, .slice none 0 0, .slice none 0 0, .slice none 0 0] 29 (0, 0)) := by simpa using heap_setCell_same u T 7 _ _ (.slice none 0 0) hT
     have hc2 : Chg (· = R) W (u.setCell ⟨T, 7, none⟩ (.slice none 0 0)) := (HC3.out.trans hc (fun _ _ h => h)).setCell (p := ⟨T, 7, none⟩) (.inr HTW.out) _
     have hs2 : SrcAt (u.setCell ⟨T, 7, none⟩ (.slice none 0 0)) R (.slice Av 10 cv) (8, 0) := hs.other (p := ⟨T, 7, none⟩) HTR.out
     have hl2 : T < (u.setCell ⟨T, 7, none⟩ (.slice none 0 0)).heap.size := (Array.getElem?_eq_some_iff.1 hT2).1
     clear hs hc hT KG
     go_upto_region 9 with (fail)
     generalize u.setCell ⟨T, 7, none⟩ (.slice none 0 0) = x4 at *
     have HT4 := Lib.hid hT2
     have HC4 := Lib.hid hc2
     have HX4 := Lib.hid hs2
     have HTL4 := Lib.hid hl2
     clear hT2 hc2 hs2 hl2 t7 z7 HT3 HC3 HX3 HTL3
     have KG := get0Policy R _ [2, 10, 10, 2, 0, 0, 0, 0, 0, 0] (8, 0) 9 x4 HX4.out (HVV.out x4 HC4.out) (by decide)
     go_wp2_with fail
     (with_reducible refine KG.mono ?_)
     rintro _ u ⟨rfl, hs, hc⟩
     have hT := (hc.block T HTL4.out HTR.out).trans HT4.out
     have t8 : u.cell? ⟨T, 8, none⟩ = some (.slice none 0 0) := cell_of_row u _ 8 _ _ _ hT
     have z8 : u.frozen? ⟨T, 8, none⟩ = false := frozen_of_row u _ 8 _ _ hT
     have hT2 : (u.setCell ⟨T, 8, none⟩ (.slice none 0 0)).heap[T]? = some (.cells #[.int .i64 1, .int .i64 5, .int .i64 5, .int .i64 1, .slice none 0 0, .slice none 0 0, .slice none 0 0, .slice none 0 0, .slice none 0 0, .slice none 0 0] 29 (0, 0)) := by simpa using heap_setCell_same u T 8 _ _ (.slice none 0 0) hT
     have hc2 : Chg (· = R) W (u.setCell ⟨T, 8, none⟩ (.slice none 0 0)) := (HC4.out.trans hc (fun _ _ h => h)).setCell (p := ⟨T, 8, none⟩) (.inr HTW.out) _
     have hs2 : SrcAt (u.setCell ⟨T, 8, none⟩ (.slice none 0 0)) R (.slice Av 10 cv) (9, 0) := hs.other (p := ⟨T, 8, none⟩) HTR.out
     have hl2 : T < (u.setCell ⟨T, 8, none⟩ (.slice none 0 0)).heap.size := (Array.getElem?_eq_some_iff.1 hT2).1
     clear hs hc hT KG
     go_upto_region 10 with (fail)
     generalize u.setCell ⟨T, 8, none⟩ (.slice none 0 0) = x5 at *
     have HT5 := Lib.hid hT2
     have HC5 := Lib.hid hc2
     have HX5 := Lib.hid hs2
     have HTL5 := Lib.hid hl2
     clear hT2 hc2 hs2 hl2 t8 z8 HT4 HC4 HX4 HTL4
     have KG := get0Horizon R _ [2, 10, 10, 2, 0, 0, 0, 0, 0, 0] (9, 0) 10 x5 HX5.out (HVV.out x5 HC5.out) (by decide)
     go_wp2_with fail
     (with_reducible refine KG.mono ?_)
     rintro _ u ⟨rfl, hs, hc⟩
     have hT := (hc.block T HTL5.out HTR.out).trans HT5.out
     have t9 : u.cell? ⟨T, 9, none⟩ = some (.slice none 0 0) := cell_of_row u _ 9 _ _ _ hT
     have z9 : u.frozen? ⟨T, 9, none⟩ = false := frozen_of_row u _ 9 _ _ hT
     have hT2 : (u.setCell ⟨T, 9, none⟩ (.slice none 0 0)).heap[T]? = some (.cells #[.int .i64 1, .int .i64 5, .int .i64 5, .int .i64 1, .slice none 0 0, .slice none 0 0, .slice none 0 0, .slice none 0 0, .slice none 0 0, .slice none 0 0] 29 (0, 0)) := by simpa using heap_setCell_same u T 9 _ _ (.slice none 0 0) hT
     have hc2 : Chg (· = R) W (u.setCell ⟨T, 9, none⟩ (.slice none 0 0)) := (HC5.out.trans hc (fun _ _ h => h)).setCell (p := ⟨T, 9, none⟩) (.inr HTW.out) _
     have hs2 : SrcAt (u.setCell ⟨T, 9, none⟩ (.slice none 0 0)) R (.slice Av 10 cv) (10, 0) := hs.other (p := ⟨T, 9, none⟩) HTR.out
     have hl2 : T < (u.setCell ⟨T, 9, none⟩ (.slice none 0 0)).heap.size := (Array.getElem?_eq_some_iff.1 hT2).1
     clear hs hc hT KG
     go_upto_region 11 with (fail)
     generalize u.setCell ⟨T, 9, none⟩ (.slice none 0 0) = x6 at *
     have HT6 := Lib.hid hT2
     have HC6 := Lib.hid hc2
     have HX6 := Lib.hid hs2
     have HTL6 := Lib.hid hl2
     clear hT2 hc2 hs2 hl2 t9 z9 HT5 HC5 HX5 HTL5
     have KE := srcEnd_any R _ [2, 10, 10, 2, 0, 0, 0, 0, 0, 0] (10, 0) x6 HX6.out (HVV.out x6 HC6.out)
     rw [show endE (10, 0) ([2, 10, 10, 2, 0, 0, 0, 0, 0, 0] : List UInt8).length = 0 from by decide] at KE
     go_wp2_with fail
     (with_reducible refine KE.mono ?_)
     rintro _ u ⟨rfl, hb⟩
     have hT := (hb.block T HTL6.out).trans HT6.out
     have HTL7 : Hid (T < u.heap.size) := Lib.hid (Array.getElem?_eq_some_iff.1 hT).1
     have HC7 : Hid (Chg (· = R) W u) := Lib.hid (HC6.out.then_below hb)
     have HT7 := Lib.hid hT
     have KC := chkNil u
     have t0 : u.cell? ⟨T, 0, none⟩ = some (.int .i64 1) := cell_of_row u _ 0 _ _ _ hT
     have t1 : u.cell? ⟨T, 1, none⟩ = some (.int .i64 5) := cell_of_row u _ 1 _ _ _ hT
     have t2 : u.cell? ⟨T, 2, none⟩ = some (.int .i64 5) := cell_of_row u _ 2 _ _ _ hT
     have t3 : u.cell? ⟨T, 3, none⟩ = some (.int .i64 1) := cell_of_row u _ 3 _ _ _ hT
     have t4 : u.cell? ⟨T, 4, none⟩ = some (.slice none 0 0) := cell_of_row u _ 4 _ _ _ hT
     have t5 : u.cell? ⟨T, 5, none⟩ = some (.slice none 0 0) := cell_of_row u _ 5 _ _ _ hT
     have t6 : u.cell? ⟨T, 6, none⟩ = some (.slice none 0 0) := cell_of_row u _ 6 _ _ _ hT
     have t7 : u.cell? ⟨T, 7, none⟩ = some (.slice none 0 0) := cell_of_row u _ 7 _ _ _ hT
     have t8 : u.cell? ⟨T, 8, none⟩ = some (.slice none 0 0) := cell_of_row u _ 8 _ _ _ hT
     have t9 : u.cell? ⟨T, 9, none⟩ = some (.slice none 0 0) := cell_of_row u _ 9 _ _ _ hT
     clear hb hT KE HT6 HC6 HX6 HTL6
     go_upto_region 14 with (fail)
     go_wp2_with fail
     (with_reducible refine KC.mono ?_)
     rintro _ u2 ⟨rfl, hb⟩
     have hT := (hb.block T HTL7.out).trans HT7.out
     have HC8 : Hid (Chg (· = R) W u2) := Lib.hid (HC7.out.then_below hb)
     have hB := (HC8.out.block w.heap.size HBL.out (by have := HRE.out; omega)).trans HBZ.out
     clear t0 t1 t2 t3 t4 t5 t6 t7 t8 t9 KC hb
     go_upto_region 17 with (fail)
     have t0 : u2.cell? ⟨T, 0, none⟩ = some (.int .i64 1) := cell_of_row u2 _ 0 _ _ _ hT
     have t1 : u2.cell? ⟨T, 1, none⟩ = some (.int .i64 5) := cell_of_row u2 _ 1 _ _ _ hT
     have t2 : u2.cell? ⟨T, 2, none⟩ = some (.int .i64 5) := cell_of_row u2 _ 2 _ _ _ hT
     have t3 : u2.cell? ⟨T, 3, none⟩ = some (.int .i64 1) := cell_of_row u2 _ 3 _ _ _ hT
     have t4 : u2.cell? ⟨T, 4, none⟩ = some (.slice none 0 0) := cell_of_row u2 _ 4 _ _ _ hT
     have t5 : u2.cell? ⟨T, 5, none⟩ = some (.slice none 0 0) := cell_of_row u2 _ 5 _ _ _ hT
     have t6 : u2.cell? ⟨T, 6, none⟩ = some (.slice none 0 0) := cell_of_row u2 _ 6 _ _ _ hT
     have t7 : u2.cell? ⟨T, 7, none⟩ = some (.slice none 0 0) := cell_of_row u2 _ 7 _ _ _ hT
     have t8 : u2.cell? ⟨T, 8, none⟩ = some (.slice none 0 0) := cell_of_row u2 _ 8 _ _ _ hT
     have t9 : u2.cell? ⟨T, 9, none⟩ = some (.slice none 0 0) := cell_of_row u2 _ 9 _ _ _ hT
     have q0 : u2.cell? ⟨w.heap.size, 0, none⟩ = some (.int .i64 0) := cell_of_row u2 _ 0 _ _ _ hB
     have q1 : u2.cell? ⟨w.heap.size, 1, none⟩ = some (.int .i64 0) := cell_of_row u2 _ 1 _ _ _ hB
     have q2 : u2.cell? ⟨w.heap.size, 2, none⟩ = some (.int .i64 0) := cell_of_row u2 _ 2 _ _ _ hB
     have q3 : u2.cell? ⟨w.heap.size, 3, none⟩ = some (.int .i64 0) := cell_of_row u2 _ 3 _ _ _ hB
     have q4 : u2.cell? ⟨w.heap.size, 4, none⟩ = some (.slice none 0 0) := cell_of_row u2 _ 4 _ _ _ hB
     have q5 : u2.cell? ⟨w.heap.size, 5, none⟩ = some (.slice none 0 0) := cell_of_row u2 _ 5 _ _ _ hB
     have q6 : u2.cell? ⟨w.heap.size, 6, none⟩ = some (.slice none 0 0) := cell_of_row u2 _ 6 _ _ _ hB
     have q7 : u2.cell? ⟨w.heap.size, 7, none⟩ = some (.slice none 0 0) := cell_of_row u2 _ 7 _ _ _ hB
     have q8 : u2.cell? ⟨w.heap.size, 8, none⟩ = some (.slice none 0 0) := cell_of_row u2 _ 8 _ _ _ hB
     have q9 : u2.cell? ⟨w.heap.size, 9, none⟩ = some (.slice none 0 0) := cell_of_row u2 _ 9 _ _ _ hB
     have f0 : u2.frozen? ⟨w.heap.size, 0, none⟩ = false := frozen_of_row u2 _ 0 _ _ hB
     have f1 : u2.frozen? ⟨w.heap.size, 1, none⟩ = false := frozen_of_row u2 _ 1 _ _ hB
     have f2 : u2.frozen? ⟨w.heap.size, 2, none⟩ = false := frozen_of_row u2 _ 2 _ _ hB
     have f3 : u2.frozen? ⟨w.heap.size, 3, none⟩ = false := frozen_of_row u2 _ 3 _ _ hB
     have f4 : u2.frozen? ⟨w.heap.size, 4, none⟩ = false := frozen_of_row u2 _ 4 _ _ hB
     have f5 : u2.frozen? ⟨w.heap.size, 5, none⟩ = false := frozen_of_row u2 _ 5 _ _ hB
     have f6 : u2.frozen? ⟨w.heap.size, 6, none⟩ = false := frozen_of_row u2 _ 6 _ _ hB
     have f7 : u2.frozen? ⟨w.heap.size, 7, none⟩ = false := frozen_of_row u2 _ 7 _ _ hB
     have f8 : u2.frozen? ⟨w.heap.size, 8, none⟩ = false := frozen_of_row u2 _ 8 _ _ hB
     have f9 : u2.frozen? ⟨w.heap.size, 9, none⟩ = false := frozen_of_row u2 _ 9 _ _ hB
     have hF := ten_set hB (.int .i64 1) (.int .i64 5) (.int .i64 5) (.int .i64 1) (.slice none 0 0) (.slice none 0 0) (.slice none 0 0) (.slice none 0 0) (.slice none 0 0) (.slice none 0 0)
     have hcB := ten_chg u2 w.heap.size (.int .i64 1) (.int .i64 5) (.int .i64 5) (.int .i64 1) (.slice none 0 0) (.slice none 0 0) (.slice none 0 0) (.slice none 0 0) (.slice none 0 0) (.slice none 0 0)
     have HF := Lib.hid hF
     have HFB : Hid (Below w.heap.size w ((((((((((u2.setCell ⟨w.heap.size, 0, none⟩ (.int .i64 1)).setCell ⟨w.heap.size, 1, none⟩ (.int .i64 5)).setCell ⟨w.heap.size, 2, none⟩ (.int .i64 5)).setCell ⟨w.heap.size, 3, none⟩ (.int .i64 1)).setCell ⟨w.heap.size, 4, none⟩ (.slice none 0 0)).setCell ⟨w.heap.size, 5, none⟩ (.slice none 0 0)).setCell ⟨w.heap.size, 6, none⟩ (.slice none 0 0)).setCell ⟨w.heap.size, 7, none⟩ (.slice none 0 0)).setCell ⟨w.heap.size, 8, none⟩ (.slice none 0 0)).setCell ⟨w.heap.size, 9, none⟩ (.slice none 0 0))) := Lib.hid ((HBW.out.trans (HC8.out.below (by have := HRE.out; have := HBL.out; omega) (fun i (hi : i = R) => by have := HRE.out; omega))).trans (hcB.below (by have := HC8.out.size; have := HBL.out; omega) (fun i (hi : i = w.heap.size) => by omega)))
     clear hF hcB hB hT
     go_wp2_with fail
     generalize ((((((((((u2.setCell ⟨w.heap.size, 0, none⟩ (.int .i64 1)).setCell ⟨w.heap.size, 1, none⟩ (.int .i64 5)).setCell ⟨w.heap.size, 2, none⟩ (.int .i64 5)).setCell ⟨w.heap.size, 3, none⟩ (.int .i64 1)).setCell ⟨w.heap.size, 4, none⟩ (.slice none 0 0)).setCell ⟨w.heap.size, 5, none⟩ (.slice none 0 0)).setCell ⟨w.heap.size, 6, none⟩ (.slice none 0 0)).setCell ⟨w.heap.size, 7, none⟩ (.slice none 0 0)).setCell ⟨w.heap.size, 8, none⟩ (.slice none 0 0)).setCell ⟨w.heap.size, 9, none⟩ (.slice none 0 0)) = Z at *
     have y0 : Z.cell? ⟨w.heap.size, 0, none⟩ = some (.int .i64 1) := cell_of_row Z _ 0 _ _ _ HF.out
     have y1 : Z.cell? ⟨w.heap.size, 1, none⟩ = some (.int .i64 5) := cell_of_row Z _ 1 _ _ _ HF.out
     have y2 : Z.cell? ⟨w.heap.size, 2, none⟩ = some (.int .i64 5) := cell_of_row Z _ 2 _ _ _ HF.out
     have y3 : Z.cell? ⟨w.heap.size, 3, none⟩ = some (.int .i64 1) := cell_of_row Z _ 3 _ _ _ HF.out
     have y4 : Z.cell? ⟨w.heap.size, 4, none⟩ = some (.slice none 0 0) := cell_of_row Z _ 4 _ _ _ HF.out
     have y5 : Z.cell? ⟨w.heap.size, 5, none⟩ = some (.slice none 0 0) := cell_of_row Z _ 5 _ _ _ HF.out
     have y6 : Z.cell? ⟨w.heap.size, 6, none⟩ = some (.slice none 0 0) := cell_of_row Z _ 6 _ _ _ HF.out
     have y7 : Z.cell? ⟨w.heap.size, 7, none⟩ = some (.slice none 0 0) := cell_of_row Z _ 7 _ _ _ HF.out
     have y8 : Z.cell? ⟨w.heap.size, 8, none⟩ = some (.slice none 0 0) := cell_of_row Z _ 8 _ _ _ HF.out
     have y9 : Z.cell? ⟨w.heap.size, 9, none⟩ = some (.slice none 0 0) := cell_of_row Z _ 9 _ _ _ HF.out
     exact bodyPost_ret (v := .tuple #[.agg #[.int .i64 1, .int .i64 5, .int .i64 5, .int .i64 1, .slice none 0 0, .slice none 0 0, .slice none 0 0, .slice none 0 0, .slice none 0 0, .slice none 0 0], .int .i64 0]) (by simp [results, Tryz.results17, go_sem, y0, y1, y2, y3, y4, y5, y6, y7, y8, y9]) rfl ⟨rfl, HFB.out⟩
    ·refine runF 17 (some 5) (v := .pointer (some ⟨y3.heap.size, 0, none⟩)) (w' := (y3.alloc (.cells #[.int .i64 0, .int .i64 0, .int .i64 0, .int .i64 0, .slice none 0 0, .slice none 0 0, .slice none 0 0, .slice none 0 0, .slice none 0 0, .slice none 0 0] 29))) rfl rfl (by rfl) ?_ ?_
     ·go_simp <;> with_reducible rfl
     obtain ⟨T, hTe⟩ : ∃ T, T = y3.heap.size := ⟨_, rfl⟩
     obtain ⟨y4, hye⟩ : ∃ y, y = y3.alloc (.cells #[.int .i64 0, .int .i64 0, .int .i64 0, .int .i64 0, .slice none 0 0, .slice none 0 0, .slice none 0 0, .slice none 0 0, .slice none 0 0, .slice none 0 0] 29) := ⟨_, rfl⟩
     have hbN : Below y3.heap.size y3 y4 := by rw [hye]; exact Below.of_alloc _
     have hT : y4.heap[T]? = some (.cells #[.int .i64 0, .int .i64 0, .int .i64 0, .int .i64 0, .slice none 0 0, .slice none 0 0, .slice none 0 0, .slice none 0 0, .slice none 0 0, .slice none 0 0] 29 (0, 0)) := by rw [hye, hTe]; exact heap_alloc_new _ _
     have hTl : T < y4.heap.size := by rw [hye, hTe]; simp
     have hTW : W.heap.size ≤ T := by rw [hTe]; exact hc.size
     have hTR : T ≠ R := by have := HRW.out; omega
     have hs' := hs.below hbN
     have hc' : Chg (· = R) W y4 := hc.then_below hbN
     clear hs hc hbN
     have hs := hs'
     have hc := hc'
     clear hs' hc'
     rw [← hye, ← hTe]
     clear hye hTe
     refine keepAnd ?_ (fun hNew => ?_)
     ·intro _; trivial
     have hNew := hNew (by decide)
     clear hHeld
     have hHeld := hNew
     clear hNew
     simp only [Act.put, List.setIfInBounds_toArray, List.set_cons_zero, List.set_cons_succ]
     refine fork1 15 (by kernel_rfl) ?_
     refine callF 15 (some 31) (f := ?_) (args := ?_) rfl rfl (by rfl) ?_ ?_
     rotate_left 2
     ·go_simp <;> first | (constructor <;> with_reducible rfl) | with_reducible rfl
     (with_reducible refine (KI3 y4 hs hc).mono ?_)
     rintro _ y5 ⟨rfl, hs', hc'⟩
     have hcN : Chg (· = R) W y5 := hc.trans hc' (fun _ _ h => h)
     have hTN := (hc'.block T hTl hTR).trans hT
     have hTlN : T < y5.heap.size := Nat.lt_of_lt_of_le hTl hc'.size
     clear hs hc hc' hT hTl
     have hs := hs'
     have hc := hcN
     have hT := hTN
     have hTl := hTlN
     clear hTN hTlN
     clear hs' hcN
     refine ⟨_, rfl, ?_⟩
     refine keepAnd ?_ (fun hNew => ?_)
     ·intro _; trivial
     have hNew := hNew (by decide)
     clear hHeld
     have hHeld := hNew
     clear hNew
     simp only [Act.put, List.setIfInBounds_toArray, List.set_cons_zero, List.set_cons_succ]
     refine takeT 16 (some 32) (v := ?_) rfl rfl (by kernel_rfl) (by kernel_rfl) (by kernel_rfl) (by kernel_rfl) (by rfl) hHeld (fun _ _ _ h => h) ?_ ?_
     rotate_left
     ·intro w' hSw; (try dsimp only at hSw); go_simp <;> with_reducible rfl
     simp only [Act.put, List.setIfInBounds_toArray, List.set_cons_zero, List.set_cons_succ]
     refine fork1 18 (by kernel_rfl) ?_
     refine skipRunF 18 none (w' := ((((((((((y5.setCell ⟨T, 0, none⟩ (.int .i64 1)).setCell ⟨T, 1, none⟩ (.int .i64 5)).setCell ⟨T, 2, none⟩ (.int .i64 5)).setCell ⟨T, 3, none⟩ (.int .i64 1)).setCell ⟨T, 4, none⟩ (.slice none 0 0)).setCell ⟨T, 5, none⟩ (.slice none 0 0)).setCell ⟨T, 6, none⟩ (.slice none 0 0)).setCell ⟨T, 7, none⟩ (.slice none 0 0)).setCell ⟨T, 8, none⟩ (.slice none 0 0)).setCell ⟨T, 9, none⟩ (.slice none 0 0))) rfl rfl (by rfl) ?_ ?_
     ·have t0 : y5.cell? ⟨T, 0, none⟩ = some (.int .i64 0) := cell_of_row y5 _ 0 _ _ _ hT; have z0 : y5.frozen? ⟨T, 0, none⟩ = false := frozen_of_row y5 _ 0 _ _ hT; have t1 : y5.cell? ⟨T, 1, none⟩ = some (.int .i64 0) := cell_of_row y5 _ 1 _ _ _ hT; have z1 : y5.frozen? ⟨T, 1, none⟩ = false := frozen_of_row y5 _ 1 _ _ hT; have t2 : y5.cell? ⟨T, 2, none⟩ = some (.int .i64 0) := cell_of_row y5 _ 2 _ _ _ hT; have z2 : y5.frozen? ⟨T, 2, none⟩ = false := frozen_of_row y5 _ 2 _ _ hT; have t3 : y5.cell? ⟨T, 3, none⟩ = some (.int .i64 0) := cell_of_row y5 _ 3 _ _ _ hT; have z3 : y5.frozen? ⟨T, 3, none⟩ = false := frozen_of_row y5 _ 3 _ _ hT; have t4 : y5.cell? ⟨T, 4, none⟩ = some (.slice none 0 0) := cell_of_row y5 _ 4 _ _ _ hT; have z4 : y5.frozen? ⟨T, 4, none⟩ = false := frozen_of_row y5 _ 4 _ _ hT; have t5 : y5.cell? ⟨T, 5, none⟩ = some (.slice none 0 0) := cell_of_row y5 _ 5 _ _ _ hT; have z5 : y5.frozen? ⟨T, 5, none⟩ = false := frozen_of_row y5 _ 5 _ _ hT; have t6 : y5.cell? ⟨T, 6, none⟩ = some (.slice none 0 0) := cell_of_row y5 _ 6 _ _ _ hT; have z6 : y5.frozen? ⟨T, 6, none⟩ = false := frozen_of_row y5 _ 6 _ _ hT; have t7 : y5.cell? ⟨T, 7, none⟩ = some (.slice none 0 0) := cell_of_row y5 _ 7 _ _ _ hT; have z7 : y5.frozen? ⟨T, 7, none⟩ = false := frozen_of_row y5 _ 7 _ _ hT; have t8 : y5.cell? ⟨T, 8, none⟩ = some (.slice none 0 0) := cell_of_row y5 _ 8 _ _ _ hT; have z8 : y5.frozen? ⟨T, 8, none⟩ = false := frozen_of_row y5 _ 8 _ _ hT; have t9 : y5.cell? ⟨T, 9, none⟩ = some (.slice none 0 0) := cell_of_row y5 _ 9 _ _ _ hT; have z9 : y5.frozen? ⟨T, 9, none⟩ = false := frozen_of_row y5 _ 9 _ _ hT; go_simp <;> with_reducible rfl
     refine ⟨fun h => absurd rfl h, ?_⟩
     clear hHeld
     simp only [Act.put]
     refine doneT (by kernel_rfl) ?_ _
     refine NoPanic.normal ?_
     have hTF := ten_set hT (.int .i64 1) (.int .i64 5) (.int .i64 5) (.int .i64 1) (.slice none 0 0) (.slice none 0 0) (.slice none 0 0) (.slice none 0 0) (.slice none 0 0) (.slice none 0 0)
     have hcT := ten_chg y5 T (.int .i64 1) (.int .i64 5) (.int .i64 5) (.int .i64 1) (.slice none 0 0) (.slice none 0 0) (.slice none 0 0) (.slice none 0 0) (.slice none 0 0) (.slice none 0 0)
     have hcF : Chg (· = R) W ((((((((((y5.setCell ⟨T, 0, none⟩ (.int .i64 1)).setCell ⟨T, 1, none⟩ (.int .i64 5)).setCell ⟨T, 2, none⟩ (.int .i64 5)).setCell ⟨T, 3, none⟩ (.int .i64 1)).setCell ⟨T, 4, none⟩ (.slice none 0 0)).setCell ⟨T, 5, none⟩ (.slice none 0 0)).setCell ⟨T, 6, none⟩ (.slice none 0 0)).setCell ⟨T, 7, none⟩ (.slice none 0 0)).setCell ⟨T, 8, none⟩ (.slice none 0 0)).setCell ⟨T, 9, none⟩ (.slice none 0 0)) := ((((((((((hc).setCell (p := ⟨T, 0, none⟩) (.inr hTW) (.int .i64 1)).setCell (p := ⟨T, 1, none⟩) (.inr hTW) (.int .i64 5)).setCell (p := ⟨T, 2, none⟩) (.inr hTW) (.int .i64 5)).setCell (p := ⟨T, 3, none⟩) (.inr hTW) (.int .i64 1)).setCell (p := ⟨T, 4, none⟩) (.inr hTW) (.slice none 0 0)).setCell (p := ⟨T, 5, none⟩) (.inr hTW) (.slice none 0 0)).setCell (p := ⟨T, 6, none⟩) (.inr hTW) (.slice none 0 0)).setCell (p := ⟨T, 7, none⟩) (.inr hTW) (.slice none 0 0)).setCell (p := ⟨T, 8, none⟩) (.inr hTW) (.slice none 0 0)).setCell (p := ⟨T, 9, none⟩) (.inr hTW) (.slice none 0 0)
     have hsF : SrcAt ((((((((((y5.setCell ⟨T, 0, none⟩ (.int .i64 1)).setCell ⟨T, 1, none⟩ (.int .i64 5)).setCell ⟨T, 2, none⟩ (.int .i64 5)).setCell ⟨T, 3, none⟩ (.int .i64 1)).setCell ⟨T, 4, none⟩ (.slice none 0 0)).setCell ⟨T, 5, none⟩ (.slice none 0 0)).setCell ⟨T, 6, none⟩ (.slice none 0 0)).setCell ⟨T, 7, none⟩ (.slice none 0 0)).setCell ⟨T, 8, none⟩ (.slice none 0 0)).setCell ⟨T, 9, none⟩ (.slice none 0 0)) R (.slice Av 10 cv) (4, 0) := (hcT.block R hs.lt (fun e => hTR e.symm)).trans hs
     have hTl2 := hcT.size
     generalize ((((((((((y5.setCell ⟨T, 0, none⟩ (.int .i64 1)).setCell ⟨T, 1, none⟩ (.int .i64 5)).setCell ⟨T, 2, none⟩ (.int .i64 5)).setCell ⟨T, 3, none⟩ (.int .i64 1)).setCell ⟨T, 4, none⟩ (.slice none 0 0)).setCell ⟨T, 5, none⟩ (.slice none 0 0)).setCell ⟨T, 6, none⟩ (.slice none 0 0)).setCell ⟨T, 7, none⟩ (.slice none 0 0)).setCell ⟨T, 8, none⟩ (.slice none 0 0)).setCell ⟨T, 9, none⟩ (.slice none 0 0)) = x0 at *
     have HT0 := Lib.hid hTF
     have HC0 := Lib.hid hcF
     have HX0 := Lib.hid hsF
     have HTL0 : Hid (T < x0.heap.size) := Lib.hid (by omega)
     have HTR := Lib.hid hTR
     have HTW := Lib.hid hTW
     clear hTF hcT hcF hsF hT hc hs hTl hTl2 hTR hTW
     have KG := get0Entry R _ [2, 10, 10, 2, 0, 0, 0, 0, 0, 0] (4, 0) 5 x0 HX0.out (HVV.out x0 HC0.out) (by decide)
     go_wp2_with fail
     (with_reducible refine KG.mono ?_)
     rintro _ u ⟨rfl, hs, hc⟩
     have hT := (hc.block T HTL0.out HTR.out).trans HT0.out
     have t4 : u.cell? ⟨T, 4, none⟩ = some (.slice none 0 0) := cell_of_row u _ 4 _ _ _ hT
     have z4 : u.frozen? ⟨T, 4, none⟩ = false := frozen_of_row u _ 4 _ _ hT
     have hT2 : (u.setCell ⟨T, 4, none⟩ (.slice none 0 0)).heap[T]? = some (.cells #[.int .i64 1, .int .i64 5, .int .i64 5, .int .i64 1, .slice none 0 0, .slice none 0 0, .slice none 0 0, .slice none 0 0, .slice none 0 0, .slice none 0 0] 29 (0, 0)) := by simpa using heap_setCell_same u T 4 _ _ (.slice none 0 0) hT
     have hc2 : Chg (· = R) W (u.setCell ⟨T, 4, none⟩ (.slice none 0 0)) := (HC0.out.trans hc (fun _ _ h => h)).setCell (p := ⟨T, 4, none⟩) (.inr HTW.out) _
     have hs2 : SrcAt (u.setCell ⟨T, 4, none⟩ (.slice none 0 0)) R (.slice Av 10 cv) (5, 0) := hs.other (p := ⟨T, 4, none⟩) HTR.out
     have hl2 : T < (u.setCell ⟨T, 4, none⟩ (.slice none 0 0)).heap.size := (Array.getElem?_eq_some_iff.1 hT2).1
     clear hs hc hT KG
     go_upto_region 6 with (fail)
     generalize u.setCell ⟨T, 4, none⟩ (.slice none 0 0) = x1 at *
     have HT1 := Lib.hid hT2
     have HC1 := Lib.hid hc2
     have HX1 := Lib.hid hs2
     have HTL1 := Lib.hid hl2
     clear hT2 hc2 hs2 hl2 t4 z4 HT0 HC0 HX0 HTL0
     have KG := get0Delta R _ [2, 10, 10, 2, 0, 0, 0, 0, 0, 0] (5, 0) 6 x1 HX1.out (HVV.out x1 HC1.out) (by decide)
     go_wp2_with fail
     (with_reducible refine KG.mono ?_)
     rintro _ u ⟨rfl, hs, hc⟩
     have hT := (hc.block T HTL1.out HTR.out).trans HT1.out
     have t5 : u.cell? ⟨T, 5, none⟩ = some (.slice none 0 0) := cell_of_row u _ 5 _ _ _ hT
     have z5 : u.frozen? ⟨T, 5, none⟩ = false := frozen_of_row u _ 5 _ _ hT
     have hT2 : (u.setCell ⟨T, 5, none⟩ (.slice none 0 0)).heap[T]? = some (.cells #[.int .i64 1, .int .i64 5, .int .i64 5, .int .i64 1, .slice none 0 0, .slice none 0 0, .slice none 0 0, .slice none 0 0, .slice none 0 0, .slice none 0 0] 29 (0, 0)) := by simpa using heap_setCell_same u T 5 _ _ (.slice none 0 0) hT
     have hc2 : Chg (· = R) W (u.setCell ⟨T, 5, none⟩ (.slice none 0 0)) := (HC1.out.trans hc (fun _ _ h => h)).setCell (p := ⟨T, 5, none⟩) (.inr HTW.out) _
     have hs2 : SrcAt (u.setCell ⟨T, 5, none⟩ (.slice none 0 0)) R (.slice Av 10 cv) (6, 0) := hs.other (p := ⟨T, 5, none⟩) HTR.out
     have hl2 : T < (u.setCell ⟨T, 5, none⟩ (.slice none 0 0)).heap.size := (Array.getElem?_eq_some_iff.1 hT2).1
     clear hs hc hT KG
     go_upto_region 7 with (fail)
     generalize u.setCell ⟨T, 5, none⟩ (.slice none 0 0) = x2 at *
     have HT2 := Lib.hid hT2
     have HC2 := Lib.hid hc2
     have HX2 := Lib.hid hs2
     have HTL2 := Lib.hid hl2
     clear hT2 hc2 hs2 hl2 t5 z5 HT1 HC1 HX1 HTL1
     have KG := get0Hold R _ [2, 10, 10, 2, 0, 0, 0, 0, 0, 0] (6, 0) 7 x2 HX2.out (HVV.out x2 HC2.out) (by decide)
     go_wp2_with fail
     (with_reducible refine KG.mono ?_)
     rintro _ u ⟨rfl, hs, hc⟩
     have hT := (hc.block T HTL2.out HTR.out).trans HT2.out
     have t6 : u.cell? ⟨T, 6, none⟩ = some (.slice none 0 0) := cell_of_row u _ 6 _ _ _ hT
     have z6 : u.frozen? ⟨T, 6, none⟩ = false := frozen_of_row u _ 6 _ _ hT
     have hT2 : (u.setCell ⟨T, 6, none⟩ (.slice none 0 0)).heap[T]? = some (.cells #[.int .i64 1, .int .i64 5, .int .i64 5, .int .i64 1, .slice none 0 0, .slice none 0 0, .slice none 0 0, .slice none 0 0, .slice none 0 0, .slice none 0 0] 29 (0, 0)) := by simpa using heap_setCell_same u T 6 _ _ (.slice none 0 0) hT
     have hc2 : Chg (· = R) W (u.setCell ⟨T, 6, none⟩ (.slice none 0 0)) := (HC2.out.trans hc (fun _ _ h => h)).setCell (p := ⟨T, 6, none⟩) (.inr HTW.out) _
     have hs2 : SrcAt (u.setCell ⟨T, 6, none⟩ (.slice none 0 0)) R (.slice Av 10 cv) (7, 0) := hs.other (p := ⟨T, 6, none⟩) HTR.out
     have hl2 : T < (u.setCell ⟨T, 6, none⟩ (.slice none 0 0)).heap.size := (Array.getElem?_eq_some_iff.1 hT2).1
     clear hs hc hT KG
     go_upto_region 8 with (fail)
     generalize u.setCell ⟨T, 6, none⟩ (.slice none 0 0) = x3 at *
     have HT3 := Lib.hid hT2
     have HC3 := Lib.hid hc2
     have HX3 := Lib.hid hs2
     have HTL3 := Lib.hid hl2
     clear hT2 hc2 hs2 hl2 t6 z6 HT2 HC2 HX2 HTL2
     have KG := get0Str R _ [2, 10, 10, 2, 0, 0, 0, 0, 0, 0] (7, 0) 8 x3 HX3.out (HVV.out x3 HC3.out) (by decide)
     go_wp2_with fail
     (with_reducible refine KG.mono ?_)
     rintro _ u ⟨rfl, hs, hc⟩
     have hT := (hc.block T HTL3.out HTR.out).trans HT3.out
     have t7 : u.cell? ⟨T, 7, none⟩ = some (.slice none 0 0) := cell_of_row u _ 7 _ _ _ hT
     have z7 : u.frozen? ⟨T, 7, none⟩ = false := frozen_of_row u _ 7 _ _ hT
     have hT2 : (u.setCell ⟨T, 7, none⟩ (.slice none 0 0)).heap[T]? = some (.cells #[.int .i64 1, .int .i64 5, .int .i64 5, .int .i64 1, .slice none 0 0, .slice none 0 0, .slice none 0 0, .slice none 0 0, .slice none 0 0, .slice none 0 0] 29 (0, 0)) := by simpa using heap_setCell_same u T 7 _ _ (.slice none 0 0) hT
     have hc2 : Chg (· = R) W (u.setCell ⟨T, 7, none⟩ (.slice none 0 0)) := (HC3.out.trans hc (fun _ _ h => h)).setCell (p := ⟨T, 7, none⟩) (.inr HTW.out) _
     have hs2 : SrcAt (u.setCell ⟨T, 7, none⟩ (.slice none 0 0)) R (.slice Av 10 cv) (8, 0) := hs.other (p := ⟨T, 7, none⟩) HTR.out
     have hl2 : T < (u.setCell ⟨T, 7, none⟩ (.slice none 0 0)).heap.size := (Array.getElem?_eq_some_iff.1 hT2).1
     clear hs hc hT KG
     go_upto_region 9 with (fail)
     generalize u.setCell ⟨T, 7, none⟩ (.slice none 0 0) = x4 at *
     have HT4 := Lib.hid hT2
     have HC4 := Lib.hid hc2
     have HX4 := Lib.hid hs2
     have HTL4 := Lib.hid hl2
     clear hT2 hc2 hs2 hl2 t7 z7 HT3 HC3 HX3 HTL3
     have KG := get0Policy R _ [2, 10, 10, 2, 0, 0, 0, 0, 0, 0] (8, 0) 9 x4 HX4.out (HVV.out x4 HC4.out) (by decide)
     go_wp2_with fail
     (with_reducible refine KG.mono ?_)
     rintro _ u ⟨rfl, hs, hc⟩
     have hT := (hc.block T HTL4.out HTR.out).trans HT4.out
     have t8 : u.cell? ⟨T, 8, none⟩ = some (.slice none 0 0) := cell_of_row u _ 8 _ _ _ hT
     have z8 : u.frozen? ⟨T, 8, none⟩ = false := frozen_of_row u _ 8 _ _ hT
     have hT2 : (u.setCell ⟨T, 8, none⟩ (.slice none 0 0)).heap[T]? = some (.cells #[.int .i64 1, .int .i64 5, .int .i64 5, .int .i64 1, .slice none 0 0, .slice none 0 0, .slice none 0 0, .slice none 0 0, .slice none 0 0, .slice none 0 0] 29 (0, 0)) := by simpa using heap_setCell_same u T 8 _ _ (.slice none 0 0) hT
     have hc2 : Chg (· = R) W (u.setCell ⟨T, 8, none⟩ (.slice none 0 0)) := (HC4.out.trans hc (fun _ _ h => h)).setCell (p := ⟨T, 8, none⟩) (.inr HTW.out) _
     have hs2 : SrcAt (u.setCell ⟨T, 8, none⟩ (.slice none 0 0)) R (.slice Av 10 cv) (9, 0) := hs.other (p := ⟨T, 8, none⟩) HTR.out
     have hl2 : T < (u.setCell ⟨T, 8, none⟩ (.slice none 0 0)).heap.size := (Array.getElem?_eq_some_iff.1 hT2).1
     clear hs hc hT KG
     go_upto_region 10 with (fail)
     generalize u.setCell ⟨T, 8, none⟩ (.slice none 0 0) = x5 at *
     have HT5 := Lib.hid hT2
     have HC5 := Lib.hid hc2
     have HX5 := Lib.hid hs2
     have HTL5 := Lib.hid hl2
     clear hT2 hc2 hs2 hl2 t8 z8 HT4 HC4 HX4 HTL4
     have KG := get0Horizon R _ [2, 10, 10, 2, 0, 0, 0, 0, 0, 0] (9, 0) 10 x5 HX5.out (HVV.out x5 HC5.out) (by decide)
     go_wp2_with fail
     (with_reducible refine KG.mono ?_)
     rintro _ u ⟨rfl, hs, hc⟩
     have hT := (hc.block T HTL5.out HTR.out).trans HT5.out
     have t9 : u.cell? ⟨T, 9, none⟩ = some (.slice none 0 0) := cell_of_row u _ 9 _ _ _ hT
     have z9 : u.frozen? ⟨T, 9, none⟩ = false := frozen_of_row u _ 9 _ _ hT
     have hT2 : (u.setCell ⟨T, 9, none⟩ (.slice none 0 0)).heap[T]? = some (.cells #[.int .i64 1, .int .i64 5, .int .i64 5, .int .i64 1, .slice none 0 0, .slice none 0 0, .slice none 0 0, .slice none 0 0, .slice none 0 0, .slice none 0 0] 29 (0, 0)) := by simpa using heap_setCell_same u T 9 _ _ (.slice none 0 0) hT
     have hc2 : Chg (· = R) W (u.setCell ⟨T, 9, none⟩ (.slice none 0 0)) := (HC5.out.trans hc (fun _ _ h => h)).setCell (p := ⟨T, 9, none⟩) (.inr HTW.out) _
     have hs2 : SrcAt (u.setCell ⟨T, 9, none⟩ (.slice none 0 0)) R (.slice Av 10 cv) (10, 0) := hs.other (p := ⟨T, 9, none⟩) HTR.out
     have hl2 : T < (u.setCell ⟨T, 9, none⟩ (.slice none 0 0)).heap.size := (Array.getElem?_eq_some_iff.1 hT2).1
     clear hs hc hT KG
     go_upto_region 11 with (fail)
     generalize u.setCell ⟨T, 9, none⟩ (.slice none 0 0) = x6 at *
     have HT6 := Lib.hid hT2
     have HC6 := Lib.hid hc2
     have HX6 := Lib.hid hs2
     have HTL6 := Lib.hid hl2
     clear hT2 hc2 hs2 hl2 t9 z9 HT5 HC5 HX5 HTL5
     have KE := srcEnd_any R _ [2, 10, 10, 2, 0, 0, 0, 0, 0, 0] (10, 0) x6 HX6.out (HVV.out x6 HC6.out)
     rw [show endE (10, 0) ([2, 10, 10, 2, 0, 0, 0, 0, 0, 0] : List UInt8).length = 0 from by decide] at KE
     go_wp2_with fail
     (with_reducible refine KE.mono ?_)
     rintro _ u ⟨rfl, hb⟩
     have hT := (hb.block T HTL6.out).trans HT6.out
     have HTL7 : Hid (T < u.heap.size) := Lib.hid (Array.getElem?_eq_some_iff.1 hT).1
     have HC7 : Hid (Chg (· = R) W u) := Lib.hid (HC6.out.then_below hb)
     have HT7 := Lib.hid hT
     have KC := chkNil u
     have t0 : u.cell? ⟨T, 0, none⟩ = some (.int .i64 1) := cell_of_row u _ 0 _ _ _ hT
     have t1 : u.cell? ⟨T, 1, none⟩ = some (.int .i64 5) := cell_of_row u _ 1 _ _ _ hT
     have t2 : u.cell? ⟨T, 2, none⟩ = some (.int .i64 5) := cell_of_row u _ 2 _ _ _ hT
     have t3 : u.cell? ⟨T, 3, none⟩ = some (.int .i64 1) := cell_of_row u _ 3 _ _ _ hT
     have t4 : u.cell? ⟨T, 4, none⟩ = some (.slice none 0 0) := cell_of_row u _ 4 _ _ _ hT
     have t5 : u.cell? ⟨T, 5, none⟩ = some (.slice none 0 0) := cell_of_row u _ 5 _ _ _ hT
     have t6 : u.cell? ⟨T, 6, none⟩ = some (.slice none 0 0) := cell_of_row u _ 6 _ _ _ hT
     have t7 : u.cell? ⟨T, 7, none⟩ = some (.slice none 0 0) := cell_of_row u _ 7 _ _ _ hT
     have t8 : u.cell? ⟨T, 8, none⟩ = some (.slice none 0 0) := cell_of_row u _ 8 _ _ _ hT
     have t9 : u.cell? ⟨T, 9, none⟩ = some (.slice none 0 0) := cell_of_row u _ 9 _ _ _ hT
     clear hb hT KE HT6 HC6 HX6 HTL6
     go_upto_region 14 with (fail)
     go_wp2_with fail
     (with_reducible refine KC.mono ?_)
     rintro _ u2 ⟨rfl, hb⟩
     have hT := (hb.block T HTL7.out).trans HT7.out
     have HC8 : Hid (Chg (· = R) W u2) := Lib.hid (HC7.out.then_below hb)
     have hB := (HC8.out.block w.heap.size HBL.out (by have := HRE.out; omega)).trans HBZ.out
     clear t0 t1 t2 t3 t4 t5 t6 t7 t8 t9 KC hb
     go_upto_region 17 with (fail)
     have t0 : u2.cell? ⟨T, 0, none⟩ = some (.int .i64 1) := cell_of_row u2 _ 0 _ _ _ hT
     have t1 : u2.cell? ⟨T, 1, none⟩ = some (.int .i64 5) := cell_of_row u2 _ 1 _ _ _ hT
     have t2 : u2.cell? ⟨T, 2, none⟩ = some (.int .i64 5) := cell_of_row u2 _ 2 _ _ _ hT
     have t3 : u2.cell? ⟨T, 3, none⟩ = some (.int .i64 1) := cell_of_row u2 _ 3 _ _ _ hT
     have t4 : u2.cell? ⟨T, 4, none⟩ = some (.slice none 0 0) := cell_of_row u2 _ 4 _ _ _ hT
     have t5 : u2.cell? ⟨T, 5, none⟩ = some (.slice none 0 0) := cell_of_row u2 _ 5 _ _ _ hT
     have t6 : u2.cell? ⟨T, 6, none⟩ = some (.slice none 0 0) := cell_of_row u2 _ 6 _ _ _ hT
     have t7 : u2.cell? ⟨T, 7, none⟩ = some (.slice none 0 0) := cell_of_row u2 _ 7 _ _ _ hT
     have t8 : u2.cell? ⟨T, 8, none⟩ = some (.slice none 0 0) := cell_of_row u2 _ 8 _ _ _ hT
     have t9 : u2.cell? ⟨T, 9, none⟩ = some (.slice none 0 0) := cell_of_row u2 _ 9 _ _ _ hT
     have q0 : u2.cell? ⟨w.heap.size, 0, none⟩ = some (.int .i64 0) := cell_of_row u2 _ 0 _ _ _ hB
     have q1 : u2.cell? ⟨w.heap.size, 1, none⟩ = some (.int .i64 0) := cell_of_row u2 _ 1 _ _ _ hB
     have q2 : u2.cell? ⟨w.heap.size, 2, none⟩ = some (.int .i64 0) := cell_of_row u2 _ 2 _ _ _ hB
     have q3 : u2.cell? ⟨w.heap.size, 3, none⟩ = some (.int .i64 0) := cell_of_row u2 _ 3 _ _ _ hB
     have q4 : u2.cell? ⟨w.heap.size, 4, none⟩ = some (.slice none 0 0) := cell_of_row u2 _ 4 _ _ _ hB
     have q5 : u2.cell? ⟨w.heap.size, 5, none⟩ = some (.slice none 0 0) := cell_of_row u2 _ 5 _ _ _ hB
     have q6 : u2.cell? ⟨w.heap.size, 6, none⟩ = some (.slice none 0 0) := cell_of_row u2 _ 6 _ _ _ hB
     have q7 : u2.cell? ⟨w.heap.size, 7, none⟩ = some (.slice none 0 0) := cell_of_row u2 _ 7 _ _ _ hB
     have q8 : u2.cell? ⟨w.heap.size, 8, none⟩ = some (.slice none 0 0) := cell_of_row u2 _ 8 _ _ _ hB
     have q9 : u2.cell? ⟨w.heap.size, 9, none⟩ = some (.slice none 0 0) := cell_of_row u2 _ 9 _ _ _ hB
     have f0 : u2.frozen? ⟨w.heap.size, 0, none⟩ = false := frozen_of_row u2 _ 0 _ _ hB
     have f1 : u2.frozen? ⟨w.heap.size, 1, none⟩ = false := frozen_of_row u2 _ 1 _ _ hB
     have f2 : u2.frozen? ⟨w.heap.size, 2, none⟩ = false := frozen_of_row u2 _ 2 _ _ hB
     have f3 : u2.frozen? ⟨w.heap.size, 3, none⟩ = false := frozen_of_row u2 _ 3 _ _ hB
     have f4 : u2.frozen? ⟨w.heap.size, 4, none⟩ = false := frozen_of_row u2 _ 4 _ _ hB
     have f5 : u2.frozen? ⟨w.heap.size, 5, none⟩ = false := frozen_of_row u2 _ 5 _ _ hB
     have f6 : u2.frozen? ⟨w.heap.size, 6, none⟩ = false := frozen_of_row u2 _ 6 _ _ hB
     have f7 : u2.frozen? ⟨w.heap.size, 7, none⟩ = false := frozen_of_row u2 _ 7 _ _ hB
     have f8 : u2.frozen? ⟨w.heap.size, 8, none⟩ = false := frozen_of_row u2 _ 8 _ _ hB
     have f9 : u2.frozen? ⟨w.heap.size, 9, none⟩ = false := frozen_of_row u2 _ 9 _ _ hB
     have hF := ten_set hB (.int .i64 1) (.int .i64 5) (.int .i64 5) (.int .i64 1) (.slice none 0 0) (.slice none 0 0) (.slice none 0 0) (.slice none 0 0) (.slice none 0 0) (.slice none 0 0)
     have hcB := ten_chg u2 w.heap.size (.int .i64 1) (.int .i64 5) (.int .i64 5) (.int .i64 1) (.slice none 0 0) (.slice none 0 0) (.slice none 0 0) (.slice none 0 0) (.slice none 0 0) (.slice none 0 0)
     have HF := Lib.hid hF
     have HFB : Hid (Below w.heap.size w ((((((((((u2.setCell ⟨w.heap.size, 0, none⟩ (.int .i64 1)).setCell ⟨w.heap.size, 1, none⟩ (.int .i64 5)).setCell ⟨w.heap.size, 2, none⟩ (.int .i64 5)).setCell ⟨w.heap.size, 3, none⟩ (.int .i64 1)).setCell ⟨w.heap.size, 4, none⟩ (.slice none 0 0)).setCell ⟨w.heap.size, 5, none⟩ (.slice none 0 0)).setCell ⟨w.heap.size, 6, none⟩ (.slice none 0 0)).setCell ⟨w.heap.size, 7, none⟩ (.slice none 0 0)).setCell ⟨w.heap.size, 8, none⟩ (.slice none 0 0)).setCell ⟨w.heap.size, 9, none⟩ (.slice none 0 0))) := Lib.hid ((HBW.out.trans (HC8.out.below (by have := HRE.out; have := HBL.out; omega) (fun i (hi : i = R) => by have := HRE.out; omega))).trans (hcB.below (by have := HC8.out.size; have := HBL.out; omega) (fun i (hi : i = w.heap.size) => by omega)))
     clear hF hcB hB hT
     go_wp2_with fail
     generalize ((((((((((u2.setCell ⟨w.heap.size, 0, none⟩ (.int .i64 1)).setCell ⟨w.heap.size, 1, none⟩ (.int .i64 5)).setCell ⟨w.heap.size, 2, none⟩ (.int .i64 5)).setCell ⟨w.heap.size, 3, none⟩ (.int .i64 1)).setCell ⟨w.heap.size, 4, none⟩ (.slice none 0 0)).setCell ⟨w.heap.size, 5, none⟩ (.slice none 0 0)).setCell ⟨w.heap.size, 6, none⟩ (.slice none 0 0)).setCell ⟨w.heap.size, 7, none⟩ (.slice none 0 0)).setCell ⟨w.heap.size, 8, none⟩ (.slice none 0 0)).setCell ⟨w.heap.size, 9, none⟩ (.slice none 0 0)) = Z at *
     have y0 : Z.cell? ⟨w.heap.size, 0, none⟩ = some (.int .i64 1) := cell_of_row Z _ 0 _ _ _ HF.out
     have y1 : Z.cell? ⟨w.heap.size, 1, none⟩ = some (.int .i64 5) := cell_of_row Z _ 1 _ _ _ HF.out
     have y2 : Z.cell? ⟨w.heap.size, 2, none⟩ = some (.int .i64 5) := cell_of_row Z _ 2 _ _ _ HF.out
     have y3 : Z.cell? ⟨w.heap.size, 3, none⟩ = some (.int .i64 1) := cell_of_row Z _ 3 _ _ _ HF.out
     have y4 : Z.cell? ⟨w.heap.size, 4, none⟩ = some (.slice none 0 0) := cell_of_row Z _ 4 _ _ _ HF.out
     have y5 : Z.cell? ⟨w.heap.size, 5, none⟩ = some (.slice none 0 0) := cell_of_row Z _ 5 _ _ _ HF.out
     have y6 : Z.cell? ⟨w.heap.size, 6, none⟩ = some (.slice none 0 0) := cell_of_row Z _ 6 _ _ _ HF.out
     have y7 : Z.cell? ⟨w.heap.size, 7, none⟩ = some (.slice none 0 0) := cell_of_row Z _ 7 _ _ _ HF.out
     have y8 : Z.cell? ⟨w.heap.size, 8, none⟩ = some (.slice none 0 0) := cell_of_row Z _ 8 _ _ _ HF.out
     have y9 : Z.cell? ⟨w.heap.size, 9, none⟩ = some (.slice none 0 0) := cell_of_row Z _ 9 _ _ _ HF.out
     exact bodyPost_ret (v := .tuple #[.agg #[.int .i64 1, .int .i64 5, .int .i64 5, .int .i64 1, .slice none 0 0, .slice none 0 0, .slice none 0 0, .slice none 0 0, .slice none 0 0, .slice none 0 0], .int .i64 0]) (by simp [results, Tryz.results17, go_sem, y0, y1, y2, y3, y4, y5, y6, y7, y8, y9]) rfl ⟨rfl, HFB.out⟩
   ·refine runF 17 (some 5) (v := .pointer (some ⟨y2.heap.size, 0, none⟩)) (w' := (y2.alloc (.cells #[.int .i64 0, .int .i64 0, .int .i64 0, .int .i64 0, .slice none 0 0, .slice none 0 0, .slice none 0 0, .slice none 0 0, .slice none 0 0, .slice none 0 0] 29))) rfl rfl (by rfl) ?_ ?_
    ·go_simp <;> with_reducible rfl
    obtain ⟨T, hTe⟩ : ∃ T, T = y2.heap.size := ⟨_, rfl⟩
    obtain ⟨y3, hye⟩ : ∃ y, y = y2.alloc (.cells #[.int .i64 0, .int .i64 0, .int .i64 0, .int .i64 0, .slice none 0 0, .slice none 0 0, .slice none 0 0, .slice none 0 0, .slice none 0 0, .slice none 0 0] 29) := ⟨_, rfl⟩
    have hbN : Below y2.heap.size y2 y3 := by rw [hye]; exact Below.of_alloc _
    have hT : y3.heap[T]? = some (.cells #[.int .i64 0, .int .i64 0, .int .i64 0, .int .i64 0, .slice none 0 0, .slice none 0 0, .slice none 0 0, .slice none 0 0, .slice none 0 0, .slice none 0 0] 29 (0, 0)) := by rw [hye, hTe]; exact heap_alloc_new _ _
    have hTl : T < y3.heap.size := by rw [hye, hTe]; simp
    have hTW : W.heap.size ≤ T := by rw [hTe]; exact hc.size
    have hTR : T ≠ R := by have := HRW.out; omega
    have hs' := hs.below hbN
    have hc' : Chg (· = R) W y3 := hc.then_below hbN
    clear hs hc hbN
    have hs := hs'
    have hc := hc'
    clear hs' hc'
    rw [← hye, ← hTe]
    clear hye hTe
    refine keepAnd ?_ (fun hNew => ?_)
    ·intro _; trivial
    have hNew := hNew (by decide)
    clear hHeld
    have hHeld := hNew
    clear hNew
    simp only [Act.put, List.setIfInBounds_toArray, List.set_cons_zero, List.set_cons_succ]
    refine fork1 11 (by kernel_rfl) ?_
    refine callF 11 (some 27) (f := ?_) (args := ?_) rfl rfl (by rfl) ?_ ?_
    rotate_left 2
    ·go_simp <;> first | (constructor <;> with_reducible rfl) | with_reducible rfl
    (with_reducible refine (KI2 y3 hs hc).mono ?_)
    rintro _ y4 ⟨rfl, hs', hc'⟩
    have hcN : Chg (· = R) W y4 := hc.trans hc' (fun _ _ h => h)
    have hTN := (hc'.block T hTl hTR).trans hT
    have hTlN : T < y4.heap.size := Nat.lt_of_lt_of_le hTl hc'.size
    clear hs hc hc' hT hTl
    have hs := hs'
    have hc := hcN
    have hT := hTN
    have hTl := hTlN
    clear hTN hTlN
    clear hs' hcN
    refine ⟨_, rfl, ?_⟩
    refine keepAnd ?_ (fun hNew => ?_)
    ·intro _; trivial
    have hNew := hNew (by decide)
    clear hHeld
    have hHeld := hNew
    clear hNew
    simp only [Act.put, List.setIfInBounds_toArray, List.set_cons_zero, List.set_cons_succ]
    refine fork1 15 (by kernel_rfl) ?_
    refine callF 15 (some 31) (f := ?_) (args := ?_) rfl rfl (by rfl) ?_ ?_
    rotate_left 2
    ·go_simp <;> first | (constructor <;> with_reducible rfl) | with_reducible rfl
    (with_reducible refine (KI3 y4 hs hc).mono ?_)
    rintro _ y5 ⟨rfl, hs', hc'⟩
    have hcN : Chg (· = R) W y5 := hc.trans hc' (fun _ _ h => h)
    have hTN := (hc'.block T hTl hTR).trans hT
    have hTlN : T < y5.heap.size := Nat.lt_of_lt_of_le hTl hc'.size
    clear hs hc hc' hT hTl
    have hs := hs'
    have hc := hcN
    have hT := hTN
    have hTl := hTlN
    clear hTN hTlN
    clear hs' hcN
    refine ⟨_, rfl, ?_⟩
    refine keepAnd ?_ (fun hNew => ?_)
    ·intro _; trivial
    have hNew := hNew (by decide)
    clear hHeld
    have hHeld := hNew
    clear hNew
    simp only [Act.put, List.setIfInBounds_toArray, List.set_cons_zero, List.set_cons_succ]
    refine takeT 16 (some 32) (v := ?_) rfl rfl (by kernel_rfl) (by kernel_rfl) (by kernel_rfl) (by kernel_rfl) (by rfl) hHeld (fun _ _ _ h => h) ?_ ?_
    rotate_left
    ·intro w' hSw; (try dsimp only at hSw); go_simp <;> with_reducible rfl
    simp only [Act.put, List.setIfInBounds_toArray, List.set_cons_zero, List.set_cons_succ]
    refine fork1 18 (by kernel_rfl) ?_
    refine skipRunF 18 none (w' := ((((((((((y5.setCell ⟨T, 0, none⟩ (.int .i64 1)).setCell ⟨T, 1, none⟩ (.int .i64 5)).setCell ⟨T, 2, none⟩ (.int .i64 5)).setCell ⟨T, 3, none⟩ (.int .i64 1)).setCell ⟨T, 4, none⟩ (.slice none 0 0)).setCell ⟨T, 5, none⟩ (.slice none 0 0)).setCell ⟨T, 6, none⟩ (.slice none 0 0)).setCell ⟨T, 7, none⟩ (.slice none 0 0)).setCell ⟨T, 8, none⟩ (.slice none 0 0)).setCell ⟨T, 9, none⟩ (.slice none 0 0))) rfl rfl (by rfl) ?_ ?_
    ·have t0 : y5.cell? ⟨T, 0, none⟩ = some (.int .i64 0) := cell_of_row y5 _ 0 _ _ _ hT; have z0 : y5.frozen? ⟨T, 0, none⟩ = false := frozen_of_row y5 _ 0 _ _ hT; have t1 : y5.cell? ⟨T, 1, none⟩ = some (.int .i64 0) := cell_of_row y5 _ 1 _ _ _ hT; have z1 : y5.frozen? ⟨T, 1, none⟩ = false := frozen_of_row y5 _ 1 _ _ hT; have t2 : y5.cell? ⟨T, 2, none⟩ = some (.int .i64 0) := cell_of_row y5 _ 2 _ _ _ hT; have z2 : y5.frozen? ⟨T, 2, none⟩ = false := frozen_of_row y5 _ 2 _ _ hT; have t3 : y5.cell? ⟨T, 3, none⟩ = some (.int .i64 0) := cell_of_row y5 _ 3 _ _ _ hT; have z3 : y5.frozen? ⟨T, 3, none⟩ = false := frozen_of_row y5 _ 3 _ _ hT; have t4 : y5.cell? ⟨T, 4, none⟩ = some (.slice none 0 0) := cell_of_row y5 _ 4 _ _ _ hT; have z4 : y5.frozen? ⟨T, 4, none⟩ = false := frozen_of_row y5 _ 4 _ _ hT; have t5 : y5.cell? ⟨T, 5, none⟩ = some (.slice none 0 0) := cell_of_row y5 _ 5 _ _ _ hT; have z5 : y5.frozen? ⟨T, 5, none⟩ = false := frozen_of_row y5 _ 5 _ _ hT; have t6 : y5.cell? ⟨T, 6, none⟩ = some (.slice none 0 0) := cell_of_row y5 _ 6 _ _ _ hT; have z6 : y5.frozen? ⟨T, 6, none⟩ = false := frozen_of_row y5 _ 6 _ _ hT; have t7 : y5.cell? ⟨T, 7, none⟩ = some (.slice none 0 0) := cell_of_row y5 _ 7 _ _ _ hT; have z7 : y5.frozen? ⟨T, 7, none⟩ = false := frozen_of_row y5 _ 7 _ _ hT; have t8 : y5.cell? ⟨T, 8, none⟩ = some (.slice none 0 0) := cell_of_row y5 _ 8 _ _ _ hT; have z8 : y5.frozen? ⟨T, 8, none⟩ = false := frozen_of_row y5 _ 8 _ _ hT; have t9 : y5.cell? ⟨T, 9, none⟩ = some (.slice none 0 0) := cell_of_row y5 _ 9 _ _ _ hT; have z9 : y5.frozen? ⟨T, 9, none⟩ = false := frozen_of_row y5 _ 9 _ _ hT; go_simp <;> with_reducible rfl
    refine ⟨fun h => absurd rfl h, ?_⟩
    clear hHeld
    simp only [Act.put]
    refine doneT (by kernel_rfl) ?_ _
    refine NoPanic.normal ?_
    have hTF := ten_set hT (.int .i64 1) (.int .i64 5) (.int .i64 5) (.int .i64 1) (.slice none 0 0) (.slice none 0 0) (.slice none 0 0) (.slice none 0 0) (.slice none 0 0) (.slice none 0 0)
    have hcT := ten_chg y5 T (.int .i64 1) (.int .i64 5) (.int .i64 5) (.int .i64 1) (.slice none 0 0) (.slice none 0 0) (.slice none 0 0) (.slice none 0 0) (.slice none 0 0) (.slice none 0 0)
    have hcF : Chg (· = R) W ((((((((((y5.setCell ⟨T, 0, none⟩ (.int .i64 1)).setCell ⟨T, 1, none⟩ (.int .i64 5)).setCell ⟨T, 2, none⟩ (.int .i64 5)).setCell ⟨T, 3, none⟩ (.int .i64 1)).setCell ⟨T, 4, none⟩ (.slice none 0 0)).setCell ⟨T, 5, none⟩ (.slice none 0 0)).setCell ⟨T, 6, none⟩ (.slice none 0 0)).setCell ⟨T, 7, none⟩ (.slice none 0 0)).setCell ⟨T, 8, none⟩ (.slice none 0 0)).setCell ⟨T, 9, none⟩ (.slice none 0 0)) := ((((((((((hc).setCell (p := ⟨T, 0, none⟩) (.inr hTW) (.int .i64 1)).setCell (p := ⟨T, 1, none⟩) (.inr hTW) (.int .i64 5)).setCell (p := ⟨T, 2, none⟩) (.inr hTW) (.int .i64 5)).setCell (p := ⟨T, 3, none⟩) (.inr hTW) (.int .i64 1)).setCell (p := ⟨T, 4, none⟩) (.inr hTW) (.slice none 0 0)).setCell (p := ⟨T, 5, none⟩) (.inr hTW) (.slice none 0 0)).setCell (p := ⟨T, 6, none⟩) (.inr hTW) (.slice none 0 0)).setCell (p := ⟨T, 7, none⟩) (.inr hTW) (.slice none 0 0)).setCell (p := ⟨T, 8, none⟩) (.inr hTW) (.slice none 0 0)).setCell (p := ⟨T, 9, none⟩) (.inr hTW) (.slice none 0 0)
    have hsF : SrcAt ((((((((((y5.setCell ⟨T, 0, none⟩ (.int .i64 1)).setCell ⟨T, 1, none⟩ (.int .i64 5)).setCell ⟨T, 2, none⟩ (.int .i64 5)).setCell ⟨T, 3, none⟩ (.int .i64 1)).setCell ⟨T, 4, none⟩ (.slice none 0 0)).setCell ⟨T, 5, none⟩ (.slice none 0 0)).setCell ⟨T, 6, none⟩ (.slice none 0 0)).setCell ⟨T, 7, none⟩ (.slice none 0 0)).setCell ⟨T, 8, none⟩ (.slice none 0 0)).setCell ⟨T, 9, none⟩ (.slice none 0 0)) R (.slice Av 10 cv) (4, 0) := (hcT.block R hs.lt (fun e => hTR e.symm)).trans hs
    have hTl2 := hcT.size
    generalize ((((((((((y5.setCell ⟨T, 0, none⟩ (.int .i64 1)).setCell ⟨T, 1, none⟩ (.int .i64 5)).setCell ⟨T, 2, none⟩ (.int .i64 5)).setCell ⟨T, 3, none⟩ (.int .i64 1)).setCell ⟨T, 4, none⟩ (.slice none 0 0)).setCell ⟨T, 5, none⟩ (.slice none 0 0)).setCell ⟨T, 6, none⟩ (.slice none 0 0)).setCell ⟨T, 7, none⟩ (.slice none 0 0)).setCell ⟨T, 8, none⟩ (.slice none 0 0)).setCell ⟨T, 9, none⟩ (.slice none 0 0)) = x0 at *
    have HT0 := Lib.hid hTF
    have HC0 := Lib.hid hcF
    have HX0 := Lib.hid hsF
    have HTL0 : Hid (T < x0.heap.size) := Lib.hid (by omega)
    have HTR := Lib.hid hTR
    have HTW := Lib.hid hTW
    clear hTF hcT hcF hsF hT hc hs hTl hTl2 hTR hTW
    have KG := get0Entry R _ [2, 10, 10, 2, 0, 0, 0, 0, 0, 0] (4, 0) 5 x0 HX0.out (HVV.out x0 HC0.out) (by decide)
    go_wp2_with fail
    (with_reducible refine KG.mono ?_)
    rintro _ u ⟨rfl, hs, hc⟩
    have hT := (hc.block T HTL0.out HTR.out).trans HT0.out
    have t4 : u.cell? ⟨T, 4, none⟩ = some (.slice none 0 0) := cell_of_row u _ 4 _ _ _ hT
    have z4 : u.frozen? ⟨T, 4, none⟩ = false := frozen_of_row u _ 4 _ _ hT
    have hT2 : (u.setCell ⟨T, 4, none⟩ (.slice none 0 0)).heap[T]? = some (.cells #[.int .i64 1, .int .i64 5, .int .i64 5, .int .i64 1, .slice none 0 0, .slice none 0 0, .slice none 0 0, .slice none 0 0, .slice none 0 0, .slice none 0 0] 29 (0, 0)) := by simpa using heap_setCell_same u T 4 _ _ (.slice none 0 0) hT
    have hc2 : Chg (· = R) W (u.setCell ⟨T, 4, none⟩ (.slice none 0 0)) := (HC0.out.trans hc (fun _ _ h => h)).setCell (p := ⟨T, 4, none⟩) (.inr HTW.out) _
    have hs2 : SrcAt (u.setCell ⟨T, 4, none⟩ (.slice none 0 0)) R (.slice Av 10 cv) (5, 0) := hs.other (p := ⟨T, 4, none⟩) HTR.out
    have hl2 : T < (u.setCell ⟨T, 4, none⟩ (.slice none 0 0)).heap.size := (Array.getElem?_eq_some_iff.1 hT2).1
    clear hs hc hT KG
    go_upto_region 6 with (fail)
    generalize u.setCell ⟨T, 4, none⟩ (.slice none 0 0) = x1 at *
    have HT1 := Lib.hid hT2
    have HC1 := Lib.hid hc2
    have HX1 := Lib.hid hs2
    have HTL1 := Lib.hid hl2
    clear hT2 hc2 hs2 hl2 t4 z4 HT0 HC0 HX0 HTL0
    have KG := get0Delta R _ [2, 10, 10, 2, 0, 0, 0, 0, 0, 0] (5, 0) 6 x1 HX1.out (HVV.out x1 HC1.out) (by decide)
    go_wp2_with fail
    (with_reducible refine KG.mono ?_)
    rintro _ u ⟨rfl, hs, hc⟩
    have hT := (hc.block T HTL1.out HTR.out).trans HT1.out
    have t5 : u.cell? ⟨T, 5, none⟩ = some (.slice none 0 0) := cell_of_row u _ 5 _ _ _ hT
    have z5 : u.frozen? ⟨T, 5, none⟩ = false := frozen_of_row u _ 5 _ _ hT
    have hT2 : (u.setCell ⟨T, 5, none⟩ (.slice none 0 0)).heap[T]? = some (.cells #[.int .i64 1, .int .i64 5, .int .i64 5, .int .i64 1, .slice none 0 0, .slice none 0 0, .slice none 0 0, .slice none 0 0, .slice none 0 0, .slice none 0 0] 29 (0, 0)) := by simpa using heap_setCell_same u T 5 _ _ (.slice none 0 0) hT
    have hc2 : Chg (· = R) W (u.setCell ⟨T, 5, none⟩ (.slice none 0 0)) := (HC1.out.trans hc (fun _ _ h => h)).setCell (p := ⟨T, 5, none⟩) (.inr HTW.out) _
    have hs2 : SrcAt (u.setCell ⟨T, 5, none⟩ (.slice none 0 0)) R (.slice Av 10 cv) (6, 0) := hs.other (p := ⟨T, 5, none⟩) HTR.out
    have hl2 : T < (u.setCell ⟨T, 5, none⟩ (.slice none 0 0)).heap.size := (Array.getElem?_eq_some_iff.1 hT2).1
    clear hs hc hT KG
    go_upto_region 7 with (fail)
    generalize u.setCell ⟨T, 5, none⟩ (.slice none 0 0) = x2 at *
    have HT2 := Lib.hid hT2
    have HC2 := Lib.hid hc2
    have HX2 := Lib.hid hs2
    have HTL2 := Lib.hid hl2
    clear hT2 hc2 hs2 hl2 t5 z5 HT1 HC1 HX1 HTL1
    have KG := get0Hold R _ [2, 10, 10, 2, 0, 0, 0, 0, 0, 0] (6, 0) 7 x2 HX2.out (HVV.out x2 HC2.out) (by decide)
    go_wp2_with fail
    (with_reducible refine KG.mono ?_)
    rintro _ u ⟨rfl, hs, hc⟩
    have hT := (hc.block T HTL2.out HTR.out).trans HT2.out
    have t6 : u.cell? ⟨T, 6, none⟩ = some (.slice none 0 0) := cell_of_row u _ 6 _ _ _ hT
    have z6 : u.frozen? ⟨T, 6, none⟩ = false := frozen_of_row u _ 6 _ _ hT
    have hT2 : (u.setCell ⟨T, 6, none⟩ (.slice none 0 0)).heap[T]? = some (.cells #[.int .i64 1, .int .i64 5, .int .i64 5, .int .i64 1, .slice none 0 0, .slice none 0 0, .slice none 0 0, .slice none 0 0, .slice none 0 0, .slice none 0 0] 29 (0, 0)) := by simpa using heap_setCell_same u T 6 _ _ (.slice none 0 0) hT
    have hc2 : Chg (· = R) W (u.setCell ⟨T, 6, none⟩ (.slice none 0 0)) := (HC2.out.trans hc (fun _ _ h => h)).setCell (p := ⟨T, 6, none⟩) (.inr HTW.out) _
    have hs2 : SrcAt (u.setCell ⟨T, 6, none⟩ (.slice none 0 0)) R (.slice Av 10 cv) (7, 0) := hs.other (p := ⟨T, 6, none⟩) HTR.out
    have hl2 : T < (u.setCell ⟨T, 6, none⟩ (.slice none 0 0)).heap.size := (Array.getElem?_eq_some_iff.1 hT2).1
    clear hs hc hT KG
    go_upto_region 8 with (fail)
    generalize u.setCell ⟨T, 6, none⟩ (.slice none 0 0) = x3 at *
    have HT3 := Lib.hid hT2
    have HC3 := Lib.hid hc2
    have HX3 := Lib.hid hs2
    have HTL3 := Lib.hid hl2
    clear hT2 hc2 hs2 hl2 t6 z6 HT2 HC2 HX2 HTL2
    have KG := get0Str R _ [2, 10, 10, 2, 0, 0, 0, 0, 0, 0] (7, 0) 8 x3 HX3.out (HVV.out x3 HC3.out) (by decide)
    go_wp2_with fail
    (with_reducible refine KG.mono ?_)
    rintro _ u ⟨rfl, hs, hc⟩
    have hT := (hc.block T HTL3.out HTR.out).trans HT3.out
    have t7 : u.cell? ⟨T, 7, none⟩ = some (.slice none 0 0) := cell_of_row u _ 7 _ _ _ hT
    have z7 : u.frozen? ⟨T, 7, none⟩ = false := frozen_of_row u _ 7 _ _ hT
    have hT2 : (u.setCell ⟨T, 7, none⟩ (.slice none 0 0)).heap[T]? = some (.cells #[.int .i64 1, .int .i64 5, .int .i64 5, .int .i64 1, .slice none 0 0, .slice none 0 0, .slice none 0 0, .slice none 0 0, .slice none 0 0, .slice none 0 0] 29 (0, 0)) := by simpa using heap_setCell_same u T 7 _ _ (.slice none 0 0) hT
    have hc2 : Chg (· = R) W (u.setCell ⟨T, 7, none⟩ (.slice none 0 0)) := (HC3.out.trans hc (fun _ _ h => h)).setCell (p := ⟨T, 7, none⟩) (.inr HTW.out) _
    have hs2 : SrcAt (u.setCell ⟨T, 7, none⟩ (.slice none 0 0)) R (.slice Av 10 cv) (8, 0) := hs.other (p := ⟨T, 7, none⟩) HTR.out
    have hl2 : T < (u.setCell ⟨T, 7, none⟩ (.slice none 0 0)).heap.size := (Array.getElem?_eq_some_iff.1 hT2).1
    clear hs hc hT KG
    go_upto_region 9 with (fail)
    generalize u.setCell ⟨T, 7, none⟩ (.slice none 0 0) = x4 at *
    have HT4 := Lib.hid hT2
    have HC4 := Lib.hid hc2
    have HX4 := Lib.hid hs2
    have HTL4 := Lib.hid hl2
    clear hT2 hc2 hs2 hl2 t7 z7 HT3 HC3 HX3 HTL3
    have KG := get0Policy R _ [2, 10, 10, 2, 0, 0, 0, 0, 0, 0] (8, 0) 9 x4 HX4.out (HVV.out x4 HC4.out) (by decide)
    go_wp2_with fail
    (with_reducible refine KG.mono ?_)
    rintro _ u ⟨rfl, hs, hc⟩
    have hT := (hc.block T HTL4.out HTR.out).trans HT4.out
    have t8 : u.cell? ⟨T, 8, none⟩ = some (.slice none 0 0) := cell_of_row u _ 8 _ _ _ hT
    have z8 : u.frozen? ⟨T, 8, none⟩ = false := frozen_of_row u _ 8 _ _ hT
    have hT2 : (u.setCell ⟨T, 8, none⟩ (.slice none 0 0)).heap[T]? = some (.cells #[.int .i64 1, .int .i64 5, .int .i64 5, .int .i64 1, .slice none 0 0, .slice none 0 0, .slice none 0 0, .slice none 0 0, .slice none 0 0, .slice none 0 0] 29 (0, 0)) := by simpa using heap_setCell_same u T 8 _ _ (.slice none 0 0) hT
    have hc2 : Chg (· = R) W (u.setCell ⟨T, 8, none⟩ (.slice none 0 0)) := (HC4.out.trans hc (fun _ _ h => h)).setCell (p := ⟨T, 8, none⟩) (.inr HTW.out) _
    have hs2 : SrcAt (u.setCell ⟨T, 8, none⟩ (.slice none 0 0)) R (.slice Av 10 cv) (9, 0) := hs.other (p := ⟨T, 8, none⟩) HTR.out
    have hl2 : T < (u.setCell ⟨T, 8, none⟩ (.slice none 0 0)).heap.size := (Array.getElem?_eq_some_iff.1 hT2).1
    clear hs hc hT KG
    go_upto_region 10 with (fail)
    generalize u.setCell ⟨T, 8, none⟩ (.slice none 0 0) = x5 at *
    have HT5 := Lib.hid hT2
    have HC5 := Lib.hid hc2
    have HX5 := Lib.hid hs2
    have HTL5 := Lib.hid hl2
    clear hT2 hc2 hs2 hl2 t8 z8 HT4 HC4 HX4 HTL4
    have KG := get0Horizon R _ [2, 10, 10, 2, 0, 0, 0, 0, 0, 0] (9, 0) 10 x5 HX5.out (HVV.out x5 HC5.out) (by decide)
    go_wp2_with fail
    (with_reducible refine KG.mono ?_)
    rintro _ u ⟨rfl, hs, hc⟩
    have hT := (hc.block T HTL5.out HTR.out).trans HT5.out
    have t9 : u.cell? ⟨T, 9, none⟩ = some (.slice none 0 0) := cell_of_row u _ 9 _ _ _ hT
    have z9 : u.frozen? ⟨T, 9, none⟩ = false := frozen_of_row u _ 9 _ _ hT
    have hT2 : (u.setCell ⟨T, 9, none⟩ (.slice none 0 0)).heap[T]? = some (.cells #[.int .i64 1, .int .i64 5, .int .i64 5, .int .i64 1, .slice none 0 0, .slice none 0 0, .slice none 0 0, .slice none 0 0, .slice none 0 0, .slice none 0 0] 29 (0, 0)) := by simpa using heap_setCell_same u T 9 _ _ (.slice none 0 0) hT
    have hc2 : Chg (· = R) W (u.setCell ⟨T, 9, none⟩ (.slice none 0 0)) := (HC5.out.trans hc (fun _ _ h => h)).setCell (p := ⟨T, 9, none⟩) (.inr HTW.out) _
    have hs2 : SrcAt (u.setCell ⟨T, 9, none⟩ (.slice none 0 0)) R (.slice Av 10 cv) (10, 0) := hs.other (p := ⟨T, 9, none⟩) HTR.out
    have hl2 : T < (u.setCell ⟨T, 9, none⟩ (.slice none 0 0)).heap.size := (Array.getElem?_eq_some_iff.1 hT2).1
    clear hs hc hT KG
    go_upto_region 11 with (fail)
    generalize u.setCell ⟨T, 9, none⟩ (.slice none 0 0) = x6 at *
    have HT6 := Lib.hid hT2
    have HC6 := Lib.hid hc2
    have HX6 := Lib.hid hs2
    have HTL6 := Lib.hid hl2
    clear hT2 hc2 hs2 hl2 t9 z9 HT5 HC5 HX5 HTL5
    have KE := srcEnd_any R _ [2, 10, 10, 2, 0, 0, 0, 0, 0, 0] (10, 0) x6 HX6.out (HVV.out x6 HC6.out)
    rw [show endE (10, 0) ([2, 10, 10, 2, 0, 0, 0, 0, 0, 0] : List UInt8).length = 0 from by decide] at KE
    go_wp2_with fail
    (with_reducible refine KE.mono ?_)
    rintro _ u ⟨rfl, hb⟩
    have hT := (hb.block T HTL6.out).trans HT6.out
    have HTL7 : Hid (T < u.heap.size) := Lib.hid (Array.getElem?_eq_some_iff.1 hT).1
    have HC7 : Hid (Chg (· = R) W u) := Lib.hid (HC6.out.then_below hb)
    have HT7 := Lib.hid hT
    have KC := chkNil u
    have t0 : u.cell? ⟨T, 0, none⟩ = some (.int .i64 1) := cell_of_row u _ 0 _ _ _ hT
    have t1 : u.cell? ⟨T, 1, none⟩ = some (.int .i64 5) := cell_of_row u _ 1 _ _ _ hT
    have t2 : u.cell? ⟨T, 2, none⟩ = some (.int .i64 5) := cell_of_row u _ 2 _ _ _ hT
    have t3 : u.cell? ⟨T, 3, none⟩ = some (.int .i64 1) := cell_of_row u _ 3 _ _ _ hT
    have t4 : u.cell? ⟨T, 4, none⟩ = some (.slice none 0 0) := cell_of_row u _ 4 _ _ _ hT
    have t5 : u.cell? ⟨T, 5, none⟩ = some (.slice none 0 0) := cell_of_row u _ 5 _ _ _ hT
    have t6 : u.cell? ⟨T, 6, none⟩ = some (.slice none 0 0) := cell_of_row u _ 6 _ _ _ hT
    have t7 : u.cell? ⟨T, 7, none⟩ = some (.slice none 0 0) := cell_of_row u _ 7 _ _ _ hT
    have t8 : u.cell? ⟨T, 8, none⟩ = some (.slice none 0 0) := cell_of_row u _ 8 _ _ _ hT
    have t9 : u.cell? ⟨T, 9, none⟩ = some (.slice none 0 0) := cell_of_row u _ 9 _ _ _ hT
    clear hb hT KE HT6 HC6 HX6 HTL6
    go_upto_region 14 with (fail)
    go_wp2_with fail
    (with_reducible refine KC.mono ?_)
    rintro _ u2 ⟨rfl, hb⟩
    have hT := (hb.block T HTL7.out).trans HT7.out
    have HC8 : Hid (Chg (· = R) W u2) := Lib.hid (HC7.out.then_below hb)
    have hB := (HC8.out.block w.heap.size HBL.out (by have := HRE.out; omega)).trans HBZ.out
    clear t0 t1 t2 t3 t4 t5 t6 t7 t8 t9 KC hb
    go_upto_region 17 with (fail)
    have t0 : u2.cell? ⟨T, 0, none⟩ = some (.int .i64 1) := cell_of_row u2 _ 0 _ _ _ hT
    have t1 : u2.cell? ⟨T, 1, none⟩ = some (.int .i64 5) := cell_of_row u2 _ 1 _ _ _ hT
    have t2 : u2.cell? ⟨T, 2, none⟩ = some (.int .i64 5) := cell_of_row u2 _ 2 _ _ _ hT
    have t3 : u2.cell? ⟨T, 3, none⟩ = some (.int .i64 1) := cell_of_row u2 _ 3 _ _ _ hT
    have t4 : u2.cell? ⟨T, 4, none⟩ = some (.slice none 0 0) := cell_of_row u2 _ 4 _ _ _ hT
    have t5 : u2.cell? ⟨T, 5, none⟩ = some (.slice none 0 0) := cell_of_row u2 _ 5 _ _ _ hT
    have t6 : u2.cell? ⟨T, 6, none⟩ = some (.slice none 0 0) := cell_of_row u2 _ 6 _ _ _ hT
    have t7 : u2.cell? ⟨T, 7, none⟩ = some (.slice none 0 0) := cell_of_row u2 _ 7 _ _ _ hT
    have t8 : u2.cell? ⟨T, 8, none⟩ = some (.slice none 0 0) := cell_of_row u2 _ 8 _ _ _ hT
    have t9 : u2.cell? ⟨T, 9, none⟩ = some (.slice none 0 0) := cell_of_row u2 _ 9 _ _ _ hT
    have q0 : u2.cell? ⟨w.heap.size, 0, none⟩ = some (.int .i64 0) := cell_of_row u2 _ 0 _ _ _ hB
    have q1 : u2.cell? ⟨w.heap.size, 1, none⟩ = some (.int .i64 0) := cell_of_row u2 _ 1 _ _ _ hB
    have q2 : u2.cell? ⟨w.heap.size, 2, none⟩ = some (.int .i64 0) := cell_of_row u2 _ 2 _ _ _ hB
    have q3 : u2.cell? ⟨w.heap.size, 3, none⟩ = some (.int .i64 0) := cell_of_row u2 _ 3 _ _ _ hB
    have q4 : u2.cell? ⟨w.heap.size, 4, none⟩ = some (.slice none 0 0) := cell_of_row u2 _ 4 _ _ _ hB
    have q5 : u2.cell? ⟨w.heap.size, 5, none⟩ = some (.slice none 0 0) := cell_of_row u2 _ 5 _ _ _ hB
    have q6 : u2.cell? ⟨w.heap.size, 6, none⟩ = some (.slice none 0 0) := cell_of_row u2 _ 6 _ _ _ hB
    have q7 : u2.cell? ⟨w.heap.size, 7, none⟩ = some (.slice none 0 0) := cell_of_row u2 _ 7 _ _ _ hB
    have q8 : u2.cell? ⟨w.heap.size, 8, none⟩ = some (.slice none 0 0) := cell_of_row u2 _ 8 _ _ _ hB
    have q9 : u2.cell? ⟨w.heap.size, 9, none⟩ = some (.slice none 0 0) := cell_of_row u2 _ 9 _ _ _ hB
    have f0 : u2.frozen? ⟨w.heap.size, 0, none⟩ = false := frozen_of_row u2 _ 0 _ _ hB
    have f1 : u2.frozen? ⟨w.heap.size, 1, none⟩ = false := frozen_of_row u2 _ 1 _ _ hB
    have f2 : u2.frozen? ⟨w.heap.size, 2, none⟩ = false := frozen_of_row u2 _ 2 _ _ hB
    have f3 : u2.frozen? ⟨w.heap.size, 3, none⟩ = false := frozen_of_row u2 _ 3 _ _ hB
    have f4 : u2.frozen? ⟨w.heap.size, 4, none⟩ = false := frozen_of_row u2 _ 4 _ _ hB
    have f5 : u2.frozen? ⟨w.heap.size, 5, none⟩ = false := frozen_of_row u2 _ 5 _ _ hB
    have f6 : u2.frozen? ⟨w.heap.size, 6, none⟩ = false := frozen_of_row u2 _ 6 _ _ hB
    have f7 : u2.frozen? ⟨w.heap.size, 7, none⟩ = false := frozen_of_row u2 _ 7 _ _ hB
    have f8 : u2.frozen? ⟨w.heap.size, 8, none⟩ = false := frozen_of_row u2 _ 8 _ _ hB
    have f9 : u2.frozen? ⟨w.heap.size, 9, none⟩ = false := frozen_of_row u2 _ 9 _ _ hB
    have hF := ten_set hB (.int .i64 1) (.int .i64 5) (.int .i64 5) (.int .i64 1) (.slice none 0 0) (.slice none 0 0) (.slice none 0 0) (.slice none 0 0) (.slice none 0 0) (.slice none 0 0)
    have hcB := ten_chg u2 w.heap.size (.int .i64 1) (.int .i64 5) (.int .i64 5) (.int .i64 1) (.slice none 0 0) (.slice none 0 0) (.slice none 0 0) (.slice none 0 0) (.slice none 0 0) (.slice none 0 0)
    have HF := Lib.hid hF
    have HFB : Hid (Below w.heap.size w ((((((((((u2.setCell ⟨w.heap.size, 0, none⟩ (.int .i64 1)).setCell ⟨w.heap.size, 1, none⟩ (.int .i64 5)).setCell ⟨w.heap.size, 2, none⟩ (.int .i64 5)).setCell ⟨w.heap.size, 3, none⟩ (.int .i64 1)).setCell ⟨w.heap.size, 4, none⟩ (.slice none 0 0)).setCell ⟨w.heap.size, 5, none⟩ (.slice none 0 0)).setCell ⟨w.heap.size, 6, none⟩ (.slice none 0 0)).setCell ⟨w.heap.size, 7, none⟩ (.slice none 0 0)).setCell ⟨w.heap.size, 8, none⟩ (.slice none 0 0)).setCell ⟨w.heap.size, 9, none⟩ (.slice none 0 0))) := Lib.hid ((HBW.out.trans (HC8.out.below (by have := HRE.out; have := HBL.out; omega) (fun i (hi : i = R) => by have := HRE.out; omega))).trans (hcB.below (by have := HC8.out.size; have := HBL.out; omega) (fun i (hi : i = w.heap.size) => by omega)))
    clear hF hcB hB hT
    go_wp2_with fail
    generalize ((((((((((u2.setCell ⟨w.heap.size, 0, none⟩ (.int .i64 1)).setCell ⟨w.heap.size, 1, none⟩ (.int .i64 5)).setCell ⟨w.heap.size, 2, none⟩ (.int .i64 5)).setCell ⟨w.heap.size, 3, none⟩ (.int .i64 1)).setCell ⟨w.heap.size, 4, none⟩ (.slice none 0 0)).setCell ⟨w.heap.size, 5, none⟩ (.slice none 0 0)).setCell ⟨w.heap.size, 6, none⟩ (.slice none 0 0)).setCell ⟨w.heap.size, 7, none⟩ (.slice none 0 0)).setCell ⟨w.heap.size, 8, none⟩ (.slice none 0 0)).setCell ⟨w.heap.size, 9, none⟩ (.slice none 0 0)) = Z at *
    have y0 : Z.cell? ⟨w.heap.size, 0, none⟩ = some (.int .i64 1) := cell_of_row Z _ 0 _ _ _ HF.out
    have y1 : Z.cell? ⟨w.heap.size, 1, none⟩ = some (.int .i64 5) := cell_of_row Z _ 1 _ _ _ HF.out
    have y2 : Z.cell? ⟨w.heap.size, 2, none⟩ = some (.int .i64 5) := cell_of_row Z _ 2 _ _ _ HF.out
    have y3 : Z.cell? ⟨w.heap.size, 3, none⟩ = some (.int .i64 1) := cell_of_row Z _ 3 _ _ _ HF.out
    have y4 : Z.cell? ⟨w.heap.size, 4, none⟩ = some (.slice none 0 0) := cell_of_row Z _ 4 _ _ _ HF.out
    have y5 : Z.cell? ⟨w.heap.size, 5, none⟩ = some (.slice none 0 0) := cell_of_row Z _ 5 _ _ _ HF.out
    have y6 : Z.cell? ⟨w.heap.size, 6, none⟩ = some (.slice none 0 0) := cell_of_row Z _ 6 _ _ _ HF.out
    have y7 : Z.cell? ⟨w.heap.size, 7, none⟩ = some (.slice none 0 0) := cell_of_row Z _ 7 _ _ _ HF.out
    have y8 : Z.cell? ⟨w.heap.size, 8, none⟩ = some (.slice none 0 0) := cell_of_row Z _ 8 _ _ _ HF.out
    have y9 : Z.cell? ⟨w.heap.size, 9, none⟩ = some (.slice none 0 0) := cell_of_row Z _ 9 _ _ _ HF.out
    exact bodyPost_ret (v := .tuple #[.agg #[.int .i64 1, .int .i64 5, .int .i64 5, .int .i64 1, .slice none 0 0, .slice none 0 0, .slice none 0 0, .slice none 0 0, .slice none 0 0, .slice none 0 0], .int .i64 0]) (by simp [results, Tryz.results17, go_sem, y0, y1, y2, y3, y4, y5, y6, y7, y8, y9]) rfl ⟨rfl, HFB.out⟩
  ·refine runF 17 (some 5) (v := .pointer (some ⟨y1.heap.size, 0, none⟩)) (w' := (y1.alloc (.cells #[.int .i64 0, .int .i64 0, .int .i64 0, .int .i64 0, .slice none 0 0, .slice none 0 0, .slice none 0 0, .slice none 0 0, .slice none 0 0, .slice none 0 0] 29))) rfl rfl (by rfl) ?_ ?_
   ·go_simp <;> with_reducible rfl
   obtain ⟨T, hTe⟩ : ∃ T, T = y1.heap.size := ⟨_, rfl⟩
   obtain ⟨y2, hye⟩ : ∃ y, y = y1.alloc (.cells #[.int .i64 0, .int .i64 0, .int .i64 0, .int .i64 0, .slice none 0 0, .slice none 0 0, .slice none 0 0, .slice none 0 0, .slice none 0 0, .slice none 0 0] 29) := ⟨_, rfl⟩
   have hbN : Below y1.heap.size y1 y2 := by rw [hye]; exact Below.of_alloc _
   have hT : y2.heap[T]? = some (.cells #[.int .i64 0, .int .i64 0, .int .i64 0, .int .i64 0, .slice none 0 0, .slice none 0 0, .slice none 0 0, .slice none 0 0, .slice none 0 0, .slice none 0 0] 29 (0, 0)) := by rw [hye, hTe]; exact heap_alloc_new _ _
   have hTl : T < y2.heap.size := by rw [hye, hTe]; simp
   have hTW : W.heap.size ≤ T := by rw [hTe]; exact hc.size
   have hTR : T ≠ R := by have := HRW.out; omega
   have hs' := hs.below hbN
   have hc' : Chg (· = R) W y2 := hc.then_below hbN
   clear hs hc hbN
   have hs := hs'
   have hc := hc'
   clear hs' hc'
   rw [← hye, ← hTe]
   clear hye hTe
   refine keepAnd ?_ (fun hNew => ?_)
   ·intro _; trivial
   have hNew := hNew (by decide)
   clear hHeld
   have hHeld := hNew
   clear hNew
   simp only [Act.put, List.setIfInBounds_toArray, List.set_cons_zero, List.set_cons_succ]
   refine fork1 7 (by kernel_rfl) ?_
   refine callF 7 (some 23) (f := ?_) (args := ?_) rfl rfl (by rfl) ?_ ?_
   rotate_left 2
   ·go_simp <;> first | (constructor <;> with_reducible rfl) | with_reducible rfl
   (with_reducible refine (KI1 y2 hs hc).mono ?_)
   rintro _ y3 ⟨rfl, hs', hc'⟩
   have hcN : Chg (· = R) W y3 := hc.trans hc' (fun _ _ h => h)
   have hTN := (hc'.block T hTl hTR).trans hT
   have hTlN : T < y3.heap.size := Nat.lt_of_lt_of_le hTl hc'.size
   clear hs hc hc' hT hTl
   have hs := hs'
   have hc := hcN
   have hT := hTN
   have hTl := hTlN
   clear hTN hTlN
   clear hs' hcN
   refine ⟨_, rfl, ?_⟩
   refine keepAnd ?_ (fun hNew => ?_)
   ·intro _; trivial
   have hNew := hNew (by decide)
   clear hHeld
   have hHeld := hNew
   clear hNew
   simp only [Act.put, List.setIfInBounds_toArray, List.set_cons_zero, List.set_cons_succ]
   refine fork1 11 (by kernel_rfl) ?_
   refine callF 11 (some 27) (f := ?_) (args := ?_) rfl rfl (by rfl) ?_ ?_
   rotate_left 2
   ·go_simp <;> first | (constructor <;> with_reducible rfl) | with_reducible rfl
   (with_reducible refine (KI2 y3 hs hc).mono ?_)
   rintro _ y4 ⟨rfl, hs', hc'⟩
   have hcN : Chg (· = R) W y4 := hc.trans hc' (fun _ _ h => h)
   have hTN := (hc'.block T hTl hTR).trans hT
   have hTlN : T < y4.heap.size := Nat.lt_of_lt_of_le hTl hc'.size
   clear hs hc hc' hT hTl
   have hs := hs'
   have hc := hcN
   have hT := hTN
   have hTl := hTlN
   clear hTN hTlN
   clear hs' hcN
   refine ⟨_, rfl, ?_⟩
   refine keepAnd ?_ (fun hNew => ?_)
   ·intro _; trivial
   have hNew := hNew (by decide)
   clear hHeld
   have hHeld := hNew
   clear hNew
   simp only [Act.put, List.setIfInBounds_toArray, List.set_cons_zero, List.set_cons_succ]
   refine fork1 15 (by kernel_rfl) ?_
   refine callF 15 (some 31) (f := ?_) (args := ?_) rfl rfl (by rfl) ?_ ?_
   rotate_left 2
   ·go_simp <;> first | (constructor <;> with_reducible rfl) | with_reducible rfl
   (with_reducible refine (KI3 y4 hs hc).mono ?_)
   rintro _ y5 ⟨rfl, hs', hc'⟩
   have hcN : Chg (· = R) W y5 := hc.trans hc' (fun _ _ h => h)
   have hTN := (hc'.block T hTl hTR).trans hT
   have hTlN : T < y5.heap.size := Nat.lt_of_lt_of_le hTl hc'.size
   clear hs hc hc' hT hTl
   have hs := hs'
   have hc := hcN
   have hT := hTN
   have hTl := hTlN
   clear hTN hTlN
   clear hs' hcN
   refine ⟨_, rfl, ?_⟩
   refine keepAnd ?_ (fun hNew => ?_)
   ·intro _; trivial
   have hNew := hNew (by decide)
   clear hHeld
   have hHeld := hNew
   clear hNew
   simp only [Act.put, List.setIfInBounds_toArray, List.set_cons_zero, List.set_cons_succ]
   refine takeT 16 (some 32) (v := ?_) rfl rfl (by kernel_rfl) (by kernel_rfl) (by kernel_rfl) (by kernel_rfl) (by rfl) hHeld (fun _ _ _ h => h) ?_ ?_
   rotate_left
   ·intro w' hSw; (try dsimp only at hSw); go_simp <;> with_reducible rfl
   simp only [Act.put, List.setIfInBounds_toArray, List.set_cons_zero, List.set_cons_succ]
   refine fork1 18 (by kernel_rfl) ?_
   refine skipRunF 18 none (w' := ((((((((((y5.setCell ⟨T, 0, none⟩ (.int .i64 1)).setCell ⟨T, 1, none⟩ (.int .i64 5)).setCell ⟨T, 2, none⟩ (.int .i64 5)).setCell ⟨T, 3, none⟩ (.int .i64 1)).setCell ⟨T, 4, none⟩ (.slice none 0 0)).setCell ⟨T, 5, none⟩ (.slice none 0 0)).setCell ⟨T, 6, none⟩ (.slice none 0 0)).setCell ⟨T, 7, none⟩ (.slice none 0 0)).setCell ⟨T, 8, none⟩ (.slice none 0 0)).setCell ⟨T, 9, none⟩ (.slice none 0 0))) rfl rfl (by rfl) ?_ ?_
   ·have t0 : y5.cell? ⟨T, 0, none⟩ = some (.int .i64 0) := cell_of_row y5 _ 0 _ _ _ hT; have z0 : y5.frozen? ⟨T, 0, none⟩ = false := frozen_of_row y5 _ 0 _ _ hT; have t1 : y5.cell? ⟨T, 1, none⟩ = some (.int .i64 0) := cell_of_row y5 _ 1 _ _ _ hT; have z1 : y5.frozen? ⟨T, 1, none⟩ = false := frozen_of_row y5 _ 1 _ _ hT; have t2 : y5.cell? ⟨T, 2, none⟩ = some (.int .i64 0) := cell_of_row y5 _ 2 _ _ _ hT; have z2 : y5.frozen? ⟨T, 2, none⟩ = false := frozen_of_row y5 _ 2 _ _ hT; have t3 : y5.cell? ⟨T, 3, none⟩ = some (.int .i64 0) := cell_of_row y5 _ 3 _ _ _ hT; have z3 : y5.frozen? ⟨T, 3, none⟩ = false := frozen_of_row y5 _ 3 _ _ hT; have t4 : y5.cell? ⟨T, 4, none⟩ = some (.slice none 0 0) := cell_of_row y5 _ 4 _ _ _ hT; have z4 : y5.frozen? ⟨T, 4, none⟩ = false := frozen_of_row y5 _ 4 _ _ hT; have t5 : y5.cell? ⟨T, 5, none⟩ = some (.slice none 0 0) := cell_of_row y5 _ 5 _ _ _ hT; have z5 : y5.frozen? ⟨T, 5, none⟩ = false := frozen_of_row y5 _ 5 _ _ hT; have t6 : y5.cell? ⟨T, 6, none⟩ = some (.slice none 0 0) := cell_of_row y5 _ 6 _ _ _ hT; have z6 : y5.frozen? ⟨T, 6, none⟩ = false := frozen_of_row y5 _ 6 _ _ hT; have t7 : y5.cell? ⟨T, 7, none⟩ = some (.slice none 0 0) := cell_of_row y5 _ 7 _ _ _ hT; have z7 : y5.frozen? ⟨T, 7, none⟩ = false := frozen_of_row y5 _ 7 _ _ hT; have t8 : y5.cell? ⟨T, 8, none⟩ = some (.slice none 0 0) := cell_of_row y5 _ 8 _ _ _ hT; have z8 : y5.frozen? ⟨T, 8, none⟩ = false := frozen_of_row y5 _ 8 _ _ hT; have t9 : y5.cell? ⟨T, 9, none⟩ = some (.slice none 0 0) := cell_of_row y5 _ 9 _ _ _ hT; have z9 : y5.frozen? ⟨T, 9, none⟩ = false := frozen_of_row y5 _ 9 _ _ hT; go_simp <;> with_reducible rfl
   refine ⟨fun h => absurd rfl h, ?_⟩
   clear hHeld
   simp only [Act.put]
   refine doneT (by kernel_rfl) ?_ _
   refine NoPanic.normal ?_
   have hTF := ten_set hT (.int .i64 1) (.int .i64 5) (.int .i64 5) (.int .i64 1) (.slice none 0 0) (.slice none 0 0) (.slice none 0 0) (.slice none 0 0) (.slice none 0 0) (.slice none 0 0)
   have hcT := ten_chg y5 T (.int .i64 1) (.int .i64 5) (.int .i64 5) (.int .i64 1) (.slice none 0 0) (.slice none 0 0) (.slice none 0 0) (.slice none 0 0) (.slice none 0 0) (.slice none 0 0)
   have hcF : Chg (· = R) W ((((((((((y5.setCell ⟨T, 0, none⟩ (.int .i64 1)).setCell ⟨T, 1, none⟩ (.int .i64 5)).setCell ⟨T, 2, none⟩ (.int .i64 5)).setCell ⟨T, 3, none⟩ (.int .i64 1)).setCell ⟨T, 4, none⟩ (.slice none 0 0)).setCell ⟨T, 5, none⟩ (.slice none 0 0)).setCell ⟨T, 6, none⟩ (.slice none 0 0)).setCell ⟨T, 7, none⟩ (.slice none 0 0)).setCell ⟨T, 8, none⟩ (.slice none 0 0)).setCell ⟨T, 9, none⟩ (.slice none 0 0)) := ((((((((((hc).setCell (p := ⟨T, 0, none⟩) (.inr hTW) (.int .i64 1)).setCell (p := ⟨T, 1, none⟩) (.inr hTW) (.int .i64 5)).setCell (p := ⟨T, 2, none⟩) (.inr hTW) (.int .i64 5)).setCell (p := ⟨T, 3, none⟩) (.inr hTW) (.int .i64 1)).setCell (p := ⟨T, 4, none⟩) (.inr hTW) (.slice none 0 0)).setCell (p := ⟨T, 5, none⟩) (.inr hTW) (.slice none 0 0)).setCell (p := ⟨T, 6, none⟩) (.inr hTW) (.slice none 0 0)).setCell (p := ⟨T, 7, none⟩) (.inr hTW) (.slice none 0 0)).setCell (p := ⟨T, 8, none⟩) (.inr hTW) (.slice none 0 0)).setCell (p := ⟨T, 9, none⟩) (.inr hTW) (.slice none 0 0)
   have hsF : SrcAt ((((((((((y5.setCell ⟨T, 0, none⟩ (.int .i64 1)).setCell ⟨T, 1, none⟩ (.int .i64 5)).setCell ⟨T, 2, none⟩ (.int .i64 5)).setCell ⟨T, 3, none⟩ (.int .i64 1)).setCell ⟨T, 4, none⟩ (.slice none 0 0)).setCell ⟨T, 5, none⟩ (.slice none 0 0)).setCell ⟨T, 6, none⟩ (.slice none 0 0)).setCell ⟨T, 7, none⟩ (.slice none 0 0)).setCell ⟨T, 8, none⟩ (.slice none 0 0)).setCell ⟨T, 9, none⟩ (.slice none 0 0)) R (.slice Av 10 cv) (4, 0) := (hcT.block R hs.lt (fun e => hTR e.symm)).trans hs
   have hTl2 := hcT.size
   generalize ((((((((((y5.setCell ⟨T, 0, none⟩ (.int .i64 1)).setCell ⟨T, 1, none⟩ (.int .i64 5)).setCell ⟨T, 2, none⟩ (.int .i64 5)).setCell ⟨T, 3, none⟩ (.int .i64 1)).setCell ⟨T, 4, none⟩ (.slice none 0 0)).setCell ⟨T, 5, none⟩ (.slice none 0 0)).setCell ⟨T, 6, none⟩ (.slice none 0 0)).setCell ⟨T, 7, none⟩ (.slice none 0 0)).setCell ⟨T, 8, none⟩ (.slice none 0 0)).setCell ⟨T, 9, none⟩ (.slice none 0 0)) = x0 at *
   have HT0 := Lib.hid hTF
   have HC0 := Lib.hid hcF
   have HX0 := Lib.hid hsF
   have HTL0 : Hid (T < x0.heap.size) := Lib.hid (by omega)
   have HTR := Lib.hid hTR
   have HTW := Lib.hid hTW
   clear hTF hcT hcF hsF hT hc hs hTl hTl2 hTR hTW
   have KG := get0Entry R _ [2, 10, 10, 2, 0, 0, 0, 0, 0, 0] (4, 0) 5 x0 HX0.out (HVV.out x0 HC0.out) (by decide)
   go_wp2_with fail
   (with_reducible refine KG.mono ?_)
   rintro _ u ⟨rfl, hs, hc⟩
   have hT := (hc.block T HTL0.out HTR.out).trans HT0.out
   have t4 : u.cell? ⟨T, 4, none⟩ = some (.slice none 0 0) := cell_of_row u _ 4 _ _ _ hT
   have z4 : u.frozen? ⟨T, 4, none⟩ = false := frozen_of_row u _ 4 _ _ hT
   have hT2 : (u.setCell ⟨T, 4, none⟩ (.slice none 0 0)).heap[T]? = some (.cells #[.int .i64 1, .int .i64 5, .int .i64 5, .int .i64 1, .slice none 0 0, .slice none 0 0, .slice none 0 0, .slice none 0 0, .slice none 0 0, .slice none 0 0] 29 (0, 0)) := by simpa using heap_setCell_same u T 4 _ _ (.slice none 0 0) hT
   have hc2 : Chg (· = R) W (u.setCell ⟨T, 4, none⟩ (.slice none 0 0)) := (HC0.out.trans hc (fun _ _ h => h)).setCell (p := ⟨T, 4, none⟩) (.inr HTW.out) _
   have hs2 : SrcAt (u.setCell ⟨T, 4, none⟩ (.slice none 0 0)) R (.slice Av 10 cv) (5, 0) := hs.other (p := ⟨T, 4, none⟩) HTR.out
   have hl2 : T < (u.setCell ⟨T, 4, none⟩ (.slice none 0 0)).heap.size := (Array.getElem?_eq_some_iff.1 hT2).1
   clear hs hc hT KG
   go_upto_region 6 with (fail)
   generalize u.setCell ⟨T, 4, none⟩ (.slice none 0 0) = x1 at *
   have HT1 := Lib.hid hT2
   have HC1 := Lib.hid hc2
   have HX1 := Lib.hid hs2
   have HTL1 := Lib.hid hl2
   clear hT2 hc2 hs2 hl2 t4 z4 HT0 HC0 HX0 HTL0
   have KG := get0Delta R _ [2, 10, 10, 2, 0, 0, 0, 0, 0, 0] (5, 0) 6 x1 HX1.out (HVV.out x1 HC1.out) (by decide)
   go_wp2_with fail
   (with_reducible refine KG.mono ?_)
   rintro _ u ⟨rfl, hs, hc⟩
   have hT := (hc.block T HTL1.out HTR.out).trans HT1.out
   have t5 : u.cell? ⟨T, 5, none⟩ = some (.slice none 0 0) := cell_of_row u _ 5 _ _ _ hT
   have z5 : u.frozen? ⟨T, 5, none⟩ = false := frozen_of_row u _ 5 _ _ hT
   have hT2 : (u.setCell ⟨T, 5, none⟩ (.slice none 0 0)).heap[T]? = some (.cells #[.int .i64 1, .int .i64 5, .int .i64 5, .int .i64 1, .slice none 0 0, .slice none 0 0, .slice none 0 0, .slice none 0 0, .slice none 0 0, .slice none 0 0] 29 (0, 0)) := by simpa using heap_setCell_same u T 5 _ _ (.slice none 0 0) hT
   have hc2 : Chg (· = R) W (u.setCell ⟨T, 5, none⟩ (.slice none 0 0)) := (HC1.out.trans hc (fun _ _ h => h)).setCell (p := ⟨T, 5, none⟩) (.inr HTW.out) _
   have hs2 : SrcAt (u.setCell ⟨T, 5, none⟩ (.slice none 0 0)) R (.slice Av 10 cv) (6, 0) := hs.other (p := ⟨T, 5, none⟩) HTR.out
   have hl2 : T < (u.setCell ⟨T, 5, none⟩ (.slice none 0 0)).heap.size := (Array.getElem?_eq_some_iff.1 hT2).1
   clear hs hc hT KG
   go_upto_region 7 with (fail)
   generalize u.setCell ⟨T, 5, none⟩ (.slice none 0 0) = x2 at *
   have HT2 := Lib.hid hT2
   have HC2 := Lib.hid hc2
   have HX2 := Lib.hid hs2
   have HTL2 := Lib.hid hl2
   clear hT2 hc2 hs2 hl2 t5 z5 HT1 HC1 HX1 HTL1
   have KG := get0Hold R _ [2, 10, 10, 2, 0, 0, 0, 0, 0, 0] (6, 0) 7 x2 HX2.out (HVV.out x2 HC2.out) (by decide)
   go_wp2_with fail
   (with_reducible refine KG.mono ?_)
   rintro _ u ⟨rfl, hs, hc⟩
   have hT := (hc.block T HTL2.out HTR.out).trans HT2.out
   have t6 : u.cell? ⟨T, 6, none⟩ = some (.slice none 0 0) := cell_of_row u _ 6 _ _ _ hT
   have z6 : u.frozen? ⟨T, 6, none⟩ = false := frozen_of_row u _ 6 _ _ hT
   have hT2 : (u.setCell ⟨T, 6, none⟩ (.slice none 0 0)).heap[T]? = some (.cells #[.int .i64 1, .int .i64 5, .int .i64 5, .int .i64 1, .slice none 0 0, .slice none 0 0, .slice none 0 0, .slice none 0 0, .slice none 0 0, .slice none 0 0] 29 (0, 0)) := by simpa using heap_setCell_same u T 6 _ _ (.slice none 0 0) hT
   have hc2 : Chg (· = R) W (u.setCell ⟨T, 6, none⟩ (.slice none 0 0)) := (HC2.out.trans hc (fun _ _ h => h)).setCell (p := ⟨T, 6, none⟩) (.inr HTW.out) _
   have hs2 : SrcAt (u.setCell ⟨T, 6, none⟩ (.slice none 0 0)) R (.slice Av 10 cv) (7, 0) := hs.other (p := ⟨T, 6, none⟩) HTR.out
   have hl2 : T < (u.setCell ⟨T, 6, none⟩ (.slice none 0 0)).heap.size := (Array.getElem?_eq_some_iff.1 hT2).1
   clear hs hc hT KG
   go_upto_region 8 with (fail)
   generalize u.setCell ⟨T, 6, none⟩ (.slice none 0 0) = x3 at *
   have HT3 := Lib.hid hT2
   have HC3 := Lib.hid hc2
   have HX3 := Lib.hid hs2
   have HTL3 := Lib.hid hl2
   clear hT2 hc2 hs2 hl2 t6 z6 HT2 HC2 HX2 HTL2
   have KG := get0Str R _ [2, 10, 10, 2, 0, 0, 0, 0, 0, 0] (7, 0) 8 x3 HX3.out (HVV.out x3 HC3.out) (by decide)
   go_wp2_with fail
   (with_reducible refine KG.mono ?_)
   rintro _ u ⟨rfl, hs, hc⟩
   have hT := (hc.block T HTL3.out HTR.out).trans HT3.out
   have t7 : u.cell? ⟨T, 7, none⟩ = some (.slice none 0 0) := cell_of_row u _ 7 _ _ _ hT
   have z7 : u.frozen? ⟨T, 7, none⟩ = false := frozen_of_row u _ 7 _ _ hT
   have hT2 : (u.setCell ⟨T, 7, none⟩ (.slice none 0 0)).heap[T]? = some (.cells #[.int .i64 1, .int .i64 5, .int .i64 5, .int .i64 1, .slice none 0 0, .slice none 0 0, .slice none 0 0, .slice none 0 0, .slice none 0 0, .slice none 0 0] 29 (0, 0)) := by simpa using heap_setCell_same u T 7 _ _ (.slice none 0 0) hT
   have hc2 : Chg (· = R) W (u.setCell ⟨T, 7, none⟩ (.slice none 0 0)) := (HC3.out.trans hc (fun _ _ h => h)).setCell (p := ⟨T, 7, none⟩) (.inr HTW.out) _
   have hs2 : SrcAt (u.setCell ⟨T, 7, none⟩ (.slice none 0 0)) R (.slice Av 10 cv) (8, 0) := hs.other (p := ⟨T, 7, none⟩) HTR.out
   have hl2 : T < (u.setCell ⟨T, 7, none⟩ (.slice none 0 0)).heap.size := (Array.getElem?_eq_some_iff.1 hT2).1
   clear hs hc hT KG
   go_upto_region 9 with (fail)
   generalize u.setCell ⟨T, 7, none⟩ (.slice none 0 0) = x4 at *
   have HT4 := Lib.hid hT2
   have HC4 := Lib.hid hc2
   have HX4 := Lib.hid hs2
   have HTL4 := Lib.hid hl2
   clear hT2 hc2 hs2 hl2 t7 z7 HT3 HC3 HX3 HTL3
   have KG := get0Policy R _ [2, 10, 10, 2, 0, 0, 0, 0, 0, 0] (8, 0) 9 x4 HX4.out (HVV.out x4 HC4.out) (by decide)
   go_wp2_with fail
   (with_reducible refine KG.mono ?_)
   rintro _ u ⟨rfl, hs, hc⟩
   have hT := (hc.block T HTL4.out HTR.out).trans HT4.out
   have t8 : u.cell? ⟨T, 8, none⟩ = some (.slice none 0 0) := cell_of_row u _ 8 _ _ _ hT
   have z8 : u.frozen? ⟨T, 8, none⟩ = false := frozen_of_row u _ 8 _ _ hT
   have hT2 : (u.setCell ⟨T, 8, none⟩ (.slice none 0 0)).heap[T]? = some (.cells #[.int .i64 1, .int .i64 5, .int .i64 5, .int .i64 1, .slice none 0 0, .slice none 0 0, .slice none 0 0, .slice none 0 0, .slice none 0 0, .slice none 0 0] 29 (0, 0)) := by simpa using heap_setCell_same u T 8 _ _ (.slice none 0 0) hT
   have hc2 : Chg (· = R) W (u.setCell ⟨T, 8, none⟩ (.slice none 0 0)) := (HC4.out.trans hc (fun _ _ h => h)).setCell (p := ⟨T, 8, none⟩) (.inr HTW.out) _
   have hs2 : SrcAt (u.setCell ⟨T, 8, none⟩ (.slice none 0 0)) R (.slice Av 10 cv) (9, 0) := hs.other (p := ⟨T, 8, none⟩) HTR.out
   have hl2 : T < (u.setCell ⟨T, 8, none⟩ (.slice none 0 0)).heap.size := (Array.getElem?_eq_some_iff.1 hT2).1
   clear hs hc hT KG
   go_upto_region 10 with (fail)
   generalize u.setCell ⟨T, 8, none⟩ (.slice none 0 0) = x5 at *
   have HT5 := Lib.hid hT2
   have HC5 := Lib.hid hc2
   have HX5 := Lib.hid hs2
   have HTL5 := Lib.hid hl2
   clear hT2 hc2 hs2 hl2 t8 z8 HT4 HC4 HX4 HTL4
   have KG := get0Horizon R _ [2, 10, 10, 2, 0, 0, 0, 0, 0, 0] (9, 0) 10 x5 HX5.out (HVV.out x5 HC5.out) (by decide)
   go_wp2_with fail
   (with_reducible refine KG.mono ?_)
   rintro _ u ⟨rfl, hs, hc⟩
   have hT := (hc.block T HTL5.out HTR.out).trans HT5.out
   have t9 : u.cell? ⟨T, 9, none⟩ = some (.slice none 0 0) := cell_of_row u _ 9 _ _ _ hT
   have z9 : u.frozen? ⟨T, 9, none⟩ = false := frozen_of_row u _ 9 _ _ hT
   have hT2 : (u.setCell ⟨T, 9, none⟩ (.slice none 0 0)).heap[T]? = some (.cells #[.int .i64 1, .int .i64 5, .int .i64 5, .int .i64 1, .slice none 0 0, .slice none 0 0, .slice none 0 0, .slice none 0 0, .slice none 0 0, .slice none 0 0] 29 (0, 0)) := by simpa using heap_setCell_same u T 9 _ _ (.slice none 0 0) hT
   have hc2 : Chg (· = R) W (u.setCell ⟨T, 9, none⟩ (.slice none 0 0)) := (HC5.out.trans hc (fun _ _ h => h)).setCell (p := ⟨T, 9, none⟩) (.inr HTW.out) _
   have hs2 : SrcAt (u.setCell ⟨T, 9, none⟩ (.slice none 0 0)) R (.slice Av 10 cv) (10, 0) := hs.other (p := ⟨T, 9, none⟩) HTR.out
   have hl2 : T < (u.setCell ⟨T, 9, none⟩ (.slice none 0 0)).heap.size := (Array.getElem?_eq_some_iff.1 hT2).1
   clear hs hc hT KG
   go_upto_region 11 with (fail)
   generalize u.setCell ⟨T, 9, none⟩ (.slice none 0 0) = x6 at *
   have HT6 := Lib.hid hT2
   have HC6 := Lib.hid hc2
   have HX6 := Lib.hid hs2
   have HTL6 := Lib.hid hl2
   clear hT2 hc2 hs2 hl2 t9 z9 HT5 HC5 HX5 HTL5
   have KE := srcEnd_any R _ [2, 10, 10, 2, 0, 0, 0, 0, 0, 0] (10, 0) x6 HX6.out (HVV.out x6 HC6.out)
   rw [show endE (10, 0) ([2, 10, 10, 2, 0, 0, 0, 0, 0, 0] : List UInt8).length = 0 from by decide] at KE
   go_wp2_with fail
   (with_reducible refine KE.mono ?_)
   rintro _ u ⟨rfl, hb⟩
   have hT := (hb.block T HTL6.out).trans HT6.out
   have HTL7 : Hid (T < u.heap.size) := Lib.hid (Array.getElem?_eq_some_iff.1 hT).1
   have HC7 : Hid (Chg (· = R) W u) := Lib.hid (HC6.out.then_below hb)
   have HT7 := Lib.hid hT
   have KC := chkNil u
   have t0 : u.cell? ⟨T, 0, none⟩ = some (.int .i64 1) := cell_of_row u _ 0 _ _ _ hT
   have t1 : u.cell? ⟨T, 1, none⟩ = some (.int .i64 5) := cell_of_row u _ 1 _ _ _ hT
   have t2 : u.cell? ⟨T, 2, none⟩ = some (.int .i64 5) := cell_of_row u _ 2 _ _ _ hT
   have t3 : u.cell? ⟨T, 3, none⟩ = some (.int .i64 1) := cell_of_row u _ 3 _ _ _ hT
   have t4 : u.cell? ⟨T, 4, none⟩ = some (.slice none 0 0) := cell_of_row u _ 4 _ _ _ hT
   have t5 : u.cell? ⟨T, 5, none⟩ = some (.slice none 0 0) := cell_of_row u _ 5 _ _ _ hT
   have t6 : u.cell? ⟨T, 6, none⟩ = some (.slice none 0 0) := cell_of_row u _ 6 _ _ _ hT
   have t7 : u.cell? ⟨T, 7, none⟩ = some (.slice none 0 0) := cell_of_row u _ 7 _ _ _ hT
   have t8 : u.cell? ⟨T, 8, none⟩ = some (.slice none 0 0) := cell_of_row u _ 8 _ _ _ hT
   have t9 : u.cell? ⟨T, 9, none⟩ = some (.slice none 0 0) := cell_of_row u _ 9 _ _ _ hT
   clear hb hT KE HT6 HC6 HX6 HTL6
   go_upto_region 14 with (fail)
   go_wp2_with fail
   (with_reducible refine KC.mono ?_)
   rintro _ u2 ⟨rfl, hb⟩
   have hT := (hb.block T HTL7.out).trans HT7.out
   have HC8 : Hid (Chg (· = R) W u2) := Lib.hid (HC7.out.then_below hb)
   have hB := (HC8.out.block w.heap.size HBL.out (by have := HRE.out; omega)).trans HBZ.out
   clear t0 t1 t2 t3 t4 t5 t6 t7 t8 t9 KC hb
   go_upto_region 17 with (fail)
   have t0 : u2.cell? ⟨T, 0, none⟩ = some (.int .i64 1) := cell_of_row u2 _ 0 _ _ _ hT
   have t1 : u2.cell? ⟨T, 1, none⟩ = some (.int .i64 5) := cell_of_row u2 _ 1 _ _ _ hT
   have t2 : u2.cell? ⟨T, 2, none⟩ = some (.int .i64 5) := cell_of_row u2 _ 2 _ _ _ hT
   have t3 : u2.cell? ⟨T, 3, none⟩ = some (.int .i64 1) := cell_of_row u2 _ 3 _ _ _ hT
   have t4 : u2.cell? ⟨T, 4, none⟩ = some (.slice none 0 0) := cell_of_row u2 _ 4 _ _ _ hT
   have t5 : u2.cell? ⟨T, 5, none⟩ = some (.slice none 0 0) := cell_of_row u2 _ 5 _ _ _ hT
   have t6 : u2.cell? ⟨T, 6, none⟩ = some (.slice none 0 0) := cell_of_row u2 _ 6 _ _ _ hT
   have t7 : u2.cell? ⟨T, 7, none⟩ = some (.slice none 0 0) := cell_of_row u2 _ 7 _ _ _ hT
   have t8 : u2.cell? ⟨T, 8, none⟩ = some (.slice none 0 0) := cell_of_row u2 _ 8 _ _ _ hT
   have t9 : u2.cell? ⟨T, 9, none⟩ = some (.slice none 0 0) := cell_of_row u2 _ 9 _ _ _ hT
   have q0 : u2.cell? ⟨w.heap.size, 0, none⟩ = some (.int .i64 0) := cell_of_row u2 _ 0 _ _ _ hB
   have q1 : u2.cell? ⟨w.heap.size, 1, none⟩ = some (.int .i64 0) := cell_of_row u2 _ 1 _ _ _ hB
   have q2 : u2.cell? ⟨w.heap.size, 2, none⟩ = some (.int .i64 0) := cell_of_row u2 _ 2 _ _ _ hB
   have q3 : u2.cell? ⟨w.heap.size, 3, none⟩ = some (.int .i64 0) := cell_of_row u2 _ 3 _ _ _ hB
   have q4 : u2.cell? ⟨w.heap.size, 4, none⟩ = some (.slice none 0 0) := cell_of_row u2 _ 4 _ _ _ hB
   have q5 : u2.cell? ⟨w.heap.size, 5, none⟩ = some (.slice none 0 0) := cell_of_row u2 _ 5 _ _ _ hB
   have q6 : u2.cell? ⟨w.heap.size, 6, none⟩ = some (.slice none 0 0) := cell_of_row u2 _ 6 _ _ _ hB
   have q7 : u2.cell? ⟨w.heap.size, 7, none⟩ = some (.slice none 0 0) := cell_of_row u2 _ 7 _ _ _ hB
   have q8 : u2.cell? ⟨w.heap.size, 8, none⟩ = some (.slice none 0 0) := cell_of_row u2 _ 8 _ _ _ hB
   have q9 : u2.cell? ⟨w.heap.size, 9, none⟩ = some (.slice none 0 0) := cell_of_row u2 _ 9 _ _ _ hB
   have f0 : u2.frozen? ⟨w.heap.size, 0, none⟩ = false := frozen_of_row u2 _ 0 _ _ hB
   have f1 : u2.frozen? ⟨w.heap.size, 1, none⟩ = false := frozen_of_row u2 _ 1 _ _ hB
   have f2 : u2.frozen? ⟨w.heap.size, 2, none⟩ = false := frozen_of_row u2 _ 2 _ _ hB
   have f3 : u2.frozen? ⟨w.heap.size, 3, none⟩ = false := frozen_of_row u2 _ 3 _ _ hB
   have f4 : u2.frozen? ⟨w.heap.size, 4, none⟩ = false := frozen_of_row u2 _ 4 _ _ hB
   have f5 : u2.frozen? ⟨w.heap.size, 5, none⟩ = false := frozen_of_row u2 _ 5 _ _ hB
   have f6 : u2.frozen? ⟨w.heap.size, 6, none⟩ = false := frozen_of_row u2 _ 6 _ _ hB
   have f7 : u2.frozen? ⟨w.heap.size, 7, none⟩ = false := frozen_of_row u2 _ 7 _ _ hB
   have f8 : u2.frozen? ⟨w.heap.size, 8, none⟩ = false := frozen_of_row u2 _ 8 _ _ hB
   have f9 : u2.frozen? ⟨w.heap.size, 9, none⟩ = false := frozen_of_row u2 _ 9 _ _ hB
   have hF := ten_set hB (.int .i64 1) (.int .i64 5) (.int .i64 5) (.int .i64 1) (.slice none 0 0) (.slice none 0 0) (.slice none 0 0) (.slice none 0 0) (.slice none 0 0) (.slice none 0 0)
   have hcB := ten_chg u2 w.heap.size (.int .i64 1) (.int .i64 5) (.int .i64 5) (.int .i64 1) (.slice none 0 0) (.slice none 0 0) (.slice none 0 0) (.slice none 0 0) (.slice none 0 0) (.slice none 0 0)
   have HF := Lib.hid hF
   have HFB : Hid (Below w.heap.size w ((((((((((u2.setCell ⟨w.heap.size, 0, none⟩ (.int .i64 1)).setCell ⟨w.heap.size, 1, none⟩ (.int .i64 5)).setCell ⟨w.heap.size, 2, none⟩ (.int .i64 5)).setCell ⟨w.heap.size, 3, none⟩ (.int .i64 1)).setCell ⟨w.heap.size, 4, none⟩ (.slice none 0 0)).setCell ⟨w.heap.size, 5, none⟩ (.slice none 0 0)).setCell ⟨w.heap.size, 6, none⟩ (.slice none 0 0)).setCell ⟨w.heap.size, 7, none⟩ (.slice none 0 0)).setCell ⟨w.heap.size, 8, none⟩ (.slice none 0 0)).setCell ⟨w.heap.size, 9, none⟩ (.slice none 0 0))) := Lib.hid ((HBW.out.trans (HC8.out.below (by have := HRE.out; have := HBL.out; omega) (fun i (hi : i = R) => by have := HRE.out; omega))).trans (hcB.below (by have := HC8.out.size; have := HBL.out; omega) (fun i (hi : i = w.heap.size) => by omega)))
   clear hF hcB hB hT
   go_wp2_with fail
   generalize ((((((((((u2.setCell ⟨w.heap.size, 0, none⟩ (.int .i64 1)).setCell ⟨w.heap.size, 1, none⟩ (.int .i64 5)).setCell ⟨w.heap.size, 2, none⟩ (.int .i64 5)).setCell ⟨w.heap.size, 3, none⟩ (.int .i64 1)).setCell ⟨w.heap.size, 4, none⟩ (.slice none 0 0)).setCell ⟨w.heap.size, 5, none⟩ (.slice none 0 0)).setCell ⟨w.heap.size, 6, none⟩ (.slice none 0 0)).setCell ⟨w.heap.size, 7, none⟩ (.slice none 0 0)).setCell ⟨w.heap.size, 8, none⟩ (.slice none 0 0)).setCell ⟨w.heap.size, 9, none⟩ (.slice none 0 0)) = Z at *
   have y0 : Z.cell? ⟨w.heap.size, 0, none⟩ = some (.int .i64 1) := cell_of_row Z _ 0 _ _ _ HF.out
   have y1 : Z.cell? ⟨w.heap.size, 1, none⟩ = some (.int .i64 5) := cell_of_row Z _ 1 _ _ _ HF.out
   have y2 : Z.cell? ⟨w.heap.size, 2, none⟩ = some (.int .i64 5) := cell_of_row Z _ 2 _ _ _ HF.out
   have y3 : Z.cell? ⟨w.heap.size, 3, none⟩ = some (.int .i64 1) := cell_of_row Z _ 3 _ _ _ HF.out
   have y4 : Z.cell? ⟨w.heap.size, 4, none⟩ = some (.slice none 0 0) := cell_of_row Z _ 4 _ _ _ HF.out
   have y5 : Z.cell? ⟨w.heap.size, 5, none⟩ = some (.slice none 0 0) := cell_of_row Z _ 5 _ _ _ HF.out
   have y6 : Z.cell? ⟨w.heap.size, 6, none⟩ = some (.slice none 0 0) := cell_of_row Z _ 6 _ _ _ HF.out
   have y7 : Z.cell? ⟨w.heap.size, 7, none⟩ = some (.slice none 0 0) := cell_of_row Z _ 7 _ _ _ HF.out
   have y8 : Z.cell? ⟨w.heap.size, 8, none⟩ = some (.slice none 0 0) := cell_of_row Z _ 8 _ _ _ HF.out
   have y9 : Z.cell? ⟨w.heap.size, 9, none⟩ = some (.slice none 0 0) := cell_of_row Z _ 9 _ _ _ HF.out
   exact bodyPost_ret (v := .tuple #[.agg #[.int .i64 1, .int .i64 5, .int .i64 5, .int .i64 1, .slice none 0 0, .slice none 0 0, .slice none 0 0, .slice none 0 0, .slice none 0 0, .slice none 0 0], .int .i64 0]) (by simp [results, Tryz.results17, go_sem, y0, y1, y2, y3, y4, y5, y6, y7, y8, y9]) rfl ⟨rfl, HFB.out⟩
 ·refine runF 17 (some 5) (v := .pointer (some ⟨W.drew.heap.size, 0, none⟩)) (w' := (W.drew.alloc (.cells #[.int .i64 0, .int .i64 0, .int .i64 0, .int .i64 0, .slice none 0 0, .slice none 0 0, .slice none 0 0, .slice none 0 0, .slice none 0 0, .slice none 0 0] 29))) rfl rfl (by rfl) ?_ ?_
  ·go_simp <;> with_reducible rfl
  obtain ⟨T, hTe⟩ : ∃ T, T = W.drew.heap.size := ⟨_, rfl⟩
  obtain ⟨y1, hye⟩ : ∃ y, y = W.drew.alloc (.cells #[.int .i64 0, .int .i64 0, .int .i64 0, .int .i64 0, .slice none 0 0, .slice none 0 0, .slice none 0 0, .slice none 0 0, .slice none 0 0, .slice none 0 0] 29) := ⟨_, rfl⟩
  have hbN : Below W.drew.heap.size W.drew y1 := by rw [hye]; exact Below.of_alloc _
  have hT : y1.heap[T]? = some (.cells #[.int .i64 0, .int .i64 0, .int .i64 0, .int .i64 0, .slice none 0 0, .slice none 0 0, .slice none 0 0, .slice none 0 0, .slice none 0 0, .slice none 0 0] 29 (0, 0)) := by rw [hye, hTe]; exact heap_alloc_new _ _
  have hTl : T < y1.heap.size := by rw [hye, hTe]; simp
  have hTW : W.heap.size ≤ T := by rw [hTe]; exact hc.size
  have hTR : T ≠ R := by have := HRW.out; omega
  have hs' := hs.below hbN
  have hc' : Chg (· = R) W y1 := hc.then_below hbN
  clear hs hc hbN
  have hs := hs'
  have hc := hc'
  clear hs' hc'
  rw [← hye, ← hTe]
  clear hye hTe
  refine keepAnd ?_ (fun hNew => ?_)
  ·intro _; trivial
  have hNew := hNew (by decide)
  clear hHeld
  have hHeld := hNew
  clear hNew
  simp only [Act.put, List.setIfInBounds_toArray, List.set_cons_zero, List.set_cons_succ]
  refine fork1 3 (by kernel_rfl) ?_
  refine callF 3 (some 19) (f := ?_) (args := ?_) rfl rfl (by rfl) ?_ ?_
  rotate_left 2
  ·go_simp <;> first | (constructor <;> with_reducible rfl) | with_reducible rfl
  (with_reducible refine (KI0 y1 hs hc).mono ?_)
  rintro _ y2 ⟨rfl, hs', hc'⟩
  have hcN : Chg (· = R) W y2 := hc.trans hc' (fun _ _ h => h)
  have hTN := (hc'.block T hTl hTR).trans hT
  have hTlN : T < y2.heap.size := Nat.lt_of_lt_of_le hTl hc'.size
  clear hs hc hc' hT hTl
  have hs := hs'
  have hc := hcN
  have hT := hTN
  have hTl := hTlN
  clear hTN hTlN
  clear hs' hcN
  refine ⟨_, rfl, ?_⟩
  refine keepAnd ?_ (fun hNew => ?_)
  ·intro _; trivial
  have hNew := hNew (by decide)
  clear hHeld
  have hHeld := hNew
  clear hNew
  simp only [Act.put, List.setIfInBounds_toArray, List.set_cons_zero, List.set_cons_succ]
  refine fork1 7 (by kernel_rfl) ?_
  refine callF 7 (some 23) (f := ?_) (args := ?_) rfl rfl (by rfl) ?_ ?_
  rotate_left 2
  ·go_simp <;> first | (constructor <;> with_reducible rfl) | with_reducible rfl
  (with_reducible refine (KI1 y2 hs hc).mono ?_)
  rintro _ y3 ⟨rfl, hs', hc'⟩
  have hcN : Chg (· = R) W y3 := hc.trans hc' (fun _ _ h => h)
  have hTN := (hc'.block T hTl hTR).trans hT
  have hTlN : T < y3.heap.size := Nat.lt_of_lt_of_le hTl hc'.size
  clear hs hc hc' hT hTl
  have hs := hs'
  have hc := hcN
  have hT := hTN
  have hTl := hTlN
  clear hTN hTlN
  clear hs' hcN
  refine ⟨_, rfl, ?_⟩
  refine keepAnd ?_ (fun hNew => ?_)
  ·intro _; trivial
  have hNew := hNew (by decide)
  clear hHeld
  have hHeld := hNew
  clear hNew
  simp only [Act.put, List.setIfInBounds_toArray, List.set_cons_zero, List.set_cons_succ]
  refine fork1 11 (by kernel_rfl) ?_
  refine callF 11 (some 27) (f := ?_) (args := ?_) rfl rfl (by rfl) ?_ ?_
  rotate_left 2
  ·go_simp <;> first | (constructor <;> with_reducible rfl) | with_reducible rfl
  (with_reducible refine (KI2 y3 hs hc).mono ?_)
  rintro _ y4 ⟨rfl, hs', hc'⟩
  have hcN : Chg (· = R) W y4 := hc.trans hc' (fun _ _ h => h)
  have hTN := (hc'.block T hTl hTR).trans hT
  have hTlN : T < y4.heap.size := Nat.lt_of_lt_of_le hTl hc'.size
  clear hs hc hc' hT hTl
  have hs := hs'
  have hc := hcN
  have hT := hTN
  have hTl := hTlN
  clear hTN hTlN
  clear hs' hcN
  refine ⟨_, rfl, ?_⟩
  refine keepAnd ?_ (fun hNew => ?_)
  ·intro _; trivial
  have hNew := hNew (by decide)
  clear hHeld
  have hHeld := hNew
  clear hNew
  simp only [Act.put, List.setIfInBounds_toArray, List.set_cons_zero, List.set_cons_succ]
  refine fork1 15 (by kernel_rfl) ?_
  refine callF 15 (some 31) (f := ?_) (args := ?_) rfl rfl (by rfl) ?_ ?_
  rotate_left 2
  ·go_simp <;> first | (constructor <;> with_reducible rfl) | with_reducible rfl
  (with_reducible refine (KI3 y4 hs hc).mono ?_)
  rintro _ y5 ⟨rfl, hs', hc'⟩
  have hcN : Chg (· = R) W y5 := hc.trans hc' (fun _ _ h => h)
  have hTN := (hc'.block T hTl hTR).trans hT
  have hTlN : T < y5.heap.size := Nat.lt_of_lt_of_le hTl hc'.size
  clear hs hc hc' hT hTl
  have hs := hs'
  have hc := hcN
  have hT := hTN
  have hTl := hTlN
  clear hTN hTlN
  clear hs' hcN
  refine ⟨_, rfl, ?_⟩
  refine keepAnd ?_ (fun hNew => ?_)
  ·intro _; trivial
  have hNew := hNew (by decide)
  clear hHeld
  have hHeld := hNew
  clear hNew
  simp only [Act.put, List.setIfInBounds_toArray, List.set_cons_zero, List.set_cons_succ]
  refine takeT 16 (some 32) (v := ?_) rfl rfl (by kernel_rfl) (by kernel_rfl) (by kernel_rfl) (by kernel_rfl) (by rfl) hHeld (fun _ _ _ h => h) ?_ ?_
  rotate_left
  ·intro w' hSw; (try dsimp only at hSw); go_simp <;> with_reducible rfl
  simp only [Act.put, List.setIfInBounds_toArray, List.set_cons_zero, List.set_cons_succ]
  refine fork1 18 (by kernel_rfl) ?_
  refine skipRunF 18 none (w' := ((((((((((y5.setCell ⟨T, 0, none⟩ (.int .i64 1)).setCell ⟨T, 1, none⟩ (.int .i64 5)).setCell ⟨T, 2, none⟩ (.int .i64 5)).setCell ⟨T, 3, none⟩ (.int .i64 1)).setCell ⟨T, 4, none⟩ (.slice none 0 0)).setCell ⟨T, 5, none⟩ (.slice none 0 0)).setCell ⟨T, 6, none⟩ (.slice none 0 0)).setCell ⟨T, 7, none⟩ (.slice none 0 0)).setCell ⟨T, 8, none⟩ (.slice none 0 0)).setCell ⟨T, 9, none⟩ (.slice none 0 0))) rfl rfl (by rfl) ?_ ?_
  ·have t0 : y5.cell? ⟨T, 0, none⟩ = some (.int .i64 0) := cell_of_row y5 _ 0 _ _ _ hT; have z0 : y5.frozen? ⟨T, 0, none⟩ = false := frozen_of_row y5 _ 0 _ _ hT; have t1 : y5.cell? ⟨T, 1, none⟩ = some (.int .i64 0) := cell_of_row y5 _ 1 _ _ _ hT; have z1 : y5.frozen? ⟨T, 1, none⟩ = false := frozen_of_row y5 _ 1 _ _ hT; have t2 : y5.cell? ⟨T, 2, none⟩ = some (.int .i64 0) := cell_of_row y5 _ 2 _ _ _ hT; have z2 : y5.frozen? ⟨T, 2, none⟩ = false := frozen_of_row y5 _ 2 _ _ hT; have t3 : y5.cell? ⟨T, 3, none⟩ = some (.int .i64 0) := cell_of_row y5 _ 3 _ _ _ hT; have z3 : y5.frozen? ⟨T, 3, none⟩ = false := frozen_of_row y5 _ 3 _ _ hT; have t4 : y5.cell? ⟨T, 4, none⟩ = some (.slice none 0 0) := cell_of_row y5 _ 4 _ _ _ hT; have z4 : y5.frozen? ⟨T, 4, none⟩ = false := frozen_of_row y5 _ 4 _ _ hT; have t5 : y5.cell? ⟨T, 5, none⟩ = some (.slice none 0 0) := cell_of_row y5 _ 5 _ _ _ hT; have z5 : y5.frozen? ⟨T, 5, none⟩ = false := frozen_of_row y5 _ 5 _ _ hT; have t6 : y5.cell? ⟨T, 6, none⟩ = some (.slice none 0 0) := cell_of_row y5 _ 6 _ _ _ hT; have z6 : y5.frozen? ⟨T, 6, none⟩ = false := frozen_of_row y5 _ 6 _ _ hT; have t7 : y5.cell? ⟨T, 7, none⟩ = some (.slice none 0 0) := cell_of_row y5 _ 7 _ _ _ hT; have z7 : y5.frozen? ⟨T, 7, none⟩ = false := frozen_of_row y5 _ 7 _ _ hT; have t8 : y5.cell? ⟨T, 8, none⟩ = some (.slice none 0 0) := cell_of_row y5 _ 8 _ _ _ hT; have z8 : y5.frozen? ⟨T, 8, none⟩ = false := frozen_of_row y5 _ 8 _ _ hT; have t9 : y5.cell? ⟨T, 9, none⟩ = some (.slice none 0 0) := cell_of_row y5 _ 9 _ _ _ hT; have z9 : y5.frozen? ⟨T, 9, none⟩ = false := frozen_of_row y5 _ 9 _ _ hT; go_simp <;> with_reducible rfl
  refine ⟨fun h => absurd rfl h, ?_⟩
  clear hHeld
  simp only [Act.put]
  refine doneT (by kernel_rfl) ?_ _
  refine NoPanic.normal ?_
  have hTF := ten_set hT (.int .i64 1) (.int .i64 5) (.int .i64 5) (.int .i64 1) (.slice none 0 0) (.slice none 0 0) (.slice none 0 0) (.slice none 0 0) (.slice none 0 0) (.slice none 0 0)
  have hcT := ten_chg y5 T (.int .i64 1) (.int .i64 5) (.int .i64 5) (.int .i64 1) (.slice none 0 0) (.slice none 0 0) (.slice none 0 0) (.slice none 0 0) (.slice none 0 0) (.slice none 0 0)
  have hcF : Chg (· = R) W ((((((((((y5.setCell ⟨T, 0, none⟩ (.int .i64 1)).setCell ⟨T, 1, none⟩ (.int .i64 5)).setCell ⟨T, 2, none⟩ (.int .i64 5)).setCell ⟨T, 3, none⟩ (.int .i64 1)).setCell ⟨T, 4, none⟩ (.slice none 0 0)).setCell ⟨T, 5, none⟩ (.slice none 0 0)).setCell ⟨T, 6, none⟩ (.slice none 0 0)).setCell ⟨T, 7, none⟩ (.slice none 0 0)).setCell ⟨T, 8, none⟩ (.slice none 0 0)).setCell ⟨T, 9, none⟩ (.slice none 0 0)) := ((((((((((hc).setCell (p := ⟨T, 0, none⟩) (.inr hTW) (.int .i64 1)).setCell (p := ⟨T, 1, none⟩) (.inr hTW) (.int .i64 5)).setCell (p := ⟨T, 2, none⟩) (.inr hTW) (.int .i64 5)).setCell (p := ⟨T, 3, none⟩) (.inr hTW) (.int .i64 1)).setCell (p := ⟨T, 4, none⟩) (.inr hTW) (.slice none 0 0)).setCell (p := ⟨T, 5, none⟩) (.inr hTW) (.slice none 0 0)).setCell (p := ⟨T, 6, none⟩) (.inr hTW) (.slice none 0 0)).setCell (p := ⟨T, 7, none⟩) (.inr hTW) (.slice none 0 0)).setCell (p := ⟨T, 8, none⟩) (.inr hTW) (.slice none 0 0)).setCell (p := ⟨T, 9, none⟩) (.inr hTW) (.slice none 0 0)
  have hsF : SrcAt ((((((((((y5.setCell ⟨T, 0, none⟩ (.int .i64 1)).setCell ⟨T, 1, none⟩ (.int .i64 5)).setCell ⟨T, 2, none⟩ (.int .i64 5)).setCell ⟨T, 3, none⟩ (.int .i64 1)).setCell ⟨T, 4, none⟩ (.slice none 0 0)).setCell ⟨T, 5, none⟩ (.slice none 0 0)).setCell ⟨T, 6, none⟩ (.slice none 0 0)).setCell ⟨T, 7, none⟩ (.slice none 0 0)).setCell ⟨T, 8, none⟩ (.slice none 0 0)).setCell ⟨T, 9, none⟩ (.slice none 0 0)) R (.slice Av 10 cv) (4, 0) := (hcT.block R hs.lt (fun e => hTR e.symm)).trans hs
  have hTl2 := hcT.size
  generalize ((((((((((y5.setCell ⟨T, 0, none⟩ (.int .i64 1)).setCell ⟨T, 1, none⟩ (.int .i64 5)).setCell ⟨T, 2, none⟩ (.int .i64 5)).setCell ⟨T, 3, none⟩ (.int .i64 1)).setCell ⟨T, 4, none⟩ (.slice none 0 0)).setCell ⟨T, 5, none⟩ (.slice none 0 0)).setCell ⟨T, 6, none⟩ (.slice none 0 0)).setCell ⟨T, 7, none⟩ (.slice none 0 0)).setCell ⟨T, 8, none⟩ (.slice none 0 0)).setCell ⟨T, 9, none⟩ (.slice none 0 0)) = x0 at *
  have HT0 := Lib.hid hTF
  have HC0 := Lib.hid hcF
  have HX0 := Lib.hid hsF
  have HTL0 : Hid (T < x0.heap.size) := Lib.hid (by omega)
  have HTR := Lib.hid hTR
  have HTW := Lib.hid hTW
  clear hTF hcT hcF hsF hT hc hs hTl hTl2 hTR hTW
  have KG := get0Entry R _ [2, 10, 10, 2, 0, 0, 0, 0, 0, 0] (4, 0) 5 x0 HX0.out (HVV.out x0 HC0.out) (by decide)
  go_wp2_with fail
  (with_reducible refine KG.mono ?_)
  rintro _ u ⟨rfl, hs, hc⟩
  have hT := (hc.block T HTL0.out HTR.out).trans HT0.out
  have t4 : u.cell? ⟨T, 4, none⟩ = some (.slice none 0 0) := cell_of_row u _ 4 _ _ _ hT
  have z4 : u.frozen? ⟨T, 4, none⟩ = false := frozen_of_row u _ 4 _ _ hT
  have hT2 : (u.setCell ⟨T, 4, none⟩ (.slice none 0 0)).heap[T]? = some (.cells #[.int .i64 1, .int .i64 5, .int .i64 5, .int .i64 1, .slice none 0 0, .slice none 0 0, .slice none 0 0, .slice none 0 0, .slice none 0 0, .slice none 0 0] 29 (0, 0)) := by simpa using heap_setCell_same u T 4 _ _ (.slice none 0 0) hT
  have hc2 : Chg (· = R) W (u.setCell ⟨T, 4, none⟩ (.slice none 0 0)) := (HC0.out.trans hc (fun _ _ h => h)).setCell (p := ⟨T, 4, none⟩) (.inr HTW.out) _
  have hs2 : SrcAt (u.setCell ⟨T, 4, none⟩ (.slice none 0 0)) R (.slice Av 10 cv) (5, 0) := hs.other (p := ⟨T, 4, none⟩) HTR.out
  have hl2 : T < (u.setCell ⟨T, 4, none⟩ (.slice none 0 0)).heap.size := (Array.getElem?_eq_some_iff.1 hT2).1
  clear hs hc hT KG
  go_upto_region 6 with (fail)
  generalize u.setCell ⟨T, 4, none⟩ (.slice none 0 0) = x1 at *
  have HT1 := Lib.hid hT2
  have HC1 := Lib.hid hc2
  have HX1 := Lib.hid hs2
  have HTL1 := Lib.hid hl2
  clear hT2 hc2 hs2 hl2 t4 z4 HT0 HC0 HX0 HTL0
  have KG := get0Delta R _ [2, 10, 10, 2, 0, 0, 0, 0, 0, 0] (5, 0) 6 x1 HX1.out (HVV.out x1 HC1.out) (by decide)
  go_wp2_with fail
  (with_reducible refine KG.mono ?_)
  rintro _ u ⟨rfl, hs, hc⟩
  have hT := (hc.block T HTL1.out HTR.out).trans HT1.out
  have t5 : u.cell? ⟨T, 5, none⟩ = some (.slice none 0 0) := cell_of_row u _ 5 _ _ _ hT
  have z5 : u.frozen? ⟨T, 5, none⟩ = false := frozen_of_row u _ 5 _ _ hT
  have hT2 : (u.setCell ⟨T, 5, none⟩ (.slice none 0 0)).heap[T]? = some (.cells #[.int .i64 1, .int .i64 5, .int .i64 5, .int .i64 1, .slice none 0 0, .slice none 0 0, .slice none 0 0, .slice none 0 0, .slice none 0 0, .slice none 0 0] 29 (0, 0)) := by simpa using heap_setCell_same u T 5 _ _ (.slice none 0 0) hT
  have hc2 : Chg (· = R) W (u.setCell ⟨T, 5, none⟩ (.slice none 0 0)) := (HC1.out.trans hc (fun _ _ h => h)).setCell (p := ⟨T, 5, none⟩) (.inr HTW.out) _
  have hs2 : SrcAt (u.setCell ⟨T, 5, none⟩ (.slice none 0 0)) R (.slice Av 10 cv) (6, 0) := hs.other (p := ⟨T, 5, none⟩) HTR.out
  have hl2 : T < (u.setCell ⟨T, 5, none⟩ (.slice none 0 0)).heap.size := (Array.getElem?_eq_some_iff.1 hT2).1
  clear hs hc hT KG
  go_upto_region 7 with (fail)
  generalize u.setCell ⟨T, 5, none⟩ (.slice none 0 0) = x2 at *
  have HT2 := Lib.hid hT2
  have HC2 := Lib.hid hc2
  have HX2 := Lib.hid hs2
  have HTL2 := Lib.hid hl2
  clear hT2 hc2 hs2 hl2 t5 z5 HT1 HC1 HX1 HTL1
  have KG := get0Hold R _ [2, 10, 10, 2, 0, 0, 0, 0, 0, 0] (6, 0) 7 x2 HX2.out (HVV.out x2 HC2.out) (by decide)
  go_wp2_with fail
  (with_reducible refine KG.mono ?_)
  rintro _ u ⟨rfl, hs, hc⟩
  have hT := (hc.block T HTL2.out HTR.out).trans HT2.out
  have t6 : u.cell? ⟨T, 6, none⟩ = some (.slice none 0 0) := cell_of_row u _ 6 _ _ _ hT
  have z6 : u.frozen? ⟨T, 6, none⟩ = false := frozen_of_row u _ 6 _ _ hT
  have hT2 : (u.setCell ⟨T, 6, none⟩ (.slice none 0 0)).heap[T]? = some (.cells #[.int .i64 1, .int .i64 5, .int .i64 5, .int .i64 1, .slice none 0 0, .slice none 0 0, .slice none 0 0, .slice none 0 0, .slice none 0 0, .slice none 0 0] 29 (0, 0)) := by simpa using heap_setCell_same u T 6 _ _ (.slice none 0 0) hT
  have hc2 : Chg (· = R) W (u.setCell ⟨T, 6, none⟩ (.slice none 0 0)) := (HC2.out.trans hc (fun _ _ h => h)).setCell (p := ⟨T, 6, none⟩) (.inr HTW.out) _
  have hs2 : SrcAt (u.setCell ⟨T, 6, none⟩ (.slice none 0 0)) R (.slice Av 10 cv) (7, 0) := hs.other (p := ⟨T, 6, none⟩) HTR.out
  have hl2 : T < (u.setCell ⟨T, 6, none⟩ (.slice none 0 0)).heap.size := (Array.getElem?_eq_some_iff.1 hT2).1
  clear hs hc hT KG
  go_upto_region 8 with (fail)
  generalize u.setCell ⟨T, 6, none⟩ (.slice none 0 0) = x3 at *
  have HT3 := Lib.hid hT2
  have HC3 := Lib.hid hc2
  have HX3 := Lib.hid hs2
  have HTL3 := Lib.hid hl2
  clear hT2 hc2 hs2 hl2 t6 z6 HT2 HC2 HX2 HTL2
  have KG := get0Str R _ [2, 10, 10, 2, 0, 0, 0, 0, 0, 0] (7, 0) 8 x3 HX3.out (HVV.out x3 HC3.out) (by decide)
  go_wp2_with fail
  (with_reducible refine KG.mono ?_)
  rintro _ u ⟨rfl, hs, hc⟩
  have hT := (hc.block T HTL3.out HTR.out).trans HT3.out
  have t7 : u.cell? ⟨T, 7, none⟩ = some (.slice none 0 0) := cell_of_row u _ 7 _ _ _ hT
  have z7 : u.frozen? ⟨T, 7, none⟩ = false := frozen_of_row u _ 7 _ _ hT
  have hT2 : (u.setCell ⟨T, 7, none⟩ (.slice none 0 0)).heap[T]? = some (.cells #[.int .i64 1, .int .i64 5, .int .i64 5, .int .i64 1, .slice none 0 0, .slice none 0 0, .slice none 0 0, .slice none 0 0, .slice none 0 0, .slice none 0 0] 29 (0, 0)) := by simpa using heap_setCell_same u T 7 _ _ (.slice none 0 0) hT
  have hc2 : Chg (· = R) W (u.setCell ⟨T, 7, none⟩ (.slice none 0 0)) := (HC3.out.trans hc (fun _ _ h => h)).setCell (p := ⟨T, 7, none⟩) (.inr HTW.out) _
  have hs2 : SrcAt (u.setCell ⟨T, 7, none⟩ (.slice none 0 0)) R (.slice Av 10 cv) (8, 0) := hs.other (p := ⟨T, 7, none⟩) HTR.out
  have hl2 : T < (u.setCell ⟨T, 7, none⟩ (.slice none 0 0)).heap.size := (Array.getElem?_eq_some_iff.1 hT2).1
  clear hs hc hT KG
  go_upto_region 9 with (fail)
  generalize u.setCell ⟨T, 7, none⟩ (.slice none 0 0) = x4 at *
  have HT4 := Lib.hid hT2
  have HC4 := Lib.hid hc2
  have HX4 := Lib.hid hs2
  have HTL4 := Lib.hid hl2
  clear hT2 hc2 hs2 hl2 t7 z7 HT3 HC3 HX3 HTL3
  have KG := get0Policy R _ [2, 10, 10, 2, 0, 0, 0, 0, 0, 0] (8, 0) 9 x4 HX4.out (HVV.out x4 HC4.out) (by decide)
  go_wp2_with fail
  (with_reducible refine KG.mono ?_)
  rintro _ u ⟨rfl, hs, hc⟩
  have hT := (hc.block T HTL4.out HTR.out).trans HT4.out
  have t8 : u.cell? ⟨T, 8, none⟩ = some (.slice none 0 0) := cell_of_row u _ 8 _ _ _ hT
  have z8 : u.frozen? ⟨T, 8, none⟩ = false := frozen_of_row u _ 8 _ _ hT
  have hT2 : (u.setCell ⟨T, 8, none⟩ (.slice none 0 0)).heap[T]? = some (.cells #[.int .i64 1, .int .i64 5, .int .i64 5, .int .i64 1, .slice none 0 0, .slice none 0 0, .slice none 0 0, .slice none 0 0, .slice none 0 0, .slice none 0 0] 29 (0, 0)) := by simpa using heap_setCell_same u T 8 _ _ (.slice none 0 0) hT
  have hc2 : Chg (· = R) W (u.setCell ⟨T, 8, none⟩ (.slice none 0 0)) := (HC4.out.trans hc (fun _ _ h => h)).setCell (p := ⟨T, 8, none⟩) (.inr HTW.out) _
  have hs2 : SrcAt (u.setCell ⟨T, 8, none⟩ (.slice none 0 0)) R (.slice Av 10 cv) (9, 0) := hs.other (p := ⟨T, 8, none⟩) HTR.out
  have hl2 : T < (u.setCell ⟨T, 8, none⟩ (.slice none 0 0)).heap.size := (Array.getElem?_eq_some_iff.1 hT2).1
  clear hs hc hT KG
  go_upto_region 10 with (fail)
  generalize u.setCell ⟨T, 8, none⟩ (.slice none 0 0) = x5 at *
  have HT5 := Lib.hid hT2
  have HC5 := Lib.hid hc2
  have HX5 := Lib.hid hs2
  have HTL5 := Lib.hid hl2
  clear hT2 hc2 hs2 hl2 t8 z8 HT4 HC4 HX4 HTL4
  have KG := get0Horizon R _ [2, 10, 10, 2, 0, 0, 0, 0, 0, 0] (9, 0) 10 x5 HX5.out (HVV.out x5 HC5.out) (by decide)
  go_wp2_with fail
  (with_reducible refine KG.mono ?_)
  rintro _ u ⟨rfl, hs, hc⟩
  have hT := (hc.block T HTL5.out HTR.out).trans HT5.out
  have t9 : u.cell? ⟨T, 9, none⟩ = some (.slice none 0 0) := cell_of_row u _ 9 _ _ _ hT
  have z9 : u.frozen? ⟨T, 9, none⟩ = false := frozen_of_row u _ 9 _ _ hT
  have hT2 : (u.setCell ⟨T, 9, none⟩ (.slice none 0 0)).heap[T]? = some (.cells #[.int .i64 1, .int .i64 5, .int .i64 5, .int .i64 1, .slice none 0 0, .slice none 0 0, .slice none 0 0, .slice none 0 0, .slice none 0 0, .slice none 0 0] 29 (0, 0)) := by simpa using heap_setCell_same u T 9 _ _ (.slice none 0 0) hT
  have hc2 : Chg (· = R) W (u.setCell ⟨T, 9, none⟩ (.slice none 0 0)) := (HC5.out.trans hc (fun _ _ h => h)).setCell (p := ⟨T, 9, none⟩) (.inr HTW.out) _
  have hs2 : SrcAt (u.setCell ⟨T, 9, none⟩ (.slice none 0 0)) R (.slice Av 10 cv) (10, 0) := hs.other (p := ⟨T, 9, none⟩) HTR.out
  have hl2 : T < (u.setCell ⟨T, 9, none⟩ (.slice none 0 0)).heap.size := (Array.getElem?_eq_some_iff.1 hT2).1
  clear hs hc hT KG
  go_upto_region 11 with (fail)
  generalize u.setCell ⟨T, 9, none⟩ (.slice none 0 0) = x6 at *
  have HT6 := Lib.hid hT2
  have HC6 := Lib.hid hc2
  have HX6 := Lib.hid hs2
  have HTL6 := Lib.hid hl2
  clear hT2 hc2 hs2 hl2 t9 z9 HT5 HC5 HX5 HTL5
  have KE := srcEnd_any R _ [2, 10, 10, 2, 0, 0, 0, 0, 0, 0] (10, 0) x6 HX6.out (HVV.out x6 HC6.out)
  rw [show endE (10, 0) ([2, 10, 10, 2, 0, 0, 0, 0, 0, 0] : List UInt8).length = 0 from by decide] at KE
  go_wp2_with fail
  (with_reducible refine KE.mono ?_)
  rintro _ u ⟨rfl, hb⟩
  have hT := (hb.block T HTL6.out).trans HT6.out
  have HTL7 : Hid (T < u.heap.size) := Lib.hid (Array.getElem?_eq_some_iff.1 hT).1
  have HC7 : Hid (Chg (· = R) W u) := Lib.hid (HC6.out.then_below hb)
  have HT7 := Lib.hid hT
  have KC := chkNil u
  have t0 : u.cell? ⟨T, 0, none⟩ = some (.int .i64 1) := cell_of_row u _ 0 _ _ _ hT
  have t1 : u.cell? ⟨T, 1, none⟩ = some (.int .i64 5) := cell_of_row u _ 1 _ _ _ hT
  have t2 : u.cell? ⟨T, 2, none⟩ = some (.int .i64 5) := cell_of_row u _ 2 _ _ _ hT
  have t3 : u.cell? ⟨T, 3, none⟩ = some (.int .i64 1) := cell_of_row u _ 3 _ _ _ hT
  have t4 : u.cell? ⟨T, 4, none⟩ = some (.slice none 0 0) := cell_of_row u _ 4 _ _ _ hT
  have t5 : u.cell? ⟨T, 5, none⟩ = some (.slice none 0 0) := cell_of_row u _ 5 _ _ _ hT
  have t6 : u.cell? ⟨T, 6, none⟩ = some (.slice none 0 0) := cell_of_row u _ 6 _ _ _ hT
  have t7 : u.cell? ⟨T, 7, none⟩ = some (.slice none 0 0) := cell_of_row u _ 7 _ _ _ hT
  have t8 : u.cell? ⟨T, 8, none⟩ = some (.slice none 0 0) := cell_of_row u _ 8 _ _ _ hT
  have t9 : u.cell? ⟨T, 9, none⟩ = some (.slice none 0 0) := cell_of_row u _ 9 _ _ _ hT
  clear hb hT KE HT6 HC6 HX6 HTL6
  go_upto_region 14 with (fail)
  go_wp2_with fail
  (with_reducible refine KC.mono ?_)
  rintro _ u2 ⟨rfl, hb⟩
  have hT := (hb.block T HTL7.out).trans HT7.out
  have HC8 : Hid (Chg (· = R) W u2) := Lib.hid (HC7.out.then_below hb)
  have hB := (HC8.out.block w.heap.size HBL.out (by have := HRE.out; omega)).trans HBZ.out
  clear t0 t1 t2 t3 t4 t5 t6 t7 t8 t9 KC hb
  go_upto_region 17 with (fail)
  have t0 : u2.cell? ⟨T, 0, none⟩ = some (.int .i64 1) := cell_of_row u2 _ 0 _ _ _ hT
  have t1 : u2.cell? ⟨T, 1, none⟩ = some (.int .i64 5) := cell_of_row u2 _ 1 _ _ _ hT
  have t2 : u2.cell? ⟨T, 2, none⟩ = some (.int .i64 5) := cell_of_row u2 _ 2 _ _ _ hT
  have t3 : u2.cell? ⟨T, 3, none⟩ = some (.int .i64 1) := cell_of_row u2 _ 3 _ _ _ hT
  have t4 : u2.cell? ⟨T, 4, none⟩ = some (.slice none 0 0) := cell_of_row u2 _ 4 _ _ _ hT
  have t5 : u2.cell? ⟨T, 5, none⟩ = some (.slice none 0 0) := cell_of_row u2 _ 5 _ _ _ hT
  have t6 : u2.cell? ⟨T, 6, none⟩ = some (.slice none 0 0) := cell_of_row u2 _ 6 _ _ _ hT
  have t7 : u2.cell? ⟨T, 7, none⟩ = some (.slice none 0 0) := cell_of_row u2 _ 7 _ _ _ hT
  have t8 : u2.cell? ⟨T, 8, none⟩ = some (.slice none 0 0) := cell_of_row u2 _ 8 _ _ _ hT
  have t9 : u2.cell? ⟨T, 9, none⟩ = some (.slice none 0 0) := cell_of_row u2 _ 9 _ _ _ hT
  have q0 : u2.cell? ⟨w.heap.size, 0, none⟩ = some (.int .i64 0) := cell_of_row u2 _ 0 _ _ _ hB
  have q1 : u2.cell? ⟨w.heap.size, 1, none⟩ = some (.int .i64 0) := cell_of_row u2 _ 1 _ _ _ hB
  have q2 : u2.cell? ⟨w.heap.size, 2, none⟩ = some (.int .i64 0) := cell_of_row u2 _ 2 _ _ _ hB
  have q3 : u2.cell? ⟨w.heap.size, 3, none⟩ = some (.int .i64 0) := cell_of_row u2 _ 3 _ _ _ hB
  have q4 : u2.cell? ⟨w.heap.size, 4, none⟩ = some (.slice none 0 0) := cell_of_row u2 _ 4 _ _ _ hB
  have q5 : u2.cell? ⟨w.heap.size, 5, none⟩ = some (.slice none 0 0) := cell_of_row u2 _ 5 _ _ _ hB
  have q6 : u2.cell? ⟨w.heap.size, 6, none⟩ = some (.slice none 0 0) := cell_of_row u2 _ 6 _ _ _ hB
  have q7 : u2.cell? ⟨w.heap.size, 7, none⟩ = some (.slice none 0 0) := cell_of_row u2 _ 7 _ _ _ hB
  have q8 : u2.cell? ⟨w.heap.size, 8, none⟩ = some (.slice none 0 0) := cell_of_row u2 _ 8 _ _ _ hB
  have q9 : u2.cell? ⟨w.heap.size, 9, none⟩ = some (.slice none 0 0) := cell_of_row u2 _ 9 _ _ _ hB
  have f0 : u2.frozen? ⟨w.heap.size, 0, none⟩ = false := frozen_of_row u2 _ 0 _ _ hB
  have f1 : u2.frozen? ⟨w.heap.size, 1, none⟩ = false := frozen_of_row u2 _ 1 _ _ hB
  have f2 : u2.frozen? ⟨w.heap.size, 2, none⟩ = false := frozen_of_row u2 _ 2 _ _ hB
  have f3 : u2.frozen? ⟨w.heap.size, 3, none⟩ = false := frozen_of_row u2 _ 3 _ _ hB
  have f4 : u2.frozen? ⟨w.heap.size, 4, none⟩ = false := frozen_of_row u2 _ 4 _ _ hB
  have f5 : u2.frozen? ⟨w.heap.size, 5, none⟩ = false := frozen_of_row u2 _ 5 _ _ hB
  have f6 : u2.frozen? ⟨w.heap.size, 6, none⟩ = false := frozen_of_row u2 _ 6 _ _ hB
  have f7 : u2.frozen? ⟨w.heap.size, 7, none⟩ = false := frozen_of_row u2 _ 7 _ _ hB
  have f8 : u2.frozen? ⟨w.heap.size, 8, none⟩ = false := frozen_of_row u2 _ 8 _ _ hB
  have f9 : u2.frozen? ⟨w.heap.size, 9, none⟩ = false := frozen_of_row u2 _ 9 _ _ hB
  have hF := ten_set hB (.int .i64 1) (.int .i64 5) (.int .i64 5) (.int .i64 1) (.slice none 0 0) (.slice none 0 0) (.slice none 0 0) (.slice none 0 0) (.slice none 0 0) (.slice none 0 0)
  have hcB := ten_chg u2 w.heap.size (.int .i64 1) (.int .i64 5) (.int .i64 5) (.int .i64 1) (.slice none 0 0) (.slice none 0 0) (.slice none 0 0) (.slice none 0 0) (.slice none 0 0) (.slice none 0 0)
  have HF := Lib.hid hF
  have HFB : Hid (Below w.heap.size w ((((((((((u2.setCell ⟨w.heap.size, 0, none⟩ (.int .i64 1)).setCell ⟨w.heap.size, 1, none⟩ (.int .i64 5)).setCell ⟨w.heap.size, 2, none⟩ (.int .i64 5)).setCell ⟨w.heap.size, 3, none⟩ (.int .i64 1)).setCell ⟨w.heap.size, 4, none⟩ (.slice none 0 0)).setCell ⟨w.heap.size, 5, none⟩ (.slice none 0 0)).setCell ⟨w.heap.size, 6, none⟩ (.slice none 0 0)).setCell ⟨w.heap.size, 7, none⟩ (.slice none 0 0)).setCell ⟨w.heap.size, 8, none⟩ (.slice none 0 0)).setCell ⟨w.heap.size, 9, none⟩ (.slice none 0 0))) := Lib.hid ((HBW.out.trans (HC8.out.below (by have := HRE.out; have := HBL.out; omega) (fun i (hi : i = R) => by have := HRE.out; omega))).trans (hcB.below (by have := HC8.out.size; have := HBL.out; omega) (fun i (hi : i = w.heap.size) => by omega)))
  clear hF hcB hB hT
  go_wp2_with fail
  generalize ((((((((((u2.setCell ⟨w.heap.size, 0, none⟩ (.int .i64 1)).setCell ⟨w.heap.size, 1, none⟩ (.int .i64 5)).setCell ⟨w.heap.size, 2, none⟩ (.int .i64 5)).setCell ⟨w.heap.size, 3, none⟩ (.int .i64 1)).setCell ⟨w.heap.size, 4, none⟩ (.slice none 0 0)).setCell ⟨w.heap.size, 5, none⟩ (.slice none 0 0)).setCell ⟨w.heap.size, 6, none⟩ (.slice none 0 0)).setCell ⟨w.heap.size, 7, none⟩ (.slice none 0 0)).setCell ⟨w.heap.size, 8, none⟩ (.slice none 0 0)).setCell ⟨w.heap.size, 9, none⟩ (.slice none 0 0)) = Z at *
  have y0 : Z.cell? ⟨w.heap.size, 0, none⟩ = some (.int .i64 1) := cell_of_row Z _ 0 _ _ _ HF.out
  have y1 : Z.cell? ⟨w.heap.size, 1, none⟩ = some (.int .i64 5) := cell_of_row Z _ 1 _ _ _ HF.out
  have y2 : Z.cell? ⟨w.heap.size, 2, none⟩ = some (.int .i64 5) := cell_of_row Z _ 2 _ _ _ HF.out
  have y3 : Z.cell? ⟨w.heap.size, 3, none⟩ = some (.int .i64 1) := cell_of_row Z _ 3 _ _ _ HF.out
  have y4 : Z.cell? ⟨w.heap.size, 4, none⟩ = some (.slice none 0 0) := cell_of_row Z _ 4 _ _ _ HF.out
  have y5 : Z.cell? ⟨w.heap.size, 5, none⟩ = some (.slice none 0 0) := cell_of_row Z _ 5 _ _ _ HF.out
  have y6 : Z.cell? ⟨w.heap.size, 6, none⟩ = some (.slice none 0 0) := cell_of_row Z _ 6 _ _ _ HF.out
  have y7 : Z.cell? ⟨w.heap.size, 7, none⟩ = some (.slice none 0 0) := cell_of_row Z _ 7 _ _ _ HF.out
  have y8 : Z.cell? ⟨w.heap.size, 8, none⟩ = some (.slice none 0 0) := cell_of_row Z _ 8 _ _ _ HF.out
  have y9 : Z.cell? ⟨w.heap.size, 9, none⟩ = some (.slice none 0 0) := cell_of_row Z _ 9 _ _ _ HF.out
  exact bodyPost_ret (v := .tuple #[.agg #[.int .i64 1, .int .i64 5, .int .i64 5, .int .i64 1, .slice none 0 0, .slice none 0 0, .slice none 0 0, .slice none 0 0, .slice none 0 0, .slice none 0 0], .int .i64 0]) (by simp [results, Tryz.results17, go_sem, y0, y1, y2, y3, y4, y5, y6, y7, y8, y9]) rfl ⟨rfl, HFB.out⟩
end Go.Proofs.YtbfdegkickjbpaaGreat
