/-
  Trees in memory: measures, rotations, balance.
-/
import Derived.Test.YtkocehfapcmiiaaTreeA
namespace Go.Proofs.Ytkocehfapcmiiaa
open Go.RowKit Go.Lib Go.IntWalk

theorem Tr.At.chg {w w' : World} {S : Nat → Prop} (hc : Chg S w w') : ∀ {t : Tr}, t.At w → (∀ c ∈ t.blocks, ¬ S c) → t.At w'
  | .nil, _, _ => trivial
  | .node b _ _ _ _ _, ⟨h1, h2, h3⟩, hs =>
    ⟨(hc.block b (Array.getElem?_eq_some_iff.1 h1).1 (hs b (List.mem_cons_self ..))).trans h1,
      Tr.At.chg hc h2 (fun c hc' => hs c (List.mem_cons_of_mem _ (List.mem_append_left _ hc'))), Tr.At.chg hc h3 (fun c hc' => hs c (List.mem_cons_of_mem _ (List.mem_append_right _ hc')))⟩
theorem Tr.At.below {w w' : World} {t : Tr} (h : t.At w) (hb : Below w.heap.size w w') : t.At w' := h.chg (Chg.of_below hb (fun _ => False)) (fun _ _ h => h)
theorem Tr.At.drew {w : World} : ∀ {t : Tr}, t.At w → t.At w.drew
  | .nil, _ => trivial
  | .node _ _ _ _ _ _, ⟨h1, h2, h3⟩ => ⟨h1, h2.drew, h3.drew⟩
theorem Tr.At.lt {w : World} : ∀ {t : Tr}, t.At w → ∀ c ∈ t.blocks, c < w.heap.size
  | .nil, _, c, hc => by cases hc
  | .node b x l r h e, ⟨h1, h2, h3⟩, c, hc => by
    rcases List.mem_cons.1 hc with rfl | hc
    · exact (Array.getElem?_eq_some_iff.1 h1).1
    · rcases List.mem_append.1 hc with hc | hc
      · exact h2.lt c hc
      · exact h3.lt c hc
theorem nd_node {b : Nat} {x : It} {l r : Tr} {h e : Int} (hn : (Tr.node b x l r h e).blocks.Nodup) : b ∉ l.blocks ∧ b ∉ r.blocks ∧ l.blocks.Nodup ∧ r.blocks.Nodup ∧ (∀ c ∈ l.blocks, c ∉ r.blocks) := by
  rw [Tr.blocks_node, List.nodup_cons, List.nodup_append] at hn
  obtain ⟨h1, h2, h3, h4⟩ := hn
  exact ⟨fun h => h1 (List.mem_append_left _ h), fun h => h1 (List.mem_append_right _ h), h2, h3, fun c hc hr => h4 c hc c hr rfl⟩
theorem ret_int {k : IntKind} {a b : Int} (h : a = b) : Ending.returned (.int k a) = .returned (.int k b) := by rw [h]
theorem Chg.undrew {S : Nat → Prop} {w w' : World} (h : Chg S w.drew w') : Chg S w w' := ⟨h.os, h.tape, h.output, h.size, h.block⟩
def None_ : Nat → Prop := fun _ => False
theorem drew_chg (w : World) : Chg None_ w w.drew := (Chg.refl _ _).drew

set_option maxRecDepth 100000 in
set_option maxHeartbeats 1000000 in
theorem meas_levels (b : Nat) (x : It) (l r : Tr) (h e : Int) (w : World) (ht : (Tr.node b x l r h e).At w) :
    Calls Try.prog 60 #[.func (Fn.func 34) #[] #[], .pointer (some ⟨b, 0, none⟩)] w fun e' w' => e' = .returned (.int .i64 (max l.ht r.ht)) ∧ Chg None_ w w' := by
  obtain ⟨hrow, hl, hr⟩ := ht
  have hbl := (Array.getElem?_eq_some_iff.1 hrow).1
  have c3 : w.cell? ⟨b, 3, none⟩ = some (.pointer l.pa) := cell_of_row _ _ 3 _ _ _ hrow
  have c4 : w.cell? ⟨b, 4, none⟩ = some (.pointer r.pa) := cell_of_row _ _ 4 _ _ _ hrow
  clear hrow
  go_enter Try.func60, Try.ntmps60
  go_wp2_with fail
  obtain ⟨W, hW⟩ : ∃ W, W = w := ⟨_, rfl⟩
  rw [← hW] at c3 c4 hl hr hbl ⊢
  have HW := Lib.hid hW
  clear hW
  refine wp_region_noPanic ?_
  refine wp_region_held_drew (S := (fun w' => Below W.heap.size W w')) (by kernel_rfl) ?_ (fun hHeld => ?_)
  · exact (Below.refl _ _).drew
  refine heldTake 0 (some 5) (v := ?_) rfl rfl (by kernel_rfl) (by kernel_rfl) (by kernel_rfl) (by rfl) hHeld (fun _ _ _ h => h) ?_ ?_
  rotate_left
  · intro w' hSw; (try dsimp only at hSw); go_simp <;> with_reducible rfl
  simp only [Act.put, List.setIfInBounds_toArray, List.set_cons_zero, List.set_cons_succ]
  refine heldTake 1 (some 6) (v := ?_) rfl rfl (by kernel_rfl) (by kernel_rfl) (by kernel_rfl) (by rfl) hHeld (fun _ _ _ h => h) ?_ ?_
  rotate_left
  · intro w' hSw; (try dsimp only at hSw); go_simp <;> with_reducible rfl
  simp only [Act.put, List.setIfInBounds_toArray, List.set_cons_zero, List.set_cons_succ]
  refine heldTake 2 (some 7) (v := ?_) rfl rfl (by kernel_rfl) (by kernel_rfl) (by kernel_rfl) (by rfl) hHeld (fun _ _ _ h => h) ?_ ?_
  rotate_left
  · intro w' hSw; (try dsimp only at hSw); go_simp <;> with_reducible rfl
  simp only [Act.put, List.setIfInBounds_toArray, List.set_cons_zero, List.set_cons_succ]
  refine heldTake 3 (some 8) (v := ?_) rfl rfl (by kernel_rfl) (by kernel_rfl) (by kernel_rfl) (by rfl) hHeld (fun _ _ _ h => h) ?_ ?_
  rotate_left
  · intro w' hSw; (try dsimp only at hSw); go_simp <;> with_reducible rfl
  simp only [Act.put, List.setIfInBounds_toArray, List.set_cons_zero, List.set_cons_succ]
  refine heldTake 4 (some 9) (v := ?_) rfl rfl (by kernel_rfl) (by kernel_rfl) (by kernel_rfl) (by rfl) hHeld (fun _ _ _ h => h) ?_ ?_
  rotate_left
  · intro w' hSw; (try dsimp only at hSw); have q0 := (hSw.cell (p := ⟨b, 3, none⟩) (show b < W.heap.size by omega)).trans c3; have q1 := (hSw.cell (p := ⟨b, 4, none⟩) (show b < W.heap.size by omega)).trans c4; go_simp <;> with_reducible rfl
  simp only [Act.put, List.setIfInBounds_toArray, List.set_cons_zero, List.set_cons_succ]
  refine heldTake 6 (some 11) (v := ?_) rfl rfl (by kernel_rfl) (by kernel_rfl) (by kernel_rfl) (by rfl) hHeld (fun _ _ _ h => h) ?_ ?_
  rotate_left
  · intro w' hSw; (try dsimp only at hSw); go_simp <;> with_reducible rfl
  simp only [Act.put, List.setIfInBounds_toArray, List.set_cons_zero, List.set_cons_succ]
  refine heldTake 7 (some 12) (v := ?_) rfl rfl (by kernel_rfl) (by kernel_rfl) (by kernel_rfl) (by rfl) hHeld (fun _ _ _ h => h) ?_ ?_
  rotate_left
  · intro w' hSw; (try dsimp only at hSw); go_simp <;> with_reducible rfl
  simp only [Act.put, List.setIfInBounds_toArray, List.set_cons_zero, List.set_cons_succ]
  refine heldTake 8 (some 13) (v := ?_) rfl rfl (by kernel_rfl) (by kernel_rfl) (by kernel_rfl) (by rfl) hHeld (fun _ _ _ h => h) ?_ ?_
  rotate_left
  · intro w' hSw; (try dsimp only at hSw); go_simp <;> with_reducible rfl
  simp only [Act.put, List.setIfInBounds_toArray, List.set_cons_zero, List.set_cons_succ]
  refine heldTake 9 (some 14) (v := ?_) rfl rfl (by kernel_rfl) (by kernel_rfl) (by kernel_rfl) (by rfl) hHeld (fun _ _ _ h => h) ?_ ?_
  rotate_left
  · intro w' hSw; (try dsimp only at hSw); go_simp <;> with_reducible rfl
  simp only [Act.put, List.setIfInBounds_toArray, List.set_cons_zero, List.set_cons_succ]
  refine heldTake 10 (some 15) (v := ?_) rfl rfl (by kernel_rfl) (by kernel_rfl) (by kernel_rfl) (by rfl) hHeld (fun _ _ _ h => h) ?_ ?_
  rotate_left
  · intro w' hSw; (try dsimp only at hSw); have q0 := (hSw.cell (p := ⟨b, 3, none⟩) (show b < W.heap.size by omega)).trans c3; have q1 := (hSw.cell (p := ⟨b, 4, none⟩) (show b < W.heap.size by omega)).trans c4; go_simp <;> with_reducible rfl
  simp only [Act.put, List.setIfInBounds_toArray, List.set_cons_zero, List.set_cons_succ]
  refine heldCall 5 (some 10) (f := ?_) (args := ?_) rfl rfl (by kernel_rfl) (by rfl) ?_ ?_
  rotate_left 2
  · go_simp <;> first | (constructor <;> with_reducible rfl) | with_reducible rfl
  (with_reducible refine (levels_any l W.drew hl.drew).mono ?_)
  rintro e1 w1 ⟨rfl, rfl⟩
  refine ⟨_, rfl, keepAnd ?_ (fun hNew => ?_)⟩
  · exact (Below.refl _ _).drew
  clear hHeld
  have hHeld := hNew
  clear hNew
  simp only [Act.put, List.setIfInBounds_toArray, List.set_cons_zero, List.set_cons_succ]
  refine heldCall 11 (some 16) (f := ?_) (args := ?_) rfl rfl (by kernel_rfl) (by rfl) ?_ ?_
  rotate_left 2
  · go_simp <;> first | (constructor <;> with_reducible rfl) | with_reducible rfl
  (with_reducible refine (levels_any r W.drew hr.drew).mono ?_)
  rintro e2 w2 ⟨rfl, rfl⟩
  refine ⟨_, rfl, keepAnd ?_ (fun hNew => ?_)⟩
  · exact (Below.refl _ _).drew
  clear hHeld
  have hHeld := hNew
  clear hNew
  simp only [Act.put, List.setIfInBounds_toArray, List.set_cons_zero, List.set_cons_succ]
  refine heldTake 12 (some 17) (v := ?_) rfl rfl (by kernel_rfl) (by kernel_rfl) (by kernel_rfl) (by rfl) hHeld (fun _ _ _ h => h) ?_ ?_
  rotate_left
  · intro w' hSw; (try dsimp only at hSw); go_simp <;> with_reducible rfl
  simp only [Act.put, List.setIfInBounds_toArray, List.set_cons_zero, List.set_cons_succ]
  refine heldTake 13 (some 4) (v := ?_) rfl rfl (by kernel_rfl) (by kernel_rfl) (by kernel_rfl) (by rfl) hHeld (fun _ _ _ h => h) ?_ ?_
  rotate_left
  · intro w' hSw; (try dsimp only at hSw); go_simp <;> with_reducible rfl
  simp only [Act.put, List.setIfInBounds_toArray, List.set_cons_zero, List.set_cons_succ]
  refine wpAnyH_done (by kernel_rfl) ?_ _
  refine NoPanic.normal ?_
  go_wp2_with fail
  all_goals
    go_ret
    exact ⟨ret_int (by omega), HW.out ▸ drew_chg W⟩

set_option maxRecDepth 100000 in
set_option maxHeartbeats 1000000 in
theorem meas_last (b : Nat) (x : It) (l r : Tr) (h e : Int) (w : World) (ht : (Tr.node b x l r h e).At w) :
    Calls Try.prog 60 #[.func (Fn.func 61) #[] #[], .pointer (some ⟨b, 0, none⟩)] w fun e' w' => e' = .returned (.int .i64 (max l.en r.en)) ∧ Chg None_ w w' := by
  obtain ⟨hrow, hl, hr⟩ := ht
  have hbl := (Array.getElem?_eq_some_iff.1 hrow).1
  have c3 : w.cell? ⟨b, 3, none⟩ = some (.pointer l.pa) := cell_of_row _ _ 3 _ _ _ hrow
  have c4 : w.cell? ⟨b, 4, none⟩ = some (.pointer r.pa) := cell_of_row _ _ 4 _ _ _ hrow
  clear hrow
  go_enter Try.func60, Try.ntmps60
  go_wp2_with fail
  obtain ⟨W, hW⟩ : ∃ W, W = w := ⟨_, rfl⟩
  rw [← hW] at c3 c4 hl hr hbl ⊢
  have HW := Lib.hid hW
  clear hW
  refine wp_region_noPanic ?_
  refine wp_region_held_drew (S := (fun w' => Below W.heap.size W w')) (by kernel_rfl) ?_ (fun hHeld => ?_)
  · exact (Below.refl _ _).drew
  refine heldTake 0 (some 5) (v := ?_) rfl rfl (by kernel_rfl) (by kernel_rfl) (by kernel_rfl) (by rfl) hHeld (fun _ _ _ h => h) ?_ ?_
  rotate_left
  · intro w' hSw; (try dsimp only at hSw); go_simp <;> with_reducible rfl
  simp only [Act.put, List.setIfInBounds_toArray, List.set_cons_zero, List.set_cons_succ]
  refine heldTake 1 (some 6) (v := ?_) rfl rfl (by kernel_rfl) (by kernel_rfl) (by kernel_rfl) (by rfl) hHeld (fun _ _ _ h => h) ?_ ?_
  rotate_left
  · intro w' hSw; (try dsimp only at hSw); go_simp <;> with_reducible rfl
  simp only [Act.put, List.setIfInBounds_toArray, List.set_cons_zero, List.set_cons_succ]
  refine heldTake 2 (some 7) (v := ?_) rfl rfl (by kernel_rfl) (by kernel_rfl) (by kernel_rfl) (by rfl) hHeld (fun _ _ _ h => h) ?_ ?_
  rotate_left
  · intro w' hSw; (try dsimp only at hSw); go_simp <;> with_reducible rfl
  simp only [Act.put, List.setIfInBounds_toArray, List.set_cons_zero, List.set_cons_succ]
  refine heldTake 3 (some 8) (v := ?_) rfl rfl (by kernel_rfl) (by kernel_rfl) (by kernel_rfl) (by rfl) hHeld (fun _ _ _ h => h) ?_ ?_
  rotate_left
  · intro w' hSw; (try dsimp only at hSw); go_simp <;> with_reducible rfl
  simp only [Act.put, List.setIfInBounds_toArray, List.set_cons_zero, List.set_cons_succ]
  refine heldTake 4 (some 9) (v := ?_) rfl rfl (by kernel_rfl) (by kernel_rfl) (by kernel_rfl) (by rfl) hHeld (fun _ _ _ h => h) ?_ ?_
  rotate_left
  · intro w' hSw; (try dsimp only at hSw); have q0 := (hSw.cell (p := ⟨b, 3, none⟩) (show b < W.heap.size by omega)).trans c3; have q1 := (hSw.cell (p := ⟨b, 4, none⟩) (show b < W.heap.size by omega)).trans c4; go_simp <;> with_reducible rfl
  simp only [Act.put, List.setIfInBounds_toArray, List.set_cons_zero, List.set_cons_succ]
  refine heldTake 6 (some 11) (v := ?_) rfl rfl (by kernel_rfl) (by kernel_rfl) (by kernel_rfl) (by rfl) hHeld (fun _ _ _ h => h) ?_ ?_
  rotate_left
  · intro w' hSw; (try dsimp only at hSw); go_simp <;> with_reducible rfl
  simp only [Act.put, List.setIfInBounds_toArray, List.set_cons_zero, List.set_cons_succ]
  refine heldTake 7 (some 12) (v := ?_) rfl rfl (by kernel_rfl) (by kernel_rfl) (by kernel_rfl) (by rfl) hHeld (fun _ _ _ h => h) ?_ ?_
  rotate_left
  · intro w' hSw; (try dsimp only at hSw); go_simp <;> with_reducible rfl
  simp only [Act.put, List.setIfInBounds_toArray, List.set_cons_zero, List.set_cons_succ]
  refine heldTake 8 (some 13) (v := ?_) rfl rfl (by kernel_rfl) (by kernel_rfl) (by kernel_rfl) (by rfl) hHeld (fun _ _ _ h => h) ?_ ?_
  rotate_left
  · intro w' hSw; (try dsimp only at hSw); go_simp <;> with_reducible rfl
  simp only [Act.put, List.setIfInBounds_toArray, List.set_cons_zero, List.set_cons_succ]
  refine heldTake 9 (some 14) (v := ?_) rfl rfl (by kernel_rfl) (by kernel_rfl) (by kernel_rfl) (by rfl) hHeld (fun _ _ _ h => h) ?_ ?_
  rotate_left
  · intro w' hSw; (try dsimp only at hSw); go_simp <;> with_reducible rfl
  simp only [Act.put, List.setIfInBounds_toArray, List.set_cons_zero, List.set_cons_succ]
  refine heldTake 10 (some 15) (v := ?_) rfl rfl (by kernel_rfl) (by kernel_rfl) (by kernel_rfl) (by rfl) hHeld (fun _ _ _ h => h) ?_ ?_
  rotate_left
  · intro w' hSw; (try dsimp only at hSw); have q0 := (hSw.cell (p := ⟨b, 3, none⟩) (show b < W.heap.size by omega)).trans c3; have q1 := (hSw.cell (p := ⟨b, 4, none⟩) (show b < W.heap.size by omega)).trans c4; go_simp <;> with_reducible rfl
  simp only [Act.put, List.setIfInBounds_toArray, List.set_cons_zero, List.set_cons_succ]
  refine heldCall 5 (some 10) (f := ?_) (args := ?_) rfl rfl (by kernel_rfl) (by rfl) ?_ ?_
  rotate_left 2
  · go_simp <;> first | (constructor <;> with_reducible rfl) | with_reducible rfl
  (with_reducible refine (last_any l W.drew hl.drew).mono ?_)
  rintro e1 w1 ⟨rfl, rfl⟩
  refine ⟨_, rfl, keepAnd ?_ (fun hNew => ?_)⟩
  · exact (Below.refl _ _).drew
  clear hHeld
  have hHeld := hNew
  clear hNew
  simp only [Act.put, List.setIfInBounds_toArray, List.set_cons_zero, List.set_cons_succ]
  refine heldCall 11 (some 16) (f := ?_) (args := ?_) rfl rfl (by kernel_rfl) (by rfl) ?_ ?_
  rotate_left 2
  · go_simp <;> first | (constructor <;> with_reducible rfl) | with_reducible rfl
  (with_reducible refine (last_any r W.drew hr.drew).mono ?_)
  rintro e2 w2 ⟨rfl, rfl⟩
  refine ⟨_, rfl, keepAnd ?_ (fun hNew => ?_)⟩
  · exact (Below.refl _ _).drew
  clear hHeld
  have hHeld := hNew
  clear hNew
  simp only [Act.put, List.setIfInBounds_toArray, List.set_cons_zero, List.set_cons_succ]
  refine heldTake 12 (some 17) (v := ?_) rfl rfl (by kernel_rfl) (by kernel_rfl) (by kernel_rfl) (by rfl) hHeld (fun _ _ _ h => h) ?_ ?_
  rotate_left
  · intro w' hSw; (try dsimp only at hSw); go_simp <;> with_reducible rfl
  simp only [Act.put, List.setIfInBounds_toArray, List.set_cons_zero, List.set_cons_succ]
  refine heldTake 13 (some 4) (v := ?_) rfl rfl (by kernel_rfl) (by kernel_rfl) (by kernel_rfl) (by rfl) hHeld (fun _ _ _ h => h) ?_ ?_
  rotate_left
  · intro w' hSw; (try dsimp only at hSw); go_simp <;> with_reducible rfl
  simp only [Act.put, List.setIfInBounds_toArray, List.set_cons_zero, List.set_cons_succ]
  refine wpAnyH_done (by kernel_rfl) ?_ _
  refine NoPanic.normal ?_
  go_wp2_with fail
  all_goals
    go_ret
    exact ⟨ret_int (by omega), HW.out ▸ drew_chg W⟩

set_option maxRecDepth 100000 in
set_option maxHeartbeats 1000000 in
theorem fix_any (b : Nat) (x : It) (l r : Tr) (h e : Int) (w : World) (ht : (Tr.node b x l r h e).At w) (hn : b ∉ l.blocks ∧ b ∉ r.blocks) (hl0 : 0 ≤ l.ht) (hr0 : 0 ≤ r.ht) (hl1 : l.ht ≤ 1099511627776) (hr1 : r.ht ≤ 1099511627776) :
    Calls Try.prog 46 #[.pointer (some ⟨b, 0, none⟩)] w fun e' w' => (∃ u, e' = .returned u) ∧ (Tr.mk b x l r).At w' ∧ Chg (· = b) w w' := by
  have CM := Lib.hid (meas_levels b x l r h e w ht)
  obtain ⟨hrow, hl, hr⟩ := ht
  have hbl := (Array.getElem?_eq_some_iff.1 hrow).1
  have h0 : 0 ≤ max l.ht r.ht := by omega
  have h1 : max l.ht r.ht ≤ 1099511627776 := by omega
  generalize hM : max l.ht r.ht = M at *
  have HM := Lib.hid hM
  clear hM
  go_enter Try.func46, Try.ntmps46
  go_wp2_with fail
  (with_reducible refine CM.out.mono ?_)
  rintro e0 w1 ⟨rfl, hC1⟩
  clear CM
  have hs1 := hC1.size
  have hX1 := (hC1.block b hbl (fun h => h)).trans hrow
  have hl1' := hl.chg hC1 (fun _ _ h => h)
  have hr1' := hr.chg hC1 (fun _ _ h => h)
  have f1 := frozen_of_row w1 b 5 _ _ hX1
  have g1 : w1.cell? ⟨b, 5, none⟩ = some (.int .i64 h) := cell_of_row _ _ 5 _ _ _ hX1
  have hXV := heap_setCell_same w1 b 5 _ _ (.int .i64 (1 + M)) hX1
  have hC2 : Chg (· = b) w1 (w1.setCell ⟨b, 5, none⟩ (.int .i64 (1 + M))) := Chg.setCell (S := (· = b)) (Chg.refl _ _) (.inl rfl) _
  obtain ⟨V, hV⟩ : ∃ V, V = w1.setCell ⟨b, 5, none⟩ (.int .i64 (1 + M)) := ⟨_, rfl⟩
  rw [← hV] at hXV hC2
  have hsV := hC2.size
  have hXV : V.heap[b]? = some (.cells (nodeC x l r (1 + M) e) 69 (0, 0)) := hXV
  have hlV := hl1'.chg hC2 (fun c hc e => hn.1 (e ▸ hc))
  have hrV := hr1'.chg hC2 (fun c hc e => hn.2 (e ▸ hc))
  have hAV : (Tr.node b x l r (1 + M) e).At V := ⟨hXV, hlV, hrV⟩
  have hbV : b < V.heap.size := by omega
  have c1 : V.cell? ⟨b, 1, none⟩ = some (.int .i64 x.to) := cell_of_row _ _ 1 _ _ _ hXV
  have HV := Lib.hid hV
  have HX1 := Lib.hid hX1
  clear hV hX1 hl hr hrow
  go_wp2_with fail
  rw [← HV.out]
  have hm : (if x.to < max l.en r.en then max l.en r.en else x.to) = max x.to (max l.en r.en) := by split <;> omega
  refine wp_region_noPanic ?_
  refine beginT (S := (fun w' => w'.heap[b]? = V.heap[b]?)) 12 (by kernel_rfl) ?_ (fun hHeld => ?_)
  · rfl
  refine takeT 0 (some 8) (v := ?_) rfl rfl (by kernel_rfl) (by kernel_rfl) (by kernel_rfl) (by kernel_rfl) (by rfl) hHeld (fun _ _ _ h => h) ?_ ?_
  rotate_left
  · intro w' hSw; (try dsimp only at hSw); go_simp <;> with_reducible rfl
  simp only [Act.put, List.setIfInBounds_toArray, List.set_cons_zero, List.set_cons_succ]
  refine takeT 1 (some 9) (v := ?_) rfl rfl (by kernel_rfl) (by kernel_rfl) (by kernel_rfl) (by kernel_rfl) (by rfl) hHeld (fun _ _ _ h => h) ?_ ?_
  rotate_left
  · intro w' hSw; (try dsimp only at hSw); go_simp <;> with_reducible rfl
  simp only [Act.put, List.setIfInBounds_toArray, List.set_cons_zero, List.set_cons_succ]
  refine takeT 2 (some 10) (v := ?_) rfl rfl (by kernel_rfl) (by kernel_rfl) (by kernel_rfl) (by kernel_rfl) (by rfl) hHeld (fun _ _ _ h => h) ?_ ?_
  rotate_left
  · intro w' hSw; (try dsimp only at hSw); go_simp <;> with_reducible rfl
  simp only [Act.put, List.setIfInBounds_toArray, List.set_cons_zero, List.set_cons_succ]
  refine takeT 3 (some 11) (v := ?_) rfl rfl (by kernel_rfl) (by kernel_rfl) (by kernel_rfl) (by kernel_rfl) (by rfl) hHeld (fun _ _ _ h => h) ?_ ?_
  rotate_left
  · intro w' hSw; (try dsimp only at hSw); go_simp <;> with_reducible rfl
  simp only [Act.put, List.setIfInBounds_toArray, List.set_cons_zero, List.set_cons_succ]
  refine takeT 4 (some 12) (v := ?_) rfl rfl (by kernel_rfl) (by kernel_rfl) (by kernel_rfl) (by kernel_rfl) (by rfl) hHeld (fun _ _ _ h => h) ?_ ?_
  rotate_left
  · intro w' hSw; (try dsimp only at hSw); go_simp <;> with_reducible rfl
  simp only [Act.put, List.setIfInBounds_toArray, List.set_cons_zero, List.set_cons_succ]
  refine takeT 5 (some 13) (v := ?_) rfl rfl (by kernel_rfl) (by kernel_rfl) (by kernel_rfl) (by kernel_rfl) (by rfl) hHeld (fun _ _ _ h => h) ?_ ?_
  rotate_left
  · intro w' hSw; (try dsimp only at hSw); go_simp <;> with_reducible rfl
  simp only [Act.put, List.setIfInBounds_toArray, List.set_cons_zero, List.set_cons_succ]
  refine takeT 6 (some 14) (v := ?_) rfl rfl (by kernel_rfl) (by kernel_rfl) (by kernel_rfl) (by kernel_rfl) (by rfl) hHeld (fun _ _ _ h => h) ?_ ?_
  rotate_left
  · intro w' hSw; (try dsimp only at hSw); have q0 := (World.cell?_of_block (w := V) (a := ⟨b, 1, none⟩) hSw).trans c1; go_simp <;> with_reducible rfl
  simp only [Act.put, List.setIfInBounds_toArray, List.set_cons_zero, List.set_cons_succ]
  refine takeT 7 (some 15) (v := ?_) rfl rfl (by kernel_rfl) (by kernel_rfl) (by kernel_rfl) (by kernel_rfl) (by rfl) hHeld (fun _ _ _ h => h) ?_ ?_
  rotate_left
  · intro w' hSw; (try dsimp only at hSw); go_simp <;> with_reducible rfl
  simp only [Act.put, List.setIfInBounds_toArray, List.set_cons_zero, List.set_cons_succ]
  refine callT 8 (some 16) (f := ?_) (args := ?_) rfl rfl (by kernel_rfl) (by rfl) ?_ ?_
  rotate_left 2
  · go_simp <;> first | (constructor <;> with_reducible rfl) | with_reducible rfl
  (with_reducible refine (meas_last b x l r (1 + M) e V.drew hAV.drew).mono ?_)
  rintro e1 w3 ⟨rfl, hC3'⟩
  have hC3 : Chg None_ V w3 := hC3'.undrew
  have hs3 := hC3.size
  have hX3 := (hC3.block b hbV (fun h => h)).trans hXV
  have f3 := frozen_of_row w3 b 6 _ _ hX3
  have g3 : w3.cell? ⟨b, 6, none⟩ = some (.int .i64 e) := cell_of_row _ _ 6 _ _ _ hX3
  refine ⟨_, rfl, keepAnd ?_ (fun hNew => ?_)⟩
  · intro _; exact hC3.block b hbV (fun h => h)
  have hNew := hNew (by decide)
  clear hHeld
  have hHeld := hNew
  clear hNew
  simp only [Act.put, List.setIfInBounds_toArray, List.set_cons_zero, List.set_cons_succ]
  refine takeT 9 (some 17) (v := ?_) rfl rfl (by kernel_rfl) (by kernel_rfl) (by kernel_rfl) (by kernel_rfl) (by rfl) hHeld (fun _ _ _ h => h) ?_ ?_
  rotate_left
  · intro w' hSw; (try dsimp only at hSw); go_simp <;> with_reducible rfl
  simp only [Act.put, List.setIfInBounds_toArray, List.set_cons_zero, List.set_cons_succ]
  refine runT 10 (some 18) (v := ?_) (w' := _) rfl rfl (by kernel_rfl) (by rfl) ?_ (fun _ => hHeld) ?_
  rotate_left
  · go_simp <;> with_reducible rfl
  simp only [Act.put, List.setIfInBounds_toArray, List.set_cons_zero, List.set_cons_succ]
  refine takeT 11 (some 19) (v := ?_) rfl rfl (by kernel_rfl) (by kernel_rfl) (by kernel_rfl) (by kernel_rfl) (by rfl) hHeld (fun _ _ _ h => h) ?_ ?_
  rotate_left
  · intro w' hSw; (try dsimp only at hSw); go_simp <;> with_reducible rfl
  simp only [Act.put, List.setIfInBounds_toArray, List.set_cons_zero, List.set_cons_succ]
  refine skipRunT 12 none (w' := w3.setCell ⟨b, 6, none⟩ (.int .i64 (max x.to (max l.en r.en)))) rfl rfl (by kernel_rfl) (by rfl) ?_ (fun h => absurd rfl h) ?_
  · go_simp <;> with_reducible rfl
  clear hHeld
  simp only [Act.put]
  refine doneT (by kernel_rfl) ?_ _
  refine NoPanic.normal ?_
  go_wp2_with fail
  go_end0
  have hC4 : Chg (· = b) w3 (w3.setCell ⟨b, 6, none⟩ (.int .i64 (max x.to (max l.en r.en)))) := Chg.setCell (S := (· = b)) (Chg.refl _ _) (.inl rfl) _
  have hX4 := heap_setCell_same w3 b 6 _ _ (.int .i64 (max x.to (max l.en r.en))) hX3
  refine ⟨⟨_, rfl⟩, ⟨?_, (hlV.chg (hC3 : Chg None_ V w3) (fun _ _ h => h)).chg hC4 (fun c hc e => hn.1 (e ▸ hc)), (hrV.chg (hC3 : Chg None_ V w3) (fun _ _ h => h)).chg hC4 (fun c hc e => hn.2 (e ▸ hc))⟩, ?_⟩
  · rw [HM.out]; exact hX4
  · exact (((hC1.mono (fun i h => h.elim)).trans hC2 (fun _ _ h => h)).trans (hC3.mono (T := (· = b)) (fun i h => h.elim)) (fun _ _ h => h)).trans hC4 (fun _ _ h => h)

set_option maxRecDepth 100000 in
set_option maxHeartbeats 1000000 in
theorem rotR_any (b c : Nat) (x y : It) (p q s : Tr) (h e hc ec : Int) (w : World) (ht : (Tr.node b x (Tr.node c y p q hc ec) s h e).At w) (hn : (Tr.node b x (Tr.node c y p q hc ec) s h e).blocks.Nodup) (hp0 : 0 ≤ p.ht) (hq0 : 0 ≤ q.ht) (hs0 : 0 ≤ s.ht) (hp1 : p.ht ≤ 1099511627774) (hq1 : q.ht ≤ 1099511627774) (hs1 : s.ht ≤ 1099511627774) :
    Calls Try.prog 47 #[.pointer (some ⟨b, 0, none⟩), .bool true] w fun e' w' => e' = .returned (.pointer (some ⟨c, 0, none⟩)) ∧ (Tr.mk c y p (Tr.mk b x q s)).At w' ∧ Chg (fun i => i = b ∨ i = c) w w' := by
  obtain ⟨hrow, ⟨hrowc, hp, hq⟩, hs⟩ := ht
  obtain ⟨hbc, hbs, m1, m2, m3⟩ := nd_node hn
  obtain ⟨hcp, hcq, _, _, hpq⟩ := nd_node m1
  have hne : ¬ c = b := fun e => hbc (e ▸ List.mem_cons_self ..)
  have hbp : b ∉ p.blocks := fun h => hbc (List.mem_cons_of_mem _ (List.mem_append_left _ h))
  have hbq : b ∉ q.blocks := fun h => hbc (List.mem_cons_of_mem _ (List.mem_append_right _ h))
  have hcs : c ∉ s.blocks := m3 c (List.mem_cons_self ..)
  clear m1 m2 m3 hn
  have hbl := (Array.getElem?_eq_some_iff.1 hrow).1
  have hcl := (Array.getElem?_eq_some_iff.1 hrowc).1
  have c3 : w.cell? ⟨b, 3, none⟩ = some (.pointer (some ⟨c, 0, none⟩)) := cell_of_row _ _ 3 _ _ _ hrow
  have f3 := frozen_of_row w b 3 _ _ hrow
  have d4 : w.cell? ⟨c, 4, none⟩ = some (.pointer q.pa) := cell_of_row _ _ 4 _ _ _ hrowc
  have hX1 : (w.setCell ⟨b, 3, none⟩ (.pointer q.pa)).heap[b]? = some (.cells (nodeC x q s h e) 69 (0, 0)) := heap_setCell_same w b 3 _ _ (.pointer q.pa) hrow
  have hC1 : Chg (· = b) w (w.setCell ⟨b, 3, none⟩ (.pointer q.pa)) := Chg.setCell (S := (· = b)) (Chg.refl _ _) (.inl rfl) _
  have hY1 := (hC1.block c hcl hne).trans hrowc
  have g4 : (w.setCell ⟨b, 3, none⟩ (.pointer q.pa)).cell? ⟨c, 4, none⟩ = some (.pointer q.pa) := cell_of_row _ _ 4 _ _ _ hY1
  have g5 := frozen_of_row _ c 4 _ _ hY1
  have hY2 : ((w.setCell ⟨b, 3, none⟩ (.pointer q.pa)).setCell ⟨c, 4, none⟩ (.pointer (some ⟨b, 0, none⟩))).heap[c]? = some (.cells (nodeC y p (Tr.mk b x q s) hc ec) 69 (0, 0)) := heap_setCell_same _ c 4 _ _ (.pointer (some ⟨b, 0, none⟩)) hY1
  have hC2 : Chg (· = c) (w.setCell ⟨b, 3, none⟩ (.pointer q.pa)) ((w.setCell ⟨b, 3, none⟩ (.pointer q.pa)).setCell ⟨c, 4, none⟩ (.pointer (some ⟨b, 0, none⟩))) := Chg.setCell (S := (· = c)) (Chg.refl _ _) (.inl rfl) _
  have hX2 := (hC2.block b (Array.getElem?_eq_some_iff.1 hX1).1 (fun e => hne e.symm)).trans hX1
  have hC12 : Chg (fun i => i = b ∨ i = c) w ((w.setCell ⟨b, 3, none⟩ (.pointer q.pa)).setCell ⟨c, 4, none⟩ (.pointer (some ⟨b, 0, none⟩))) := (hC1.mono (fun _ h => .inl h)).trans (hC2.mono (T := fun i => i = b ∨ i = c) (fun _ h => .inr h)) (fun _ _ h => h)
  have kP := hp.chg hC12 (fun i hi => by rintro (e | e); exact hbp (e ▸ hi); exact hcp (e ▸ hi))
  have kQ := hq.chg hC12 (fun i hi => by rintro (e | e); exact hbq (e ▸ hi); exact hcq (e ▸ hi))
  have kS := hs.chg hC12 (fun i hi => by rintro (e | e); exact hbs (e ▸ hi); exact hcs (e ▸ hi))
  obtain ⟨V, hV⟩ : ∃ V, V = (w.setCell ⟨b, 3, none⟩ (.pointer q.pa)).setCell ⟨c, 4, none⟩ (.pointer (some ⟨b, 0, none⟩)) := ⟨_, rfl⟩
  rw [← hV] at hY2 hC2 hX2 hC12 kP kQ kS
  have HV := Lib.hid hV
  have CF := Lib.hid (fix_any b x q s h e V ⟨hX2, kQ, kS⟩ ⟨hbq, hbs⟩ hq0 hs0 (by omega) (by omega))
  clear hV hX1 hC1 hY1 hrow hrowc hp hq hs
  go_enter Try.func47, Try.ntmps47
  go_wp2_with fail
  rw [← HV.out]
  clear c3 f3 d4 g4 g5
  (with_reducible refine CF.out.mono ?_)
  rintro e1 w3 ⟨⟨u, rfl⟩, hB, hC3⟩
  clear CF
  have hY3 := (hC3.block c (Array.getElem?_eq_some_iff.1 hY2).1 hne).trans hY2
  have k3 := kP.chg hC3 (fun i hi e => hbp (e ▸ hi))
  have hnq : c ∉ (Tr.mk b x q s).blocks := by
    rw [Tr.blocks_mk]
    intro hh
    rcases List.mem_cons.1 hh with e | hh
    · exact hne e
    · rcases List.mem_append.1 hh with hh | hh
      · exact hcq hh
      · exact hcs hh
  have CG := Lib.hid (fix_any c y p (Tr.mk b x q s) hc ec w3 ⟨hY3, k3, hB⟩ ⟨hcp, hnq⟩ hp0 (by rw [Tr.ht_mk]; omega) (by omega) (by rw [Tr.ht_mk]; omega))
  go_wp2_with fail
  (with_reducible refine CG.out.mono ?_)
  rintro e2 w4 ⟨⟨u2, rfl⟩, hB4, hC4⟩
  go_wp2_with fail
  go_ret
  exact ⟨rfl, hB4, (hC12.trans (hC3.mono (T := fun i => i = b ∨ i = c) (fun _ h => .inl h)) (fun _ _ h => h)).trans (hC4.mono (T := fun i => i = b ∨ i = c) (fun _ h => .inr h)) (fun _ _ h => h)⟩

set_option maxRecDepth 100000 in
set_option maxHeartbeats 1000000 in
theorem rotL_any (b c : Nat) (x y : It) (p q s : Tr) (h e hc ec : Int) (w : World) (ht : (Tr.node b x s (Tr.node c y p q hc ec) h e).At w) (hn : (Tr.node b x s (Tr.node c y p q hc ec) h e).blocks.Nodup) (hp0 : 0 ≤ p.ht) (hq0 : 0 ≤ q.ht) (hs0 : 0 ≤ s.ht) (hp1 : p.ht ≤ 1099511627774) (hq1 : q.ht ≤ 1099511627774) (hs1 : s.ht ≤ 1099511627774) :
    Calls Try.prog 47 #[.pointer (some ⟨b, 0, none⟩), .bool false] w fun e' w' => e' = .returned (.pointer (some ⟨c, 0, none⟩)) ∧ (Tr.mk c y (Tr.mk b x s p) q).At w' ∧ Chg (fun i => i = b ∨ i = c) w w' := by
  obtain ⟨hrow, hs, ⟨hrowc, hp, hq⟩⟩ := ht
  obtain ⟨hbs, hbc, m1, m2, m3⟩ := nd_node hn
  obtain ⟨hcp, hcq, _, _, hpq⟩ := nd_node m2
  have hne : ¬ c = b := fun e => hbc (e ▸ List.mem_cons_self ..)
  have hbp : b ∉ p.blocks := fun h => hbc (List.mem_cons_of_mem _ (List.mem_append_left _ h))
  have hbq : b ∉ q.blocks := fun h => hbc (List.mem_cons_of_mem _ (List.mem_append_right _ h))
  have hcs : c ∉ s.blocks := fun h => m3 c h (List.mem_cons_self ..)
  clear m1 m2 m3 hn
  have hbl := (Array.getElem?_eq_some_iff.1 hrow).1
  have hcl := (Array.getElem?_eq_some_iff.1 hrowc).1
  have c3 : w.cell? ⟨b, 4, none⟩ = some (.pointer (some ⟨c, 0, none⟩)) := cell_of_row _ _ 4 _ _ _ hrow
  have f3 := frozen_of_row w b 4 _ _ hrow
  have d4 : w.cell? ⟨c, 3, none⟩ = some (.pointer p.pa) := cell_of_row _ _ 3 _ _ _ hrowc
  have hX1 : (w.setCell ⟨b, 4, none⟩ (.pointer p.pa)).heap[b]? = some (.cells (nodeC x s p h e) 69 (0, 0)) := heap_setCell_same w b 4 _ _ (.pointer p.pa) hrow
  have hC1 : Chg (· = b) w (w.setCell ⟨b, 4, none⟩ (.pointer p.pa)) := Chg.setCell (S := (· = b)) (Chg.refl _ _) (.inl rfl) _
  have hY1 := (hC1.block c hcl hne).trans hrowc
  have g4 : (w.setCell ⟨b, 4, none⟩ (.pointer p.pa)).cell? ⟨c, 3, none⟩ = some (.pointer p.pa) := cell_of_row _ _ 3 _ _ _ hY1
  have g5 := frozen_of_row _ c 3 _ _ hY1
  have hY2 : ((w.setCell ⟨b, 4, none⟩ (.pointer p.pa)).setCell ⟨c, 3, none⟩ (.pointer (some ⟨b, 0, none⟩))).heap[c]? = some (.cells (nodeC y (Tr.mk b x s p) q hc ec) 69 (0, 0)) := heap_setCell_same _ c 3 _ _ (.pointer (some ⟨b, 0, none⟩)) hY1
  have hC2 : Chg (· = c) (w.setCell ⟨b, 4, none⟩ (.pointer p.pa)) ((w.setCell ⟨b, 4, none⟩ (.pointer p.pa)).setCell ⟨c, 3, none⟩ (.pointer (some ⟨b, 0, none⟩))) := Chg.setCell (S := (· = c)) (Chg.refl _ _) (.inl rfl) _
  have hX2 := (hC2.block b (Array.getElem?_eq_some_iff.1 hX1).1 (fun e => hne e.symm)).trans hX1
  have hC12 : Chg (fun i => i = b ∨ i = c) w ((w.setCell ⟨b, 4, none⟩ (.pointer p.pa)).setCell ⟨c, 3, none⟩ (.pointer (some ⟨b, 0, none⟩))) := (hC1.mono (fun _ h => .inl h)).trans (hC2.mono (T := fun i => i = b ∨ i = c) (fun _ h => .inr h)) (fun _ _ h => h)
  have kP := hp.chg hC12 (fun i hi => by rintro (e | e); exact hbp (e ▸ hi); exact hcp (e ▸ hi))
  have kQ := hq.chg hC12 (fun i hi => by rintro (e | e); exact hbq (e ▸ hi); exact hcq (e ▸ hi))
  have kS := hs.chg hC12 (fun i hi => by rintro (e | e); exact hbs (e ▸ hi); exact hcs (e ▸ hi))
  obtain ⟨V, hV⟩ : ∃ V, V = (w.setCell ⟨b, 4, none⟩ (.pointer p.pa)).setCell ⟨c, 3, none⟩ (.pointer (some ⟨b, 0, none⟩)) := ⟨_, rfl⟩
  rw [← hV] at hY2 hC2 hX2 hC12 kP kQ kS
  have HV := Lib.hid hV
  have CF := Lib.hid (fix_any b x s p h e V ⟨hX2, kS, kP⟩ ⟨hbs, hbp⟩ hs0 hp0 (by omega) (by omega))
  clear hV hX1 hC1 hY1 hrow hrowc hp hq hs
  go_enter Try.func47, Try.ntmps47
  go_wp2_with fail
  rw [← HV.out]
  clear c3 f3 d4 g4 g5
  (with_reducible refine CF.out.mono ?_)
  rintro e1 w3 ⟨⟨u, rfl⟩, hB, hC3⟩
  clear CF
  have hY3 := (hC3.block c (Array.getElem?_eq_some_iff.1 hY2).1 hne).trans hY2
  have k3 := kQ.chg hC3 (fun i hi e => hbq (e ▸ hi))
  have hnq : c ∉ (Tr.mk b x s p).blocks := by
    rw [Tr.blocks_mk]
    intro hh
    rcases List.mem_cons.1 hh with e | hh
    · exact hne e
    · rcases List.mem_append.1 hh with hh | hh
      · exact hcs hh
      · exact hcp hh
  have CG := Lib.hid (fix_any c y (Tr.mk b x s p) q hc ec w3 ⟨hY3, hB, k3⟩ ⟨hnq, hcq⟩ (by rw [Tr.ht_mk]; omega) hq0 (by rw [Tr.ht_mk]; omega) (by omega))
  go_wp2_with fail
  (with_reducible refine CG.out.mono ?_)
  rintro e2 w4 ⟨⟨u2, rfl⟩, hB4, hC4⟩
  go_wp2_with fail
  go_ret
  exact ⟨rfl, hB4, (hC12.trans (hC3.mono (T := fun i => i = b ∨ i = c) (fun _ h => .inl h)) (fun _ _ h => h)).trans (hC4.mono (T := fun i => i = b ∨ i = c) (fun _ h => .inr h)) (fun _ _ h => h)⟩
end Go.Proofs.Ytkocehfapcmiiaa
