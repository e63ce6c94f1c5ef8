/-
  Trees in memory: balance.
-/
import Derived.Test.YtkocehfapcmiiaaTreeB
namespace Go.Proofs.Ytkocehfapcmiiaa
open Go.RowKit Go.Lib Go.IntWalk

theorem nd_perm {l l' : List Nat} (h : l.Nodup) (hc : ∀ a, l'.count a = l.count a) : l'.Nodup := (List.Perm.nodup_iff (List.perm_iff_count.2 hc)).2 h
theorem levels_node (b : Nat) (x : It) (l r : Tr) (h e : Int) (w : World) (ht : (Tr.node b x l r h e).At w) : Calls Try.prog 34 #[.pointer (some ⟨b, 0, none⟩)] w fun e' w' => e' = .returned (.int .i64 h) ∧ w = w' := levels_any (Tr.node b x l r h e) w ht
theorem Tr.At.chgIn {w w' : World} {S : Nat → Prop} {t : Tr} (h : t.At w) (hc : Chg S w w') (hs : ∀ c, S c → c ∉ t.blocks) : t.At w' := h.chg hc (fun c hc' hS => hs c hS hc')

set_option maxRecDepth 100000 in
set_option maxHeartbeats 2000000 in
theorem bal_left (b c : Nat) (x y : It) (p q r : Tr) (hT eT hh ee : Int) (w : World) (ht : (Tr.node b x (Tr.node c y p q hh ee) r hT eT).At w) (hn : (Tr.node b x (Tr.node c y p q hh ee) r hT eT).blocks.Nodup) (hcO : (Tr.node c y p q hh ee).Ok) (hoO : r.Ok) (hd : 1 < hh - r.ht) (hd2 : hh - r.ht ≤ 2) (hb : hh ≤ 1099511627770) :
    Calls Try.prog 39 #[.pointer (some ⟨b, 0, none⟩)] w fun e' w' => e' = .returned (.pointer (Tr.bal b x (Tr.node c y p q hh ee) r).pa) ∧ (Tr.bal b x (Tr.node c y p q hh ee) r).At w' ∧ Chg (· ∈ (Tr.node b x (Tr.node c y p q hh ee) r hT eT).blocks) w w' := by
  obtain ⟨e1, e2, e3, e4, hpO, hqO⟩ := hcO
  have hp0 := hpO.nonneg
  have hq0 := hqO.nonneg
  have hr0 := hoO.nonneg
  have hpl : p.ht + 1 ≤ hh := by omega
  have hql : q.ht + 1 ≤ hh := by omega
  have hn0 := hn
  obtain ⟨hbl, hbr, hndl, hndr, hdis⟩ := nd_node hn
  have hbl0 := (Array.getElem?_eq_some_iff.1 ht.1).1
  have CF := Lib.hid (fix_any b x (Tr.node c y p q hh ee) r hT eT w ht ⟨hbl, hbr⟩ (by rw [Tr.ht_node]; omega) hr0 (by rw [Tr.ht_node]; omega) (by omega))
  have HBAL : Hid (Tr.bal b x (Tr.node c y p q hh ee) r = Tr.rotR b x (if p.ht < q.ht then Tr.rotLT (Tr.node c y p q hh ee) else Tr.node c y p q hh ee) r) := Lib.hid (by
    unfold Tr.bal
    rw [if_pos (show 1 < (Tr.node c y p q hh ee).ht - r.ht from hd)]
    rfl)
  rw [HBAL.out]
  clear HBAL hn e1 e2
  go_enter Try.func39, Try.ntmps39
  go_wp2_with fail
  (with_reducible refine CF.out.mono ?_)
  rintro e0 V ⟨⟨u, rfl⟩, hA1, hC1⟩
  clear CF ht
  obtain ⟨hrow, hl1, hr1⟩ := id hA1
  have hbV := (Array.getElem?_eq_some_iff.1 hrow).1
  have c3 : V.cell? ⟨b, 3, none⟩ = some (.pointer (some ⟨c, 0, none⟩)) := cell_of_row _ _ 3 _ _ _ hrow
  have c4 : V.cell? ⟨b, 4, none⟩ = some (.pointer r.pa) := cell_of_row _ _ 4 _ _ _ hrow
  obtain ⟨hrowc, hp1, hq1⟩ := id hl1
  have hcV := (Array.getElem?_eq_some_iff.1 hrowc).1
  have d3 : V.cell? ⟨c, 3, none⟩ = some (.pointer p.pa) := cell_of_row _ _ 3 _ _ _ hrowc
  have d4 : V.cell? ⟨c, 4, none⟩ = some (.pointer q.pa) := cell_of_row _ _ 4 _ _ _ hrowc
  have HROW := Lib.hid hrow
  have HROWC := Lib.hid hrowc
  have HA1 := Lib.hid hA1
  clear hrow hrowc hA1
  go_wp2_with fail
  refine wp_region_noPanic ?_
  refine wp_region_held_drew (S := (fun w' => Below V.heap.size V w')) (by kernel_rfl) ?_ (fun hHeld => ?_)
  · exact (Below.refl _ _).drew
  refine heldTake 0 (some 6) (v := ?_) rfl rfl (by kernel_rfl) (by kernel_rfl) (by kernel_rfl) (by rfl) hHeld (fun _ _ _ h => h) ?_ ?_
  rotate_left
  · intro w' hSw; (try dsimp only at hSw); go_simp <;> with_reducible rfl
  simp only [Act.put, List.setIfInBounds_toArray, List.set_cons_zero, List.set_cons_succ]
  refine heldTake 1 (some 7) (v := ?_) rfl rfl (by kernel_rfl) (by kernel_rfl) (by kernel_rfl) (by rfl) hHeld (fun _ _ _ h => h) ?_ ?_
  rotate_left
  · intro w' hSw; (try dsimp only at hSw); go_simp <;> with_reducible rfl
  simp only [Act.put, List.setIfInBounds_toArray, List.set_cons_zero, List.set_cons_succ]
  refine heldTake 2 (some 8) (v := ?_) rfl rfl (by kernel_rfl) (by kernel_rfl) (by kernel_rfl) (by rfl) hHeld (fun _ _ _ h => h) ?_ ?_
  rotate_left
  · intro w' hSw; (try dsimp only at hSw); go_simp <;> with_reducible rfl
  simp only [Act.put, List.setIfInBounds_toArray, List.set_cons_zero, List.set_cons_succ]
  refine heldTake 3 (some 9) (v := ?_) rfl rfl (by kernel_rfl) (by kernel_rfl) (by kernel_rfl) (by rfl) hHeld (fun _ _ _ h => h) ?_ ?_
  rotate_left
  · intro w' hSw; (try dsimp only at hSw); have q0 := (hSw.cell (p := ⟨b, 3, none⟩) (show b < V.heap.size by omega)).trans c3; have q1 := (hSw.cell (p := ⟨b, 4, none⟩) (show b < V.heap.size by omega)).trans c4; go_simp <;> with_reducible rfl
  simp only [Act.put, List.setIfInBounds_toArray, List.set_cons_zero, List.set_cons_succ]
  refine heldTake 5 (some 11) (v := ?_) rfl rfl (by kernel_rfl) (by kernel_rfl) (by kernel_rfl) (by rfl) hHeld (fun _ _ _ h => h) ?_ ?_
  rotate_left
  · intro w' hSw; (try dsimp only at hSw); go_simp <;> with_reducible rfl
  simp only [Act.put, List.setIfInBounds_toArray, List.set_cons_zero, List.set_cons_succ]
  refine heldTake 6 (some 12) (v := ?_) rfl rfl (by kernel_rfl) (by kernel_rfl) (by kernel_rfl) (by rfl) hHeld (fun _ _ _ h => h) ?_ ?_
  rotate_left
  · intro w' hSw; (try dsimp only at hSw); go_simp <;> with_reducible rfl
  simp only [Act.put, List.setIfInBounds_toArray, List.set_cons_zero, List.set_cons_succ]
  refine heldTake 7 (some 13) (v := ?_) rfl rfl (by kernel_rfl) (by kernel_rfl) (by kernel_rfl) (by rfl) hHeld (fun _ _ _ h => h) ?_ ?_
  rotate_left
  · intro w' hSw; (try dsimp only at hSw); go_simp <;> with_reducible rfl
  simp only [Act.put, List.setIfInBounds_toArray, List.set_cons_zero, List.set_cons_succ]
  refine heldTake 8 (some 14) (v := ?_) rfl rfl (by kernel_rfl) (by kernel_rfl) (by kernel_rfl) (by rfl) hHeld (fun _ _ _ h => h) ?_ ?_
  rotate_left
  · intro w' hSw; (try dsimp only at hSw); have q0 := (hSw.cell (p := ⟨b, 3, none⟩) (show b < V.heap.size by omega)).trans c3; have q1 := (hSw.cell (p := ⟨b, 4, none⟩) (show b < V.heap.size by omega)).trans c4; go_simp <;> with_reducible rfl
  simp only [Act.put, List.setIfInBounds_toArray, List.set_cons_zero, List.set_cons_succ]
  refine heldCall 4 (some 10) (f := ?_) (args := ?_) rfl rfl (by kernel_rfl) (by rfl) ?_ ?_
  rotate_left 2
  · go_simp <;> first | (constructor <;> with_reducible rfl) | with_reducible rfl
  (with_reducible refine (levels_node c y p q hh ee V.drew hl1.drew).mono ?_)
  rintro e1 w2 ⟨rfl, rfl⟩
  refine ⟨_, rfl, keepAnd ?_ (fun hNew => ?_)⟩
  · exact (Below.refl _ _).drew
  clear hHeld
  have hHeld := hNew
  clear hNew
  simp only [Act.put, List.setIfInBounds_toArray, List.set_cons_zero, List.set_cons_succ]
  refine heldCall 9 (some 15) (f := ?_) (args := ?_) rfl rfl (by kernel_rfl) (by rfl) ?_ ?_
  rotate_left 2
  · go_simp <;> first | (constructor <;> with_reducible rfl) | with_reducible rfl
  (with_reducible refine (levels_any r V.drew hr1.drew).mono ?_)
  rintro e2 w3 ⟨rfl, rfl⟩
  refine ⟨_, rfl, keepAnd ?_ (fun hNew => ?_)⟩
  · exact (Below.refl _ _).drew
  clear hHeld
  have hHeld := hNew
  clear hNew
  simp only [Act.put, List.setIfInBounds_toArray, List.set_cons_zero, List.set_cons_succ]
  refine heldTake 10 (some 16) (v := ?_) rfl rfl (by kernel_rfl) (by kernel_rfl) (by kernel_rfl) (by rfl) hHeld (fun _ _ _ h => h) ?_ ?_
  rotate_left
  · intro w' hSw; (try dsimp only at hSw); go_simp <;> with_reducible rfl
  simp only [Act.put, List.setIfInBounds_toArray, List.set_cons_zero, List.set_cons_succ]
  refine heldTake 11 (some 3) (v := ?_) rfl rfl (by kernel_rfl) (by kernel_rfl) (by kernel_rfl) (by rfl) hHeld (fun _ _ _ h => h) ?_ ?_
  rotate_left
  · intro w' hSw; (try dsimp only at hSw); go_simp <;> with_reducible rfl
  simp only [Act.put, List.setIfInBounds_toArray, List.set_cons_zero, List.set_cons_succ]
  refine wpAnyH_done (by kernel_rfl) ?_ _
  refine NoPanic.normal ?_
  have hdd : decide (1 < hh - r.ht) = true := by simp; omega
  go_wp2_with fail
  refine wp_region_noPanic ?_
  refine wp_region_held_drew (S := (fun w' => Below V.heap.size V w')) (by kernel_rfl) ?_ (fun hHeld => ?_)
  · exact (Below.refl _ _).drew.drew
  refine heldTake 0 (some 20) (v := ?_) rfl rfl (by kernel_rfl) (by kernel_rfl) (by kernel_rfl) (by rfl) hHeld (fun _ _ _ h => h) ?_ ?_
  rotate_left
  · intro w' hSw; (try dsimp only at hSw); go_simp <;> with_reducible rfl
  simp only [Act.put, List.setIfInBounds_toArray, List.set_cons_zero, List.set_cons_succ]
  refine heldTake 1 (some 21) (v := ?_) rfl rfl (by kernel_rfl) (by kernel_rfl) (by kernel_rfl) (by rfl) hHeld (fun _ _ _ h => h) ?_ ?_
  rotate_left
  · intro w' hSw; (try dsimp only at hSw); go_simp <;> with_reducible rfl
  simp only [Act.put, List.setIfInBounds_toArray, List.set_cons_zero, List.set_cons_succ]
  refine heldTake 2 (some 22) (v := ?_) rfl rfl (by kernel_rfl) (by kernel_rfl) (by kernel_rfl) (by rfl) hHeld (fun _ _ _ h => h) ?_ ?_
  rotate_left
  · intro w' hSw; (try dsimp only at hSw); go_simp <;> with_reducible rfl
  simp only [Act.put, List.setIfInBounds_toArray, List.set_cons_zero, List.set_cons_succ]
  refine heldTake 3 (some 23) (v := ?_) rfl rfl (by kernel_rfl) (by kernel_rfl) (by kernel_rfl) (by rfl) hHeld (fun _ _ _ h => h) ?_ ?_
  rotate_left
  · intro w' hSw; (try dsimp only at hSw); have q0 := (hSw.cell (p := ⟨b, 3, none⟩) (show b < V.heap.size by omega)).trans c3; have q1 := (hSw.cell (p := ⟨c, 3, none⟩) (show c < V.heap.size by omega)).trans d3; have q2 := (hSw.cell (p := ⟨c, 4, none⟩) (show c < V.heap.size by omega)).trans d4; go_simp <;> with_reducible rfl
  simp only [Act.put, List.setIfInBounds_toArray, List.set_cons_zero, List.set_cons_succ]
  refine heldTake 4 (some 24) (v := ?_) rfl rfl (by kernel_rfl) (by kernel_rfl) (by kernel_rfl) (by rfl) hHeld (fun _ _ _ h => h) ?_ ?_
  rotate_left
  · intro w' hSw; (try dsimp only at hSw); go_simp <;> with_reducible rfl
  simp only [Act.put, List.setIfInBounds_toArray, List.set_cons_zero, List.set_cons_succ]
  refine heldTake 5 (some 25) (v := ?_) rfl rfl (by kernel_rfl) (by kernel_rfl) (by kernel_rfl) (by rfl) hHeld (fun _ _ _ h => h) ?_ ?_
  rotate_left
  · intro w' hSw; (try dsimp only at hSw); go_simp <;> with_reducible rfl
  simp only [Act.put, List.setIfInBounds_toArray, List.set_cons_zero, List.set_cons_succ]
  refine heldTake 6 (some 26) (v := ?_) rfl rfl (by kernel_rfl) (by kernel_rfl) (by kernel_rfl) (by rfl) hHeld (fun _ _ _ h => h) ?_ ?_
  rotate_left
  · intro w' hSw; (try dsimp only at hSw); have q0 := (hSw.cell (p := ⟨b, 3, none⟩) (show b < V.heap.size by omega)).trans c3; have q1 := (hSw.cell (p := ⟨c, 3, none⟩) (show c < V.heap.size by omega)).trans d3; have q2 := (hSw.cell (p := ⟨c, 4, none⟩) (show c < V.heap.size by omega)).trans d4; go_simp <;> with_reducible rfl
  simp only [Act.put, List.setIfInBounds_toArray, List.set_cons_zero, List.set_cons_succ]
  refine heldTake 8 (some 28) (v := ?_) rfl rfl (by kernel_rfl) (by kernel_rfl) (by kernel_rfl) (by rfl) hHeld (fun _ _ _ h => h) ?_ ?_
  rotate_left
  · intro w' hSw; (try dsimp only at hSw); go_simp <;> with_reducible rfl
  simp only [Act.put, List.setIfInBounds_toArray, List.set_cons_zero, List.set_cons_succ]
  refine heldTake 9 (some 29) (v := ?_) rfl rfl (by kernel_rfl) (by kernel_rfl) (by kernel_rfl) (by rfl) hHeld (fun _ _ _ h => h) ?_ ?_
  rotate_left
  · intro w' hSw; (try dsimp only at hSw); go_simp <;> with_reducible rfl
  simp only [Act.put, List.setIfInBounds_toArray, List.set_cons_zero, List.set_cons_succ]
  refine heldTake 10 (some 30) (v := ?_) rfl rfl (by kernel_rfl) (by kernel_rfl) (by kernel_rfl) (by rfl) hHeld (fun _ _ _ h => h) ?_ ?_
  rotate_left
  · intro w' hSw; (try dsimp only at hSw); go_simp <;> with_reducible rfl
  simp only [Act.put, List.setIfInBounds_toArray, List.set_cons_zero, List.set_cons_succ]
  refine heldTake 11 (some 31) (v := ?_) rfl rfl (by kernel_rfl) (by kernel_rfl) (by kernel_rfl) (by rfl) hHeld (fun _ _ _ h => h) ?_ ?_
  rotate_left
  · intro w' hSw; (try dsimp only at hSw); have q0 := (hSw.cell (p := ⟨b, 3, none⟩) (show b < V.heap.size by omega)).trans c3; have q1 := (hSw.cell (p := ⟨c, 3, none⟩) (show c < V.heap.size by omega)).trans d3; have q2 := (hSw.cell (p := ⟨c, 4, none⟩) (show c < V.heap.size by omega)).trans d4; go_simp <;> with_reducible rfl
  simp only [Act.put, List.setIfInBounds_toArray, List.set_cons_zero, List.set_cons_succ]
  refine heldTake 12 (some 32) (v := ?_) rfl rfl (by kernel_rfl) (by kernel_rfl) (by kernel_rfl) (by rfl) hHeld (fun _ _ _ h => h) ?_ ?_
  rotate_left
  · intro w' hSw; (try dsimp only at hSw); go_simp <;> with_reducible rfl
  simp only [Act.put, List.setIfInBounds_toArray, List.set_cons_zero, List.set_cons_succ]
  refine heldTake 13 (some 33) (v := ?_) rfl rfl (by kernel_rfl) (by kernel_rfl) (by kernel_rfl) (by rfl) hHeld (fun _ _ _ h => h) ?_ ?_
  rotate_left
  · intro w' hSw; (try dsimp only at hSw); go_simp <;> with_reducible rfl
  simp only [Act.put, List.setIfInBounds_toArray, List.set_cons_zero, List.set_cons_succ]
  refine heldTake 14 (some 34) (v := ?_) rfl rfl (by kernel_rfl) (by kernel_rfl) (by kernel_rfl) (by rfl) hHeld (fun _ _ _ h => h) ?_ ?_
  rotate_left
  · intro w' hSw; (try dsimp only at hSw); have q0 := (hSw.cell (p := ⟨b, 3, none⟩) (show b < V.heap.size by omega)).trans c3; have q1 := (hSw.cell (p := ⟨c, 3, none⟩) (show c < V.heap.size by omega)).trans d3; have q2 := (hSw.cell (p := ⟨c, 4, none⟩) (show c < V.heap.size by omega)).trans d4; go_simp <;> with_reducible rfl
  simp only [Act.put, List.setIfInBounds_toArray, List.set_cons_zero, List.set_cons_succ]
  refine heldCall 7 (some 27) (f := ?_) (args := ?_) rfl rfl (by kernel_rfl) (by rfl) ?_ ?_
  rotate_left 2
  · go_simp <;> first | (constructor <;> with_reducible rfl) | with_reducible rfl
  (with_reducible refine (levels_any p V.drew.drew hp1.drew.drew).mono ?_)
  rintro e3 w4 ⟨rfl, rfl⟩
  refine ⟨_, rfl, keepAnd ?_ (fun hNew => ?_)⟩
  · exact (Below.refl _ _).drew.drew
  clear hHeld
  have hHeld := hNew
  clear hNew
  simp only [Act.put, List.setIfInBounds_toArray, List.set_cons_zero, List.set_cons_succ]
  refine heldCall 15 (some 35) (f := ?_) (args := ?_) rfl rfl (by kernel_rfl) (by rfl) ?_ ?_
  rotate_left 2
  · go_simp <;> first | (constructor <;> with_reducible rfl) | with_reducible rfl
  (with_reducible refine (levels_any q V.drew.drew hq1.drew.drew).mono ?_)
  rintro e4 w5 ⟨rfl, rfl⟩
  refine ⟨_, rfl, keepAnd ?_ (fun hNew => ?_)⟩
  · exact (Below.refl _ _).drew.drew
  clear hHeld
  have hHeld := hNew
  clear hNew
  simp only [Act.put, List.setIfInBounds_toArray, List.set_cons_zero, List.set_cons_succ]
  refine heldTake 16 (some 36) (v := ?_) rfl rfl (by kernel_rfl) (by kernel_rfl) (by kernel_rfl) (by rfl) hHeld (fun _ _ _ h => h) ?_ ?_
  rotate_left
  · intro w' hSw; (try dsimp only at hSw); go_simp <;> with_reducible rfl
  simp only [Act.put, List.setIfInBounds_toArray, List.set_cons_zero, List.set_cons_succ]
  refine wpAnyH_done (by kernel_rfl) ?_ _
  refine NoPanic.normal ?_
  by_cases c2 : p.ht < q.ht
  · cases q with
    | nil => rw [Tr.ht_nil] at c2; omega
    | node d z la lb h3 e5 =>
    obtain ⟨f1, f2, f3, f4, hlaO, hlbO⟩ := hqO
    have hla0 := hlaO.nonneg
    have hlb0 := hlbO.nonneg
    rw [Tr.ht_node] at *
    have hlal : la.ht + 1 ≤ h3 := by omega
    have hlbl : lb.ht + 1 ≤ h3 := by omega
    clear f1 f2
    have CR := Lib.hid (rotL_any c d y z la lb p hh ee h3 e5 _ hl1.drew.drew hndl hla0 hlb0 hp0 (by omega) (by omega) (by omega))
    go_wp2_with fail
    (with_reducible refine CR.out.mono ?_)
    rintro e6 w6 ⟨rfl, hA6, hC6'⟩
    have hC6 := hC6'.undrew.undrew
    clear CR hC6'
    have hs6 := hC6.size
    have hXb := (hC6.block b hbV ?hb6).trans HROW.out
    case hb6 =>
      rintro (e | e)
      · exact hbl (e ▸ List.mem_cons_self ..)
      · refine hbl (e ▸ ?_)
        simp [Tr.blocks]
    have ho6 := hr1.chgIn hC6 (by
      rintro i (e | e)
      · subst e; intro hh; exact hdis _ (List.mem_cons_self ..) hh
      · subst e; intro hh; exact hdis _ (by simp [Tr.blocks]) hh)
    have hX7 := heap_setCell_same w6 b 3 _ _ (.pointer (some ⟨d, 0, none⟩)) hXb
    have hC7 : Chg (· = b) w6 (w6.setCell ⟨b, 3, none⟩ (.pointer (some ⟨d, 0, none⟩))) := Chg.setCell (S := (· = b)) (Chg.refl _ _) (.inl rfl) _
    have g7 : w6.cell? ⟨b, 3, none⟩ = some (.pointer (some ⟨c, 0, none⟩)) := cell_of_row _ _ 3 _ _ _ hXb
    have g8 := frozen_of_row w6 b 3 _ _ hXb
    have hndO : (Tr.node b x (Tr.mk d z (Tr.mk c y p la) lb) r 0 0 : Tr).blocks.Nodup := nd_perm hn0 (fun a => by simp only [Tr.blocks_mk, Tr.blocks_node, List.count_cons, List.count_append]; omega)
    obtain ⟨hbo1, hbo2, _, _, _⟩ := nd_node hndO
    obtain ⟨W6, hW6⟩ : ∃ W, W = w6.setCell ⟨b, 3, none⟩ (.pointer (some ⟨d, 0, none⟩)) := ⟨_, rfl⟩
    rw [← hW6] at hX7 hC7
    have CO := Lib.hid (rotR_any b d x z (Tr.mk c y p la) lb r (1 + max hh r.ht) (max x.to (max ee r.en)) (1 + max (Tr.mk c y p la).ht lb.ht) (max z.to (max (Tr.mk c y p la).en lb.en)) W6 ⟨hX7, hA6.chgIn hC7 (fun i hi => hi ▸ hbo1), ho6.chgIn hC7 (fun i hi => hi ▸ hbo2)⟩ hndO (by rw [Tr.ht_mk]; omega) hlb0 hr0 (by rw [Tr.ht_mk]; omega) (by omega) (by omega))
    have HW6 := Lib.hid hW6
    clear hW6
    go_wp2_with fail
    rw [← HW6.out]
    (with_reducible refine CO.out.mono ?_)
    rintro e8 w8 ⟨rfl, hA8, hC8⟩
    go_wp2_with fail
    go_ret
    have hres : Tr.rotR b x (Tr.rotLT (Tr.node c y p (Tr.node d z la lb h3 e5) hh ee)) r = Tr.mk d z (Tr.mk c y p la) (Tr.mk b x lb r) := rfl
    rw [hres]
    refine ⟨rfl, hA8, ?_⟩
    refine ((hC1.mono (T := (· ∈ (Tr.node b x (Tr.node c y p (Tr.node d z la lb h3 e5) hh ee) r hT eT).blocks)) ?_).trans (hC6.mono (T := (· ∈ (Tr.node b x (Tr.node c y p (Tr.node d z la lb h3 e5) hh ee) r hT eT).blocks)) ?_) (fun _ _ h => h)).trans ((hC7.mono (T := (· ∈ (Tr.node b x (Tr.node c y p (Tr.node d z la lb h3 e5) hh ee) r hT eT).blocks)) ?_).trans (hC8.mono (T := (· ∈ (Tr.node b x (Tr.node c y p (Tr.node d z la lb h3 e5) hh ee) r hT eT).blocks)) ?_) (fun _ _ h => h)) (fun _ _ h => h)
    · rintro i rfl; simp [Tr.blocks]
    · rintro i (rfl | rfl) <;> simp [Tr.blocks]
    · rintro i rfl; simp [Tr.blocks]
    · rintro i (rfl | rfl) <;> simp [Tr.blocks]
  · have CO := Lib.hid (rotR_any b c x y p q r (1 + max hh r.ht) (max x.to (max ee r.en)) hh ee _ HA1.out.drew.drew hn0 hp0 hq0 hr0 (by omega) (by omega) (by omega))
    go_wp2_with fail
    (with_reducible refine CO.out.mono ?_)
    rintro e8 w8 ⟨rfl, hA8, hC8'⟩
    have hC8 := hC8'.undrew.undrew
    go_wp2_with fail
    go_ret
    have hres : Tr.rotR b x (Tr.node c y p q hh ee) r = Tr.mk c y p (Tr.mk b x q r) := rfl
    rw [hres]
    refine ⟨rfl, hA8, ?_⟩
    refine (hC1.mono (T := (· ∈ (Tr.node b x (Tr.node c y p q hh ee) r hT eT).blocks)) ?_).trans (hC8.mono (T := (· ∈ (Tr.node b x (Tr.node c y p q hh ee) r hT eT).blocks)) ?_) (fun _ _ h => h)
    · rintro i rfl; simp [Tr.blocks]
    · rintro i (rfl | rfl) <;> simp [Tr.blocks]

set_option maxRecDepth 100000 in
set_option maxHeartbeats 2000000 in
theorem bal_right (b c : Nat) (x y : It) (p q l : Tr) (hT eT hh ee : Int) (w : World) (ht : (Tr.node b x l (Tr.node c y p q hh ee) hT eT).At w) (hn : (Tr.node b x l (Tr.node c y p q hh ee) hT eT).blocks.Nodup) (hcO : (Tr.node c y p q hh ee).Ok) (hoO : l.Ok) (hd : l.ht - hh < -1) (hd2 : hh - l.ht ≤ 2) (hb : hh ≤ 1099511627770) :
    Calls Try.prog 39 #[.pointer (some ⟨b, 0, none⟩)] w fun e' w' => e' = .returned (.pointer (Tr.bal b x l (Tr.node c y p q hh ee)).pa) ∧ (Tr.bal b x l (Tr.node c y p q hh ee)).At w' ∧ Chg (· ∈ (Tr.node b x l (Tr.node c y p q hh ee) hT eT).blocks) w w' := by
  obtain ⟨e1, e2, e3, e4, hpO, hqO⟩ := hcO
  have hp0 := hpO.nonneg
  have hq0 := hqO.nonneg
  have hl0 := hoO.nonneg
  have hpl : p.ht + 1 ≤ hh := by omega
  have hql : q.ht + 1 ≤ hh := by omega
  have hn0 := hn
  obtain ⟨hbl, hbr, hndl, hndr, hdis⟩ := nd_node hn
  have hbl0 := (Array.getElem?_eq_some_iff.1 ht.1).1
  have CF := Lib.hid (fix_any b x l (Tr.node c y p q hh ee) hT eT w ht ⟨hbl, hbr⟩ hl0 (by rw [Tr.ht_node]; omega) (by omega) (by rw [Tr.ht_node]; omega))
  have HBAL : Hid (Tr.bal b x l (Tr.node c y p q hh ee) = Tr.rotL b x l (if q.ht < p.ht then Tr.rotRT (Tr.node c y p q hh ee) else Tr.node c y p q hh ee)) := Lib.hid (by
    unfold Tr.bal
    rw [if_neg (show ¬ 1 < l.ht - (Tr.node c y p q hh ee).ht by rw [Tr.ht_node]; omega), if_pos (show l.ht - (Tr.node c y p q hh ee).ht < -1 from hd)]
    rfl)
  rw [HBAL.out]
  clear HBAL hn e1 e2
  go_enter Try.func39, Try.ntmps39
  go_wp2_with fail
  (with_reducible refine CF.out.mono ?_)
  rintro e0 V ⟨⟨u, rfl⟩, hA1, hC1⟩
  clear CF ht
  obtain ⟨hrow, hl1, hr1⟩ := id hA1
  have hbV := (Array.getElem?_eq_some_iff.1 hrow).1
  have c3 : V.cell? ⟨b, 3, none⟩ = some (.pointer l.pa) := cell_of_row _ _ 3 _ _ _ hrow
  have c4 : V.cell? ⟨b, 4, none⟩ = some (.pointer (some ⟨c, 0, none⟩)) := cell_of_row _ _ 4 _ _ _ hrow
  obtain ⟨hrowc, hp1, hq1⟩ := id hr1
  have hcV := (Array.getElem?_eq_some_iff.1 hrowc).1
  have d3 : V.cell? ⟨c, 3, none⟩ = some (.pointer p.pa) := cell_of_row _ _ 3 _ _ _ hrowc
  have d4 : V.cell? ⟨c, 4, none⟩ = some (.pointer q.pa) := cell_of_row _ _ 4 _ _ _ hrowc
  have HROW := Lib.hid hrow
  have HROWC := Lib.hid hrowc
  have HA1 := Lib.hid hA1
  clear hrow hrowc hA1
  go_wp2_with fail
  refine wp_region_noPanic ?_
  refine wp_region_held_drew (S := (fun w' => Below V.heap.size V w')) (by kernel_rfl) ?_ (fun hHeld => ?_)
  · exact (Below.refl _ _).drew
  refine heldTake 0 (some 6) (v := ?_) rfl rfl (by kernel_rfl) (by kernel_rfl) (by kernel_rfl) (by rfl) hHeld (fun _ _ _ h => h) ?_ ?_
  rotate_left
  · intro w' hSw; (try dsimp only at hSw); go_simp <;> with_reducible rfl
  simp only [Act.put, List.setIfInBounds_toArray, List.set_cons_zero, List.set_cons_succ]
  refine heldTake 1 (some 7) (v := ?_) rfl rfl (by kernel_rfl) (by kernel_rfl) (by kernel_rfl) (by rfl) hHeld (fun _ _ _ h => h) ?_ ?_
  rotate_left
  · intro w' hSw; (try dsimp only at hSw); go_simp <;> with_reducible rfl
  simp only [Act.put, List.setIfInBounds_toArray, List.set_cons_zero, List.set_cons_succ]
  refine heldTake 2 (some 8) (v := ?_) rfl rfl (by kernel_rfl) (by kernel_rfl) (by kernel_rfl) (by rfl) hHeld (fun _ _ _ h => h) ?_ ?_
  rotate_left
  · intro w' hSw; (try dsimp only at hSw); go_simp <;> with_reducible rfl
  simp only [Act.put, List.setIfInBounds_toArray, List.set_cons_zero, List.set_cons_succ]
  refine heldTake 3 (some 9) (v := ?_) rfl rfl (by kernel_rfl) (by kernel_rfl) (by kernel_rfl) (by rfl) hHeld (fun _ _ _ h => h) ?_ ?_
  rotate_left
  · intro w' hSw; (try dsimp only at hSw); have q0 := (hSw.cell (p := ⟨b, 3, none⟩) (show b < V.heap.size by omega)).trans c3; have q1 := (hSw.cell (p := ⟨b, 4, none⟩) (show b < V.heap.size by omega)).trans c4; go_simp <;> with_reducible rfl
  simp only [Act.put, List.setIfInBounds_toArray, List.set_cons_zero, List.set_cons_succ]
  refine heldTake 5 (some 11) (v := ?_) rfl rfl (by kernel_rfl) (by kernel_rfl) (by kernel_rfl) (by rfl) hHeld (fun _ _ _ h => h) ?_ ?_
  rotate_left
  · intro w' hSw; (try dsimp only at hSw); go_simp <;> with_reducible rfl
  simp only [Act.put, List.setIfInBounds_toArray, List.set_cons_zero, List.set_cons_succ]
  refine heldTake 6 (some 12) (v := ?_) rfl rfl (by kernel_rfl) (by kernel_rfl) (by kernel_rfl) (by rfl) hHeld (fun _ _ _ h => h) ?_ ?_
  rotate_left
  · intro w' hSw; (try dsimp only at hSw); go_simp <;> with_reducible rfl
  simp only [Act.put, List.setIfInBounds_toArray, List.set_cons_zero, List.set_cons_succ]
  refine heldTake 7 (some 13) (v := ?_) rfl rfl (by kernel_rfl) (by kernel_rfl) (by kernel_rfl) (by rfl) hHeld (fun _ _ _ h => h) ?_ ?_
  rotate_left
  · intro w' hSw; (try dsimp only at hSw); go_simp <;> with_reducible rfl
  simp only [Act.put, List.setIfInBounds_toArray, List.set_cons_zero, List.set_cons_succ]
  refine heldTake 8 (some 14) (v := ?_) rfl rfl (by kernel_rfl) (by kernel_rfl) (by kernel_rfl) (by rfl) hHeld (fun _ _ _ h => h) ?_ ?_
  rotate_left
  · intro w' hSw; (try dsimp only at hSw); have q0 := (hSw.cell (p := ⟨b, 3, none⟩) (show b < V.heap.size by omega)).trans c3; have q1 := (hSw.cell (p := ⟨b, 4, none⟩) (show b < V.heap.size by omega)).trans c4; go_simp <;> with_reducible rfl
  simp only [Act.put, List.setIfInBounds_toArray, List.set_cons_zero, List.set_cons_succ]
  refine heldCall 4 (some 10) (f := ?_) (args := ?_) rfl rfl (by kernel_rfl) (by rfl) ?_ ?_
  rotate_left 2
  · go_simp <;> first | (constructor <;> with_reducible rfl) | with_reducible rfl
  (with_reducible refine (levels_any l V.drew hl1.drew).mono ?_)
  rintro e1 w2 ⟨rfl, rfl⟩
  refine ⟨_, rfl, keepAnd ?_ (fun hNew => ?_)⟩
  · exact (Below.refl _ _).drew
  clear hHeld
  have hHeld := hNew
  clear hNew
  simp only [Act.put, List.setIfInBounds_toArray, List.set_cons_zero, List.set_cons_succ]
  refine heldCall 9 (some 15) (f := ?_) (args := ?_) rfl rfl (by kernel_rfl) (by rfl) ?_ ?_
  rotate_left 2
  · go_simp <;> first | (constructor <;> with_reducible rfl) | with_reducible rfl
  (with_reducible refine (levels_node c y p q hh ee V.drew hr1.drew).mono ?_)
  rintro e2 w3 ⟨rfl, rfl⟩
  refine ⟨_, rfl, keepAnd ?_ (fun hNew => ?_)⟩
  · exact (Below.refl _ _).drew
  clear hHeld
  have hHeld := hNew
  clear hNew
  simp only [Act.put, List.setIfInBounds_toArray, List.set_cons_zero, List.set_cons_succ]
  refine heldTake 10 (some 16) (v := ?_) rfl rfl (by kernel_rfl) (by kernel_rfl) (by kernel_rfl) (by rfl) hHeld (fun _ _ _ h => h) ?_ ?_
  rotate_left
  · intro w' hSw; (try dsimp only at hSw); go_simp <;> with_reducible rfl
  simp only [Act.put, List.setIfInBounds_toArray, List.set_cons_zero, List.set_cons_succ]
  refine heldTake 11 (some 3) (v := ?_) rfl rfl (by kernel_rfl) (by kernel_rfl) (by kernel_rfl) (by rfl) hHeld (fun _ _ _ h => h) ?_ ?_
  rotate_left
  · intro w' hSw; (try dsimp only at hSw); go_simp <;> with_reducible rfl
  simp only [Act.put, List.setIfInBounds_toArray, List.set_cons_zero, List.set_cons_succ]
  refine wpAnyH_done (by kernel_rfl) ?_ _
  refine NoPanic.normal ?_
  have hdd : decide (1 < l.ht - hh) = false := by simp; omega
  go_wp2_with fail
  refine wp_region_noPanic ?_
  refine wp_region_held_drew (S := (fun w' => Below V.heap.size V w')) (by kernel_rfl) ?_ (fun hHeld => ?_)
  · exact (Below.refl _ _).drew.drew
  refine heldTake 0 (some 50) (v := ?_) rfl rfl (by kernel_rfl) (by kernel_rfl) (by kernel_rfl) (by rfl) hHeld (fun _ _ _ h => h) ?_ ?_
  rotate_left
  · intro w' hSw; (try dsimp only at hSw); go_simp <;> with_reducible rfl
  simp only [Act.put, List.setIfInBounds_toArray, List.set_cons_zero, List.set_cons_succ]
  refine heldTake 1 (some 51) (v := ?_) rfl rfl (by kernel_rfl) (by kernel_rfl) (by kernel_rfl) (by rfl) hHeld (fun _ _ _ h => h) ?_ ?_
  rotate_left
  · intro w' hSw; (try dsimp only at hSw); go_simp <;> with_reducible rfl
  simp only [Act.put, List.setIfInBounds_toArray, List.set_cons_zero, List.set_cons_succ]
  refine heldTake 2 (some 52) (v := ?_) rfl rfl (by kernel_rfl) (by kernel_rfl) (by kernel_rfl) (by rfl) hHeld (fun _ _ _ h => h) ?_ ?_
  rotate_left
  · intro w' hSw; (try dsimp only at hSw); go_simp <;> with_reducible rfl
  simp only [Act.put, List.setIfInBounds_toArray, List.set_cons_zero, List.set_cons_succ]
  refine heldTake 3 (some 53) (v := ?_) rfl rfl (by kernel_rfl) (by kernel_rfl) (by kernel_rfl) (by rfl) hHeld (fun _ _ _ h => h) ?_ ?_
  rotate_left
  · intro w' hSw; (try dsimp only at hSw); have q0 := (hSw.cell (p := ⟨b, 4, none⟩) (show b < V.heap.size by omega)).trans c4; have q1 := (hSw.cell (p := ⟨c, 3, none⟩) (show c < V.heap.size by omega)).trans d3; have q2 := (hSw.cell (p := ⟨c, 4, none⟩) (show c < V.heap.size by omega)).trans d4; go_simp <;> with_reducible rfl
  simp only [Act.put, List.setIfInBounds_toArray, List.set_cons_zero, List.set_cons_succ]
  refine heldTake 4 (some 54) (v := ?_) rfl rfl (by kernel_rfl) (by kernel_rfl) (by kernel_rfl) (by rfl) hHeld (fun _ _ _ h => h) ?_ ?_
  rotate_left
  · intro w' hSw; (try dsimp only at hSw); go_simp <;> with_reducible rfl
  simp only [Act.put, List.setIfInBounds_toArray, List.set_cons_zero, List.set_cons_succ]
  refine heldTake 5 (some 55) (v := ?_) rfl rfl (by kernel_rfl) (by kernel_rfl) (by kernel_rfl) (by rfl) hHeld (fun _ _ _ h => h) ?_ ?_
  rotate_left
  · intro w' hSw; (try dsimp only at hSw); go_simp <;> with_reducible rfl
  simp only [Act.put, List.setIfInBounds_toArray, List.set_cons_zero, List.set_cons_succ]
  refine heldTake 6 (some 56) (v := ?_) rfl rfl (by kernel_rfl) (by kernel_rfl) (by kernel_rfl) (by rfl) hHeld (fun _ _ _ h => h) ?_ ?_
  rotate_left
  · intro w' hSw; (try dsimp only at hSw); have q0 := (hSw.cell (p := ⟨b, 4, none⟩) (show b < V.heap.size by omega)).trans c4; have q1 := (hSw.cell (p := ⟨c, 3, none⟩) (show c < V.heap.size by omega)).trans d3; have q2 := (hSw.cell (p := ⟨c, 4, none⟩) (show c < V.heap.size by omega)).trans d4; go_simp <;> with_reducible rfl
  simp only [Act.put, List.setIfInBounds_toArray, List.set_cons_zero, List.set_cons_succ]
  refine heldTake 8 (some 58) (v := ?_) rfl rfl (by kernel_rfl) (by kernel_rfl) (by kernel_rfl) (by rfl) hHeld (fun _ _ _ h => h) ?_ ?_
  rotate_left
  · intro w' hSw; (try dsimp only at hSw); go_simp <;> with_reducible rfl
  simp only [Act.put, List.setIfInBounds_toArray, List.set_cons_zero, List.set_cons_succ]
  refine heldTake 9 (some 59) (v := ?_) rfl rfl (by kernel_rfl) (by kernel_rfl) (by kernel_rfl) (by rfl) hHeld (fun _ _ _ h => h) ?_ ?_
  rotate_left
  · intro w' hSw; (try dsimp only at hSw); go_simp <;> with_reducible rfl
  simp only [Act.put, List.setIfInBounds_toArray, List.set_cons_zero, List.set_cons_succ]
  refine heldTake 10 (some 60) (v := ?_) rfl rfl (by kernel_rfl) (by kernel_rfl) (by kernel_rfl) (by rfl) hHeld (fun _ _ _ h => h) ?_ ?_
  rotate_left
  · intro w' hSw; (try dsimp only at hSw); go_simp <;> with_reducible rfl
  simp only [Act.put, List.setIfInBounds_toArray, List.set_cons_zero, List.set_cons_succ]
  refine heldTake 11 (some 61) (v := ?_) rfl rfl (by kernel_rfl) (by kernel_rfl) (by kernel_rfl) (by rfl) hHeld (fun _ _ _ h => h) ?_ ?_
  rotate_left
  · intro w' hSw; (try dsimp only at hSw); have q0 := (hSw.cell (p := ⟨b, 4, none⟩) (show b < V.heap.size by omega)).trans c4; have q1 := (hSw.cell (p := ⟨c, 3, none⟩) (show c < V.heap.size by omega)).trans d3; have q2 := (hSw.cell (p := ⟨c, 4, none⟩) (show c < V.heap.size by omega)).trans d4; go_simp <;> with_reducible rfl
  simp only [Act.put, List.setIfInBounds_toArray, List.set_cons_zero, List.set_cons_succ]
  refine heldTake 12 (some 62) (v := ?_) rfl rfl (by kernel_rfl) (by kernel_rfl) (by kernel_rfl) (by rfl) hHeld (fun _ _ _ h => h) ?_ ?_
  rotate_left
  · intro w' hSw; (try dsimp only at hSw); go_simp <;> with_reducible rfl
  simp only [Act.put, List.setIfInBounds_toArray, List.set_cons_zero, List.set_cons_succ]
  refine heldTake 13 (some 63) (v := ?_) rfl rfl (by kernel_rfl) (by kernel_rfl) (by kernel_rfl) (by rfl) hHeld (fun _ _ _ h => h) ?_ ?_
  rotate_left
  · intro w' hSw; (try dsimp only at hSw); go_simp <;> with_reducible rfl
  simp only [Act.put, List.setIfInBounds_toArray, List.set_cons_zero, List.set_cons_succ]
  refine heldTake 14 (some 64) (v := ?_) rfl rfl (by kernel_rfl) (by kernel_rfl) (by kernel_rfl) (by rfl) hHeld (fun _ _ _ h => h) ?_ ?_
  rotate_left
  · intro w' hSw; (try dsimp only at hSw); have q0 := (hSw.cell (p := ⟨b, 4, none⟩) (show b < V.heap.size by omega)).trans c4; have q1 := (hSw.cell (p := ⟨c, 3, none⟩) (show c < V.heap.size by omega)).trans d3; have q2 := (hSw.cell (p := ⟨c, 4, none⟩) (show c < V.heap.size by omega)).trans d4; go_simp <;> with_reducible rfl
  simp only [Act.put, List.setIfInBounds_toArray, List.set_cons_zero, List.set_cons_succ]
  refine heldCall 7 (some 57) (f := ?_) (args := ?_) rfl rfl (by kernel_rfl) (by rfl) ?_ ?_
  rotate_left 2
  · go_simp <;> first | (constructor <;> with_reducible rfl) | with_reducible rfl
  (with_reducible refine (levels_any q V.drew.drew hq1.drew.drew).mono ?_)
  rintro e3 w4 ⟨rfl, rfl⟩
  refine ⟨_, rfl, keepAnd ?_ (fun hNew => ?_)⟩
  · exact (Below.refl _ _).drew.drew
  clear hHeld
  have hHeld := hNew
  clear hNew
  simp only [Act.put, List.setIfInBounds_toArray, List.set_cons_zero, List.set_cons_succ]
  refine heldCall 15 (some 65) (f := ?_) (args := ?_) rfl rfl (by kernel_rfl) (by rfl) ?_ ?_
  rotate_left 2
  · go_simp <;> first | (constructor <;> with_reducible rfl) | with_reducible rfl
  (with_reducible refine (levels_any p V.drew.drew hp1.drew.drew).mono ?_)
  rintro e4 w5 ⟨rfl, rfl⟩
  refine ⟨_, rfl, keepAnd ?_ (fun hNew => ?_)⟩
  · exact (Below.refl _ _).drew.drew
  clear hHeld
  have hHeld := hNew
  clear hNew
  simp only [Act.put, List.setIfInBounds_toArray, List.set_cons_zero, List.set_cons_succ]
  refine heldTake 16 (some 66) (v := ?_) rfl rfl (by kernel_rfl) (by kernel_rfl) (by kernel_rfl) (by rfl) hHeld (fun _ _ _ h => h) ?_ ?_
  rotate_left
  · intro w' hSw; (try dsimp only at hSw); go_simp <;> with_reducible rfl
  simp only [Act.put, List.setIfInBounds_toArray, List.set_cons_zero, List.set_cons_succ]
  refine wpAnyH_done (by kernel_rfl) ?_ _
  refine NoPanic.normal ?_
  by_cases c2 : q.ht < p.ht
  · cases p with
    | nil => rw [Tr.ht_nil] at c2; omega
    | node d z la lb h3 e5 =>
    obtain ⟨f1, f2, f3, f4, hlaO, hlbO⟩ := hpO
    have hla0 := hlaO.nonneg
    have hlb0 := hlbO.nonneg
    rw [Tr.ht_node] at *
    have hlal : la.ht + 1 ≤ h3 := by omega
    have hlbl : lb.ht + 1 ≤ h3 := by omega
    clear f1 f2
    have CR := Lib.hid (rotR_any c d y z la lb q hh ee h3 e5 _ hr1.drew.drew hndr hla0 hlb0 hq0 (by omega) (by omega) (by omega))
    go_wp2_with fail
    (with_reducible refine CR.out.mono ?_)
    rintro e6 w6 ⟨rfl, hA6, hC6'⟩
    have hC6 := hC6'.undrew.undrew
    clear CR hC6'
    have hs6 := hC6.size
    have hXb := (hC6.block b hbV ?hb6).trans HROW.out
    case hb6 =>
      rintro (e | e)
      · exact hbr (e ▸ List.mem_cons_self ..)
      · refine hbr (e ▸ ?_)
        simp [Tr.blocks]
    have ho6 := hl1.chgIn hC6 (by
      rintro i (e | e)
      · subst e; intro hh; exact hdis _ hh (List.mem_cons_self ..)
      · subst e; intro hh; exact hdis _ hh (by simp [Tr.blocks]))
    have hX7 := heap_setCell_same w6 b 4 _ _ (.pointer (some ⟨d, 0, none⟩)) hXb
    have hC7 : Chg (· = b) w6 (w6.setCell ⟨b, 4, none⟩ (.pointer (some ⟨d, 0, none⟩))) := Chg.setCell (S := (· = b)) (Chg.refl _ _) (.inl rfl) _
    have g7 : w6.cell? ⟨b, 4, none⟩ = some (.pointer (some ⟨c, 0, none⟩)) := cell_of_row _ _ 4 _ _ _ hXb
    have g8 := frozen_of_row w6 b 4 _ _ hXb
    have hndO : (Tr.node b x l (Tr.mk d z la (Tr.mk c y lb q)) 0 0 : Tr).blocks.Nodup := nd_perm hn0 (fun a => by simp only [Tr.blocks_mk, Tr.blocks_node, List.count_cons, List.count_append]; omega)
    obtain ⟨hbo1, hbo2, _, _, _⟩ := nd_node hndO
    obtain ⟨W6, hW6⟩ : ∃ W, W = w6.setCell ⟨b, 4, none⟩ (.pointer (some ⟨d, 0, none⟩)) := ⟨_, rfl⟩
    rw [← hW6] at hX7 hC7
    have CO := Lib.hid (rotL_any b d x z la (Tr.mk c y lb q) l (1 + max l.ht hh) (max x.to (max l.en ee)) (1 + max la.ht (Tr.mk c y lb q).ht) (max z.to (max la.en (Tr.mk c y lb q).en)) W6 ⟨hX7, ho6.chgIn hC7 (fun i hi => hi ▸ hbo1), hA6.chgIn hC7 (fun i hi => hi ▸ hbo2)⟩ hndO hla0 (by rw [Tr.ht_mk]; omega) hl0 (by omega) (by rw [Tr.ht_mk]; omega) (by omega))
    have HW6 := Lib.hid hW6
    clear hW6
    go_wp2_with fail
    rw [← HW6.out]
    (with_reducible refine CO.out.mono ?_)
    rintro e8 w8 ⟨rfl, hA8, hC8⟩
    go_wp2_with fail
    go_ret
    have hres : Tr.rotL b x l (Tr.rotRT (Tr.node c y (Tr.node d z la lb h3 e5) q hh ee)) = Tr.mk d z (Tr.mk b x l la) (Tr.mk c y lb q) := rfl
    rw [hres]
    refine ⟨rfl, hA8, ?_⟩
    refine ((hC1.mono (T := (· ∈ (Tr.node b x l (Tr.node c y (Tr.node d z la lb h3 e5) q hh ee) hT eT).blocks)) ?_).trans (hC6.mono (T := (· ∈ (Tr.node b x l (Tr.node c y (Tr.node d z la lb h3 e5) q hh ee) hT eT).blocks)) ?_) (fun _ _ h => h)).trans ((hC7.mono (T := (· ∈ (Tr.node b x l (Tr.node c y (Tr.node d z la lb h3 e5) q hh ee) hT eT).blocks)) ?_).trans (hC8.mono (T := (· ∈ (Tr.node b x l (Tr.node c y (Tr.node d z la lb h3 e5) q hh ee) hT eT).blocks)) ?_) (fun _ _ h => h)) (fun _ _ h => h)
    · rintro i rfl; simp [Tr.blocks]
    · rintro i (rfl | rfl) <;> simp [Tr.blocks]
    · rintro i rfl; simp [Tr.blocks]
    · rintro i (rfl | rfl) <;> simp [Tr.blocks]
  · have CO := Lib.hid (rotL_any b c x y p q l (1 + max l.ht hh) (max x.to (max l.en ee)) hh ee _ HA1.out.drew.drew hn0 hp0 hq0 hl0 (by omega) (by omega) (by omega))
    go_wp2_with fail
    (with_reducible refine CO.out.mono ?_)
    rintro e8 w8 ⟨rfl, hA8, hC8'⟩
    have hC8 := hC8'.undrew.undrew
    go_wp2_with fail
    go_ret
    have hres : Tr.rotL b x l (Tr.node c y p q hh ee) = Tr.mk c y (Tr.mk b x l p) q := rfl
    rw [hres]
    refine ⟨rfl, hA8, ?_⟩
    refine (hC1.mono (T := (· ∈ (Tr.node b x l (Tr.node c y p q hh ee) hT eT).blocks)) ?_).trans (hC8.mono (T := (· ∈ (Tr.node b x l (Tr.node c y p q hh ee) hT eT).blocks)) ?_) (fun _ _ h => h)
    · rintro i rfl; simp [Tr.blocks]
    · rintro i (rfl | rfl) <;> simp [Tr.blocks]
end Go.Proofs.Ytkocehfapcmiiaa
