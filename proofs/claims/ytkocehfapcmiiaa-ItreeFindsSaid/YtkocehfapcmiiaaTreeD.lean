/-
  Trees in memory: balance in general; insert.
-/
import Derived.Test.YtkocehfapcmiiaaTreeC
namespace Go.Proofs.Ytkocehfapcmiiaa
open Go.RowKit Go.Lib Go.IntWalk

set_option maxRecDepth 100000 in
set_option maxHeartbeats 2000000 in
theorem bal_mid (b : Nat) (x : It) (l r : Tr) (hT eT : Int) (w : World) (ht : (Tr.node b x l r hT eT).At w) (hn : (Tr.node b x l r hT eT).blocks.Nodup) (hlO : l.Ok) (hrO : r.Ok) (hd : l.ht - r.ht ≤ 1) (hd2 : r.ht - l.ht ≤ 1) (hb : l.ht ≤ 1099511627770) (hb2 : r.ht ≤ 1099511627770) :
    Calls Try.prog 39 #[.pointer (some ⟨b, 0, none⟩)] w fun e' w' => e' = .returned (.pointer (Tr.bal b x l r).pa) ∧ (Tr.bal b x l r).At w' ∧ Chg (· ∈ (Tr.node b x l r hT eT).blocks) w w' := by
  have hl0 := hlO.nonneg
  have hr0 := hrO.nonneg
  obtain ⟨hbl, hbr, hndl, hndr, hdis⟩ := nd_node hn
  have CF := Lib.hid (fix_any b x l r hT eT w ht ⟨hbl, hbr⟩ hl0 hr0 (by omega) (by omega))
  have hB : Tr.bal b x l r = Tr.mk b x l r := by
    unfold Tr.bal
    rw [if_neg (by omega), if_neg (by omega)]
  rw [hB]
  clear hB hn
  go_enter Try.func39, Try.ntmps39
  go_wp2_with fail
  (with_reducible refine CF.out.mono ?_)
  rintro e0 V ⟨⟨u, rfl⟩, hA1, hC1⟩
  clear CF ht
  obtain ⟨hrow, hl1, hr1⟩ := id hA1
  have hbV := (Array.getElem?_eq_some_iff.1 hrow).1
  have c3 : V.cell? ⟨b, 3, none⟩ = some (.pointer l.pa) := cell_of_row _ _ 3 _ _ _ hrow
  have c4 : V.cell? ⟨b, 4, none⟩ = some (.pointer r.pa) := cell_of_row _ _ 4 _ _ _ hrow
  have HA1 := Lib.hid hA1
  clear hrow hA1
  go_wp2_with fail
  refine wp_region_noPanic ?_
  refine wp_region_held_drew (S := (fun w' => Below V.heap.size V w')) (by kernel_rfl) ?_ (fun hHeld => ?_)
  · exact (Below.refl _ _).drew
  refine heldTake 0 (some 6) (v := ?_) rfl rfl (by kernel_rfl) (by kernel_rfl) (by kernel_rfl) (by rfl) hHeld (fun _ _ _ h => h) ?_ ?_
  rotate_left
  · intro w' hSw; (try dsimp only at hSw); go_simp <;> with_reducible rfl
  simp only [Act.put, List.setIfInBounds_toArray, List.set_cons_zero, List.set_cons_succ]
  refine heldTake 1 (some 7) (v := ?_) rfl rfl (by kernel_rfl) (by kernel_rfl) (by kernel_rfl) (by rfl) hHeld (fun _ _ _ h => h) ?_ ?_
  rotate_left
  · intro w' hSw; (try dsimp only at hSw); go_simp <;> with_reducible rfl
  simp only [Act.put, List.setIfInBounds_toArray, List.set_cons_zero, List.set_cons_succ]
  refine heldTake 2 (some 8) (v := ?_) rfl rfl (by kernel_rfl) (by kernel_rfl) (by kernel_rfl) (by rfl) hHeld (fun _ _ _ h => h) ?_ ?_
  rotate_left
  · intro w' hSw; (try dsimp only at hSw); go_simp <;> with_reducible rfl
  simp only [Act.put, List.setIfInBounds_toArray, List.set_cons_zero, List.set_cons_succ]
  refine heldTake 3 (some 9) (v := ?_) rfl rfl (by kernel_rfl) (by kernel_rfl) (by kernel_rfl) (by rfl) hHeld (fun _ _ _ h => h) ?_ ?_
  rotate_left
  · intro w' hSw; (try dsimp only at hSw); have q0 := (hSw.cell (p := ⟨b, 3, none⟩) (show b < V.heap.size by omega)).trans c3; have q1 := (hSw.cell (p := ⟨b, 4, none⟩) (show b < V.heap.size by omega)).trans c4; go_simp <;> with_reducible rfl
  simp only [Act.put, List.setIfInBounds_toArray, List.set_cons_zero, List.set_cons_succ]
  refine heldTake 5 (some 11) (v := ?_) rfl rfl (by kernel_rfl) (by kernel_rfl) (by kernel_rfl) (by rfl) hHeld (fun _ _ _ h => h) ?_ ?_
  rotate_left
  · intro w' hSw; (try dsimp only at hSw); go_simp <;> with_reducible rfl
  simp only [Act.put, List.setIfInBounds_toArray, List.set_cons_zero, List.set_cons_succ]
  refine heldTake 6 (some 12) (v := ?_) rfl rfl (by kernel_rfl) (by kernel_rfl) (by kernel_rfl) (by rfl) hHeld (fun _ _ _ h => h) ?_ ?_
  rotate_left
  · intro w' hSw; (try dsimp only at hSw); go_simp <;> with_reducible rfl
  simp only [Act.put, List.setIfInBounds_toArray, List.set_cons_zero, List.set_cons_succ]
  refine heldTake 7 (some 13) (v := ?_) rfl rfl (by kernel_rfl) (by kernel_rfl) (by kernel_rfl) (by rfl) hHeld (fun _ _ _ h => h) ?_ ?_
  rotate_left
  · intro w' hSw; (try dsimp only at hSw); go_simp <;> with_reducible rfl
  simp only [Act.put, List.setIfInBounds_toArray, List.set_cons_zero, List.set_cons_succ]
  refine heldTake 8 (some 14) (v := ?_) rfl rfl (by kernel_rfl) (by kernel_rfl) (by kernel_rfl) (by rfl) hHeld (fun _ _ _ h => h) ?_ ?_
  rotate_left
  · intro w' hSw; (try dsimp only at hSw); have q0 := (hSw.cell (p := ⟨b, 3, none⟩) (show b < V.heap.size by omega)).trans c3; have q1 := (hSw.cell (p := ⟨b, 4, none⟩) (show b < V.heap.size by omega)).trans c4; go_simp <;> with_reducible rfl
  simp only [Act.put, List.setIfInBounds_toArray, List.set_cons_zero, List.set_cons_succ]
  refine heldCall 4 (some 10) (f := ?_) (args := ?_) rfl rfl (by kernel_rfl) (by rfl) ?_ ?_
  rotate_left 2
  · go_simp <;> first | (constructor <;> with_reducible rfl) | with_reducible rfl
  (with_reducible refine (levels_any l V.drew hl1.drew).mono ?_)
  rintro e1 w2 ⟨rfl, rfl⟩
  refine ⟨_, rfl, keepAnd ?_ (fun hNew => ?_)⟩
  · exact (Below.refl _ _).drew
  clear hHeld
  have hHeld := hNew
  clear hNew
  simp only [Act.put, List.setIfInBounds_toArray, List.set_cons_zero, List.set_cons_succ]
  refine heldCall 9 (some 15) (f := ?_) (args := ?_) rfl rfl (by kernel_rfl) (by rfl) ?_ ?_
  rotate_left 2
  · go_simp <;> first | (constructor <;> with_reducible rfl) | with_reducible rfl
  (with_reducible refine (levels_any r V.drew hr1.drew).mono ?_)
  rintro e2 w3 ⟨rfl, rfl⟩
  refine ⟨_, rfl, keepAnd ?_ (fun hNew => ?_)⟩
  · exact (Below.refl _ _).drew
  clear hHeld
  have hHeld := hNew
  clear hNew
  simp only [Act.put, List.setIfInBounds_toArray, List.set_cons_zero, List.set_cons_succ]
  refine heldTake 10 (some 16) (v := ?_) rfl rfl (by kernel_rfl) (by kernel_rfl) (by kernel_rfl) (by rfl) hHeld (fun _ _ _ h => h) ?_ ?_
  rotate_left
  · intro w' hSw; (try dsimp only at hSw); go_simp <;> with_reducible rfl
  simp only [Act.put, List.setIfInBounds_toArray, List.set_cons_zero, List.set_cons_succ]
  refine heldTake 11 (some 3) (v := ?_) rfl rfl (by kernel_rfl) (by kernel_rfl) (by kernel_rfl) (by rfl) hHeld (fun _ _ _ h => h) ?_ ?_
  rotate_left
  · intro w' hSw; (try dsimp only at hSw); go_simp <;> with_reducible rfl
  simp only [Act.put, List.setIfInBounds_toArray, List.set_cons_zero, List.set_cons_succ]
  refine wpAnyH_done (by kernel_rfl) ?_ _
  refine NoPanic.normal ?_
  have hdd : decide (1 < l.ht - r.ht) = false := by simp; omega
  have hde : decide (l.ht - r.ht < -1) = false := by simp; omega
  go_wp2_with fail
  go_ret
  exact ⟨rfl, HA1.out.drew, (hC1.mono (fun i h => h ▸ List.mem_cons_self ..)).drew⟩

theorem bal_any (b : Nat) (x : It) (l r : Tr) (hT eT : Int) (w : World) (ht : (Tr.node b x l r hT eT).At w) (hn : (Tr.node b x l r hT eT).blocks.Nodup) (hlO : l.Ok) (hrO : r.Ok) (hd : l.ht - r.ht ≤ 2) (hd2 : r.ht - l.ht ≤ 2) (hb : l.ht ≤ 1099511627770) (hb2 : r.ht ≤ 1099511627770) :
    Calls Try.prog 39 #[.pointer (some ⟨b, 0, none⟩)] w fun e' w' => e' = .returned (.pointer (Tr.bal b x l r).pa) ∧ (Tr.bal b x l r).At w' ∧ Chg (· ∈ (Tr.node b x l r hT eT).blocks) w w' := by
  have hl0 := hlO.nonneg
  have hr0 := hrO.nonneg
  by_cases c1 : 1 < l.ht - r.ht
  · cases l with
    | nil => rw [Tr.ht_nil] at c1; omega
    | node c y p q hh ee => exact bal_left b c x y p q r hT eT hh ee w ht hn hlO hrO c1 hd hb
  by_cases c2 : l.ht - r.ht < -1
  · cases r with
    | nil => rw [Tr.ht_nil] at c2; omega
    | node c y p q hh ee => exact bal_right b c x y p q l hT eT hh ee w ht hn hrO hlO c2 hd2 hb2
  exact bal_mid b x l r hT eT w ht hn hlO hrO (by omega) (by omega) hb hb2

/-- what insert leaves -/
def InsOut (x : It) (t : Tr) (w0 : World) (e : Ending) (w : World) : Prop :=
  ∃ nb, w0.heap.size ≤ nb ∧ e = .returned (.pointer (Tr.ins nb x t).pa) ∧ (Tr.ins nb x t).At w ∧ Chg (· ∈ t.blocks) w0 w

set_option maxRecDepth 100000 in
set_option maxHeartbeats 4000000 in
theorem insert_any (x : It) : ∀ (t : Tr) (w : World), t.At w → t.blocks.Nodup → t.Ok → srtI t.items → x ∉ t.items → t.ht ≤ 1099511627000 →
    Calls Try.prog 27 #[t.ptr, itV x] w (InsOut x t w) := by
  intro t
  induction t with
  | nil =>
    intro w ht hn hO hs hx hb
    unfold Tr.ptr
    rw [show Tr.nil.pa = none from rfl]
    have hrow : ((w.alloc (.cells #[.int .i64 x.fr, .int .i64 x.to, .int .i64 x.id] 30)).alloc (.cells #[.int .i64 x.fr, .int .i64 x.to, .int .i64 x.id, .pointer none, .pointer none, .int .i64 0, .int .i64 0] 69)).heap[w.heap.size + 1]? = some (.cells (nodeC x .nil .nil 0 0) 69 (0, 0)) := by
      have := heap_alloc_new (w.alloc (.cells #[.int .i64 x.fr, .int .i64 x.to, .int .i64 x.id] 30)) (.cells #[.int .i64 x.fr, .int .i64 x.to, .int .i64 x.id, .pointer none, .pointer none, .int .i64 0, .int .i64 0] 69)
      rw [World.size_alloc] at this
      exact this
    have CB := Lib.hid (bal_any (w.heap.size + 1) x .nil .nil 0 0 _ ⟨hrow, trivial, trivial⟩ (by simp [Tr.blocks]) trivial trivial (by rw [Tr.ht_nil]; omega) (by rw [Tr.ht_nil]; omega) (by rw [Tr.ht_nil]; omega) (by rw [Tr.ht_nil]; omega))
    clear hrow ht hn hO hs hx hb
    go_enter Try.func27, Try.ntmps27
    go_wp2_with fail
    (with_reducible refine CB.out.mono ?_)
    rintro e1 w1 ⟨rfl, hA1, hC1⟩
    go_wp2_with fail
    go_ret
    refine ⟨w.heap.size + 1, by omega, rfl, hA1, ?_⟩
    refine ((Chg.refl _ w).alloc _ |>.alloc _).trans hC1 (fun i hi hh => ?_)
    simp only [Tr.blocks, List.append_nil, List.mem_singleton] at hh
    omega
  | node b y l r h e ihl ihr =>
    intro w ht hn hO hs hx hb
    unfold Tr.ptr
    rw [show (Tr.node b y l r h e).pa = some ⟨b, 0, none⟩ from rfl]
    have hltw0 := ht.lt
    obtain ⟨hrow, hlw, hrw⟩ := ht
    obtain ⟨e1, e2, e3, e4, hlO, hrO⟩ := hO
    have hl0 := hlO.nonneg
    have hr0 := hrO.nonneg
    rw [Tr.ht_node] at hb
    have hlh : l.ht + 1 ≤ h := by omega
    have hrh : r.ht + 1 ≤ h := by omega
    clear e1 e2
    obtain ⟨hbl, hbr, hndl, hndr, hdis⟩ := nd_node hn
    rw [Tr.items_node] at hs hx
    obtain ⟨hsl, hsr, h3, h4, h5⟩ := srt_app.1 hs
    have hxl : x ∉ l.items := fun h => hx (List.mem_append_left _ h)
    have hxr : x ∉ r.items := fun h => hx (List.mem_append_right _ (List.mem_cons_of_mem _ h))
    have hxy : x ≠ y := fun h => hx (h ▸ List.mem_append_right _ (List.mem_cons_self ..))
    have hbw := (Array.getElem?_eq_some_iff.1 hrow).1
    have hltl := hlw.lt
    have hltr := hrw.lt
    obtain ⟨W, hW⟩ : ∃ W, W = w.alloc (.cells #[.int .i64 x.fr, .int .i64 x.to, .int .i64 x.id] 30) := ⟨_, rfl⟩
    have hbW : Below w.heap.size w W := by rw [hW]; exact Below.of_alloc _
    have hsW : W.heap.size = w.heap.size + 1 := by rw [hW]; simp
    have hXW := (hbW.block b hbw).trans hrow
    have hDW : W.heap[w.heap.size]? = some (.cells #[.int .i64 x.fr, .int .i64 x.to, .int .i64 x.id] 30 (0, 0)) := by rw [hW]; exact heap_alloc_new w _
    have z0 : W.cell? ⟨w.heap.size, 0, none⟩ = some (.int .i64 x.fr) := cell_of_row _ _ 0 _ _ _ hDW
    have z1 : W.cell? ⟨w.heap.size, 1, none⟩ = some (.int .i64 x.to) := cell_of_row _ _ 1 _ _ _ hDW
    have z2 : W.cell? ⟨w.heap.size, 2, none⟩ = some (.int .i64 x.id) := cell_of_row _ _ 2 _ _ _ hDW
    have CC := Lib.hid (cmp_any b y x l r h e W hXW)
    rw [hW] at z0 z1 z2
    have HW := Lib.hid hW
    clear hW
    go_enter Try.func27, Try.ntmps27
    go_wp2_with fail
    rw [← HW.out]
    (with_reducible refine CC.out.mono ?_)
    rintro ec V ⟨rfl, hbc⟩
    clear CC z0 z1 z2
    have hsc := hbc.size
    have hbV0 : Below w.heap.size w V := hbW.trans (hbc.mono (by omega))
    have hXV := (hbc.block b (by omega)).trans hXW
    have hDV := (hbc.block w.heap.size (by omega)).trans hDW
    have hbV := (Array.getElem?_eq_some_iff.1 hXV).1
    have c3 : V.cell? ⟨b, 3, none⟩ = some (.pointer l.pa) := cell_of_row _ _ 3 _ _ _ hXV
    have c4 : V.cell? ⟨b, 4, none⟩ = some (.pointer r.pa) := cell_of_row _ _ 4 _ _ _ hXV
    have d0 : V.cell? ⟨w.heap.size, 0, none⟩ = some (.int .i64 x.fr) := cell_of_row _ _ 0 _ _ _ hDV
    have d1 : V.cell? ⟨w.heap.size, 1, none⟩ = some (.int .i64 x.to) := cell_of_row _ _ 1 _ _ _ hDV
    have d2 : V.cell? ⟨w.heap.size, 2, none⟩ = some (.int .i64 x.id) := cell_of_row _ _ 2 _ _ _ hDV
    have HROW := Lib.hid hXV
    have hlV := hlw.chg (Chg.of_below hbV0 None_) (fun _ _ h => h)
    have hrV := hrw.chg (Chg.of_below hbV0 None_) (fun _ _ h => h)
    clear hXV hDV hXW hDW hrow hlw hrw hbc hx
    rcases cmpI_cases y x with ⟨cc, k⟩ | ⟨cc, k⟩ | ⟨cc, k⟩
    · rw [cc]
      have IH := Lib.hid (fun (w' : World) (h' : r.At w') => ihr w' h' hndr hrO hsr hxr (by omega))
      have hltw := hltr
      clear ihl ihr
      have cc' : cmpI y x < 0 := by omega
      clear cc
      go_wp2_with fail
      refine wp_region_noPanic ?_
      refine beginT (S := (fun w' => w'.heap[b]? = V.heap[b]? ∧ w'.heap[w.heap.size]? = V.heap[w.heap.size]?)) 9 (by kernel_rfl) ?_ (fun hHeld => ?_)
      · exact ⟨rfl, rfl⟩
      refine takeT 0 (some 23) (v := ?_) rfl rfl (by kernel_rfl) (by kernel_rfl) (by kernel_rfl) (by kernel_rfl) (by rfl) hHeld (fun _ _ _ h => h) ?_ ?_
      rotate_left
      · intro w' hSw; (try dsimp only at hSw); go_simp <;> with_reducible rfl
      simp only [Act.put, List.setIfInBounds_toArray, List.set_cons_zero, List.set_cons_succ]
      refine takeT 1 (some 24) (v := ?_) rfl rfl (by kernel_rfl) (by kernel_rfl) (by kernel_rfl) (by kernel_rfl) (by rfl) hHeld (fun _ _ _ h => h) ?_ ?_
      rotate_left
      · intro w' hSw; (try dsimp only at hSw); go_simp <;> with_reducible rfl
      simp only [Act.put, List.setIfInBounds_toArray, List.set_cons_zero, List.set_cons_succ]
      refine takeT 2 (some 25) (v := ?_) rfl rfl (by kernel_rfl) (by kernel_rfl) (by kernel_rfl) (by kernel_rfl) (by rfl) hHeld (fun _ _ _ h => h) ?_ ?_
      rotate_left
      · intro w' hSw; (try dsimp only at hSw); go_simp <;> with_reducible rfl
      simp only [Act.put, List.setIfInBounds_toArray, List.set_cons_zero, List.set_cons_succ]
      refine takeT 3 (some 26) (v := ?_) rfl rfl (by kernel_rfl) (by kernel_rfl) (by kernel_rfl) (by kernel_rfl) (by rfl) hHeld (fun _ _ _ h => h) ?_ ?_
      rotate_left
      · intro w' hSw; (try dsimp only at hSw); go_simp <;> with_reducible rfl
      simp only [Act.put, List.setIfInBounds_toArray, List.set_cons_zero, List.set_cons_succ]
      refine takeT 4 (some 27) (v := ?_) rfl rfl (by kernel_rfl) (by kernel_rfl) (by kernel_rfl) (by kernel_rfl) (by rfl) hHeld (fun _ _ _ h => h) ?_ ?_
      rotate_left
      · intro w' hSw; (try dsimp only at hSw); have q0 := (World.cell?_of_block (w := V) (a := ⟨b, 4, none⟩) hSw.1).trans c4; go_simp <;> with_reducible rfl
      simp only [Act.put, List.setIfInBounds_toArray, List.set_cons_zero, List.set_cons_succ]
      refine takeT 5 (some 28) (v := ?_) rfl rfl (by kernel_rfl) (by kernel_rfl) (by kernel_rfl) (by kernel_rfl) (by rfl) hHeld (fun _ _ _ h => h) ?_ ?_
      rotate_left
      · intro w' hSw; (try dsimp only at hSw); have q0 := (World.cell?_of_block (w := V) (a := ⟨w.heap.size, 0, none⟩) hSw.2).trans d0; have q1 := (World.cell?_of_block (w := V) (a := ⟨w.heap.size, 1, none⟩) hSw.2).trans d1; have q2 := (World.cell?_of_block (w := V) (a := ⟨w.heap.size, 2, none⟩) hSw.2).trans d2; go_simp <;> with_reducible rfl
      simp only [Act.put, List.setIfInBounds_toArray, List.set_cons_zero, List.set_cons_succ]
      refine callT 6 (some 29) (f := ?_) (args := ?_) rfl rfl (by kernel_rfl) (by rfl) ?_ ?_
      rotate_left 2
      · go_simp <;> first | (constructor <;> with_reducible rfl) | with_reducible rfl
      (with_reducible refine (IH.out V.drew hrV.drew).mono ?_)
      rintro e3 w3 ⟨nb, hnb, rfl, hI3, hC3'⟩
      have hC3 : Chg (· ∈ r.blocks) V w3 := hC3'.undrew
      clear hC3'
      have hnb : V.heap.size ≤ nb := hnb
      have hs3 := hC3.size
      have hX3 := (hC3.block b hbV hbr).trans HROW.out
      have g3 : w3.cell? ⟨b, 4, none⟩ = some (.pointer r.pa) := cell_of_row _ _ 4 _ _ _ hX3
      have g4 := frozen_of_row w3 b 4 _ _ hX3
      refine ⟨_, rfl, keepAnd ?_ (fun hNew => ?_)⟩
      · intro _; exact ⟨hC3.block b hbV hbr, hC3.block w.heap.size (by omega) (fun h => by have := hltw _ h; omega)⟩
      have hNew := hNew (by decide)
      clear hHeld
      have hHeld := hNew
      clear hNew
      simp only [Act.put, List.setIfInBounds_toArray, List.set_cons_zero, List.set_cons_succ]
      refine runT 7 (some 30) (v := ?_) (w' := _) rfl rfl (by kernel_rfl) (by rfl) ?_ (fun _ => hHeld) ?_
      rotate_left
      · go_simp <;> with_reducible rfl
      simp only [Act.put, List.setIfInBounds_toArray, List.set_cons_zero, List.set_cons_succ]
      refine takeT 8 (some 31) (v := ?_) rfl rfl (by kernel_rfl) (by kernel_rfl) (by kernel_rfl) (by kernel_rfl) (by rfl) hHeld (fun _ _ _ h => h) ?_ ?_
      rotate_left
      · intro w' hSw; (try dsimp only at hSw); go_simp <;> with_reducible rfl
      simp only [Act.put, List.setIfInBounds_toArray, List.set_cons_zero, List.set_cons_succ]
      refine skipRunT 9 none (w' := w3.setCell ⟨b, 4, none⟩ (.pointer (Tr.ins nb x r).pa)) rfl rfl (by kernel_rfl) (by rfl) ?_ (fun h => absurd rfl h) ?_
      · go_simp <;> with_reducible rfl
      clear hHeld
      simp only [Act.put]
      refine doneT (by kernel_rfl) ?_ _
      refine NoPanic.normal ?_
      obtain ⟨g1, g2, g5, g6, g7⟩ := Tr.ins_spec nb x r hrO hsr hxr
      have hX4 := heap_setCell_same w3 b 4 _ _ (.pointer (Tr.ins nb x r).pa) hX3
      have hC4 : Chg (· = b) w3 (w3.setCell ⟨b, 4, none⟩ (.pointer (Tr.ins nb x r).pa)) := Chg.setCell (S := (· = b)) (Chg.refl _ _) (.inl rfl) _
      have hcnt := fun a => List.perm_iff_count.1 g7 a
      have hmem : ∀ c, c ∈ (Tr.ins nb x r).blocks ↔ c = nb ∨ c ∈ r.blocks := fun c => by rw [g7.mem_iff, List.mem_cons]
      have hnbw : nb ∉ (Tr.node b y l r h e).blocks := fun hh => by have := hltw0 nb hh; omega
      have hnd4 : (Tr.node b y l (Tr.ins nb x r) h e).blocks.Nodup := by
        have : (nb :: (Tr.node b y l r h e).blocks).Nodup := List.nodup_cons.2 ⟨hnbw, hn⟩
        refine nd_perm this (fun a => ?_)
        have := hcnt a
        simp only [Tr.blocks_node, List.count_cons, List.count_append] at *
        omega
      obtain ⟨k1, k2, _, _, _⟩ := nd_node hnd4
      have ht3 := hlV.chg hC3 (fun c hc hc2 => hdis c hc hc2)
      have hA4 : (Tr.node b y l (Tr.ins nb x r) h e).At (w3.setCell ⟨b, 4, none⟩ (.pointer (Tr.ins nb x r).pa)) := ⟨hX4, ht3.chgIn hC4 (fun i hi => hi ▸ k1), hI3.chgIn hC4 (fun i hi => hi ▸ k2)⟩
      have CB := Lib.hid (bal_any b y l (Tr.ins nb x r) h e _ hA4 hnd4 hlO g1 (by omega) (by omega) (by omega) (by omega))
      clear hcnt g3 g4
      have hr4 : Tr.ins nb x (Tr.node b y l r h e) = Tr.bal b y l (Tr.ins nb x r) := by rw [Tr.ins, if_neg (by omega)]
      have HR4 := Lib.hid hr4
      clear hr4
      go_wp2_with fail
      (with_reducible refine CB.out.mono ?_)
      rintro e5 w5 ⟨rfl, hA5, hC5⟩
      go_wp2_with fail
      go_ret
      refine ⟨nb, by have : V.heap.size ≤ nb := hnb; omega, ?_, ?_, ?_⟩
      · rw [HR4.out]; rfl
      · rw [HR4.out]; exact hA5
      · have hC34 := (hC3.mono (T := fun i => i ∈ (Tr.node b y l r h e).blocks) (fun i hi => by rw [Tr.blocks_node]; exact List.mem_cons_of_mem _ (List.mem_append_right _ hi))).trans (hC4.mono (T := fun i => i ∈ (Tr.node b y l r h e).blocks) (fun i hi => by rw [hi, Tr.blocks_node]; exact List.mem_cons_self ..)) (fun _ _ h => h)
        refine (((Chg.of_below hbV0 _).trans hC34 (fun _ _ h => h)).trans hC5 (fun i hi hh => ?_))
        simp only [Tr.blocks_node, List.mem_cons, List.mem_append, hmem] at hh ⊢
        rcases hh with hh | hh
        · exact .inl hh
        · have hni : i ≠ nb := by have : V.heap.size ≤ nb := hnb; omega
          rcases hh with hh | (hh | hh)
          · exact .inr (.inl hh)
          · exact absurd hh hni
          · exact .inr (.inr hh)
    · rw [cc]
      have IH := Lib.hid (fun (w' : World) (h' : l.At w') => ihl w' h' hndl hlO hsl hxl (by omega))
      have hltw := hltl
      clear ihl ihr
      have cc' : 0 < cmpI y x := by omega
      clear cc
      go_wp2_with fail
      refine wp_region_noPanic ?_
      refine beginT (S := (fun w' => w'.heap[b]? = V.heap[b]? ∧ w'.heap[w.heap.size]? = V.heap[w.heap.size]?)) 9 (by kernel_rfl) ?_ (fun hHeld => ?_)
      · exact ⟨rfl, rfl⟩
      refine takeT 0 (some 14) (v := ?_) rfl rfl (by kernel_rfl) (by kernel_rfl) (by kernel_rfl) (by kernel_rfl) (by rfl) hHeld (fun _ _ _ h => h) ?_ ?_
      rotate_left
      · intro w' hSw; (try dsimp only at hSw); go_simp <;> with_reducible rfl
      simp only [Act.put, List.setIfInBounds_toArray, List.set_cons_zero, List.set_cons_succ]
      refine takeT 1 (some 15) (v := ?_) rfl rfl (by kernel_rfl) (by kernel_rfl) (by kernel_rfl) (by kernel_rfl) (by rfl) hHeld (fun _ _ _ h => h) ?_ ?_
      rotate_left
      · intro w' hSw; (try dsimp only at hSw); go_simp <;> with_reducible rfl
      simp only [Act.put, List.setIfInBounds_toArray, List.set_cons_zero, List.set_cons_succ]
      refine takeT 2 (some 16) (v := ?_) rfl rfl (by kernel_rfl) (by kernel_rfl) (by kernel_rfl) (by kernel_rfl) (by rfl) hHeld (fun _ _ _ h => h) ?_ ?_
      rotate_left
      · intro w' hSw; (try dsimp only at hSw); go_simp <;> with_reducible rfl
      simp only [Act.put, List.setIfInBounds_toArray, List.set_cons_zero, List.set_cons_succ]
      refine takeT 3 (some 17) (v := ?_) rfl rfl (by kernel_rfl) (by kernel_rfl) (by kernel_rfl) (by kernel_rfl) (by rfl) hHeld (fun _ _ _ h => h) ?_ ?_
      rotate_left
      · intro w' hSw; (try dsimp only at hSw); go_simp <;> with_reducible rfl
      simp only [Act.put, List.setIfInBounds_toArray, List.set_cons_zero, List.set_cons_succ]
      refine takeT 4 (some 18) (v := ?_) rfl rfl (by kernel_rfl) (by kernel_rfl) (by kernel_rfl) (by kernel_rfl) (by rfl) hHeld (fun _ _ _ h => h) ?_ ?_
      rotate_left
      · intro w' hSw; (try dsimp only at hSw); have q0 := (World.cell?_of_block (w := V) (a := ⟨b, 3, none⟩) hSw.1).trans c3; go_simp <;> with_reducible rfl
      simp only [Act.put, List.setIfInBounds_toArray, List.set_cons_zero, List.set_cons_succ]
      refine takeT 5 (some 19) (v := ?_) rfl rfl (by kernel_rfl) (by kernel_rfl) (by kernel_rfl) (by kernel_rfl) (by rfl) hHeld (fun _ _ _ h => h) ?_ ?_
      rotate_left
      · intro w' hSw; (try dsimp only at hSw); have q0 := (World.cell?_of_block (w := V) (a := ⟨w.heap.size, 0, none⟩) hSw.2).trans d0; have q1 := (World.cell?_of_block (w := V) (a := ⟨w.heap.size, 1, none⟩) hSw.2).trans d1; have q2 := (World.cell?_of_block (w := V) (a := ⟨w.heap.size, 2, none⟩) hSw.2).trans d2; go_simp <;> with_reducible rfl
      simp only [Act.put, List.setIfInBounds_toArray, List.set_cons_zero, List.set_cons_succ]
      refine callT 6 (some 20) (f := ?_) (args := ?_) rfl rfl (by kernel_rfl) (by rfl) ?_ ?_
      rotate_left 2
      · go_simp <;> first | (constructor <;> with_reducible rfl) | with_reducible rfl
      (with_reducible refine (IH.out V.drew hlV.drew).mono ?_)
      rintro e3 w3 ⟨nb, hnb, rfl, hI3, hC3'⟩
      have hC3 : Chg (· ∈ l.blocks) V w3 := hC3'.undrew
      clear hC3'
      have hnb : V.heap.size ≤ nb := hnb
      have hs3 := hC3.size
      have hX3 := (hC3.block b hbV hbl).trans HROW.out
      have g3 : w3.cell? ⟨b, 3, none⟩ = some (.pointer l.pa) := cell_of_row _ _ 3 _ _ _ hX3
      have g4 := frozen_of_row w3 b 3 _ _ hX3
      refine ⟨_, rfl, keepAnd ?_ (fun hNew => ?_)⟩
      · intro _; exact ⟨hC3.block b hbV hbl, hC3.block w.heap.size (by omega) (fun h => by have := hltw _ h; omega)⟩
      have hNew := hNew (by decide)
      clear hHeld
      have hHeld := hNew
      clear hNew
      simp only [Act.put, List.setIfInBounds_toArray, List.set_cons_zero, List.set_cons_succ]
      refine runT 7 (some 21) (v := ?_) (w' := _) rfl rfl (by kernel_rfl) (by rfl) ?_ (fun _ => hHeld) ?_
      rotate_left
      · go_simp <;> with_reducible rfl
      simp only [Act.put, List.setIfInBounds_toArray, List.set_cons_zero, List.set_cons_succ]
      refine takeT 8 (some 22) (v := ?_) rfl rfl (by kernel_rfl) (by kernel_rfl) (by kernel_rfl) (by kernel_rfl) (by rfl) hHeld (fun _ _ _ h => h) ?_ ?_
      rotate_left
      · intro w' hSw; (try dsimp only at hSw); go_simp <;> with_reducible rfl
      simp only [Act.put, List.setIfInBounds_toArray, List.set_cons_zero, List.set_cons_succ]
      refine skipRunT 9 none (w' := w3.setCell ⟨b, 3, none⟩ (.pointer (Tr.ins nb x l).pa)) rfl rfl (by kernel_rfl) (by rfl) ?_ (fun h => absurd rfl h) ?_
      · go_simp <;> with_reducible rfl
      clear hHeld
      simp only [Act.put]
      refine doneT (by kernel_rfl) ?_ _
      refine NoPanic.normal ?_
      obtain ⟨g1, g2, g5, g6, g7⟩ := Tr.ins_spec nb x l hlO hsl hxl
      have hX4 := heap_setCell_same w3 b 3 _ _ (.pointer (Tr.ins nb x l).pa) hX3
      have hC4 : Chg (· = b) w3 (w3.setCell ⟨b, 3, none⟩ (.pointer (Tr.ins nb x l).pa)) := Chg.setCell (S := (· = b)) (Chg.refl _ _) (.inl rfl) _
      have hcnt := fun a => List.perm_iff_count.1 g7 a
      have hmem : ∀ c, c ∈ (Tr.ins nb x l).blocks ↔ c = nb ∨ c ∈ l.blocks := fun c => by rw [g7.mem_iff, List.mem_cons]
      have hnbw : nb ∉ (Tr.node b y l r h e).blocks := fun hh => by have := hltw0 nb hh; omega
      have hnd4 : (Tr.node b y (Tr.ins nb x l) r h e).blocks.Nodup := by
        have : (nb :: (Tr.node b y l r h e).blocks).Nodup := List.nodup_cons.2 ⟨hnbw, hn⟩
        refine nd_perm this (fun a => ?_)
        have := hcnt a
        simp only [Tr.blocks_node, List.count_cons, List.count_append] at *
        omega
      obtain ⟨k1, k2, _, _, _⟩ := nd_node hnd4
      have ht3 := hrV.chg hC3 (fun c hc hc2 => hdis c hc2 hc)
      have hA4 : (Tr.node b y (Tr.ins nb x l) r h e).At (w3.setCell ⟨b, 3, none⟩ (.pointer (Tr.ins nb x l).pa)) := ⟨hX4, hI3.chgIn hC4 (fun i hi => hi ▸ k1), ht3.chgIn hC4 (fun i hi => hi ▸ k2)⟩
      have CB := Lib.hid (bal_any b y (Tr.ins nb x l) r h e _ hA4 hnd4 g1 hrO (by omega) (by omega) (by omega) (by omega))
      clear hcnt g3 g4
      have hr4 : Tr.ins nb x (Tr.node b y l r h e) = Tr.bal b y (Tr.ins nb x l) r := by rw [Tr.ins, if_pos (by omega)]
      have HR4 := Lib.hid hr4
      clear hr4
      go_wp2_with fail
      (with_reducible refine CB.out.mono ?_)
      rintro e5 w5 ⟨rfl, hA5, hC5⟩
      go_wp2_with fail
      go_ret
      refine ⟨nb, by have : V.heap.size ≤ nb := hnb; omega, ?_, ?_, ?_⟩
      · rw [HR4.out]; rfl
      · rw [HR4.out]; exact hA5
      · have hC34 := (hC3.mono (T := fun i => i ∈ (Tr.node b y l r h e).blocks) (fun i hi => by rw [Tr.blocks_node]; exact List.mem_cons_of_mem _ (List.mem_append_left _ hi))).trans (hC4.mono (T := fun i => i ∈ (Tr.node b y l r h e).blocks) (fun i hi => by rw [hi, Tr.blocks_node]; exact List.mem_cons_self ..)) (fun _ _ h => h)
        refine (((Chg.of_below hbV0 _).trans hC34 (fun _ _ h => h)).trans hC5 (fun i hi hh => ?_))
        simp only [Tr.blocks_node, List.mem_cons, List.mem_append, hmem] at hh ⊢
        rcases hh with hh | hh
        · exact .inl hh
        · have hni : i ≠ nb := by have : V.heap.size ≤ nb := hnb; omega
          rcases hh with (hh | hh) | hh
          · exact absurd hh hni
          · exact .inr (.inl hh)
          · exact .inr (.inr hh)
    · exact absurd k.symm hxy
end Go.Proofs.Ytkocehfapcmiiaa
