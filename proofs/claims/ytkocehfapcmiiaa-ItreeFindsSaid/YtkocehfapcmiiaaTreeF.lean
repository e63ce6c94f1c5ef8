/-
  Trees in memory: remove.
-/
import Derived.Test.YtkocehfapcmiiaaTreeE
namespace Go.Proofs.Ytkocehfapcmiiaa
open Go.RowKit Go.Lib Go.IntWalk

/-- what remove leaves -/
def RemOut (x : It) (t : Tr) (w0 : World) (e : Ending) (w : World) : Prop :=
  e = .returned (.pointer (Tr.rem t x).pa) ∧ (Tr.rem t x).At w ∧ Chg (· ∈ t.blocks) w0 w
theorem ptr_ne {t : Tr} (h : t ≠ .nil) : ∃ c, t.pa = some ⟨c, 0, none⟩ := by
  cases t with
  | nil => exact absurd rfl h
  | node c => exact ⟨c, rfl⟩
theorem Tr.bal_ne (b : Nat) (x : It) (l r : Tr) : Tr.bal b x l r ≠ .nil := by
  unfold Tr.bal Tr.rotR Tr.rotL Tr.mk
  repeat' split
  all_goals simp

set_option maxRecDepth 100000 in
set_option maxHeartbeats 8000000 in
theorem remove_any : ∀ (t : Tr) (x : It) (w : World), t.At w → t.blocks.Nodup → t.Ok → srtI t.items → x ∈ t.items → t.ht ≤ 1099511627000 →
    Calls Try.prog 33 #[.pointer t.pa, itV x] w (RemOut x t w) := by
  intro t
  induction t with
  | nil =>
    intro x w ht hn hO hs hx hb
    cases hx
  | node b y l r h e ihl ihr =>
    intro x w ht hn hO hs hx hb
    rw [show (Tr.node b y l r h e).pa = some ⟨b, 0, none⟩ from rfl]
    have hltw0 := ht.lt
    obtain ⟨hrow, hlw, hrw⟩ := ht
    obtain ⟨e1, e2, e3, e4, hlO, hrO⟩ := hO
    have hl0 := hlO.nonneg
    have hr0 := hrO.nonneg
    rw [Tr.ht_node] at hb
    have hlh : l.ht + 1 ≤ h := by omega
    have hrh : r.ht + 1 ≤ h := by omega
    clear e1 e2
    obtain ⟨hbl, hbr, hndl, hndr, hdis⟩ := nd_node hn
    rw [Tr.items_node] at hs hx
    obtain ⟨hsl, hsr, h3, h4, h5⟩ := srt_app.1 hs
    have hbw := (Array.getElem?_eq_some_iff.1 hrow).1
    have hltl := hlw.lt
    have hltr := hrw.lt
    obtain ⟨W, hW⟩ : ∃ W, W = w.alloc (.cells #[.int .i64 x.fr, .int .i64 x.to, .int .i64 x.id] 30) := ⟨_, rfl⟩
    have hbW : Below w.heap.size w W := by rw [hW]; exact Below.of_alloc _
    have hsW : W.heap.size = w.heap.size + 1 := by rw [hW]; simp
    have hXW := (hbW.block b hbw).trans hrow
    have hDW : W.heap[w.heap.size]? = some (.cells #[.int .i64 x.fr, .int .i64 x.to, .int .i64 x.id] 30 (0, 0)) := by rw [hW]; exact heap_alloc_new w _
    have z0 : W.cell? ⟨w.heap.size, 0, none⟩ = some (.int .i64 x.fr) := cell_of_row _ _ 0 _ _ _ hDW
    have z1 : W.cell? ⟨w.heap.size, 1, none⟩ = some (.int .i64 x.to) := cell_of_row _ _ 1 _ _ _ hDW
    have z2 : W.cell? ⟨w.heap.size, 2, none⟩ = some (.int .i64 x.id) := cell_of_row _ _ 2 _ _ _ hDW
    have CC := Lib.hid (cmp_any b y x l r h e W hXW)
    rw [hW] at z0 z1 z2
    have HW := Lib.hid hW
    clear hW
    go_enter Try.func33, Try.ntmps33
    go_wp2_with fail
    rw [← HW.out]
    (with_reducible refine CC.out.mono ?_)
    rintro ec V ⟨rfl, hbc⟩
    clear CC z0 z1 z2
    have hsc := hbc.size
    have hbV0 : Below w.heap.size w V := hbW.trans (hbc.mono (by omega))
    have hC0V : Chg (· ∈ (Tr.node b y l r h e).blocks) w V := Chg.of_below hbV0 _
    have hXV := (hbc.block b (by omega)).trans hXW
    have hDV := (hbc.block w.heap.size (by omega)).trans hDW
    have hbV := (Array.getElem?_eq_some_iff.1 hXV).1
    have c3 : V.cell? ⟨b, 3, none⟩ = some (.pointer l.pa) := cell_of_row _ _ 3 _ _ _ hXV
    have c4 : V.cell? ⟨b, 4, none⟩ = some (.pointer r.pa) := cell_of_row _ _ 4 _ _ _ hXV
    have d0 : V.cell? ⟨w.heap.size, 0, none⟩ = some (.int .i64 x.fr) := cell_of_row _ _ 0 _ _ _ hDV
    have d1 : V.cell? ⟨w.heap.size, 1, none⟩ = some (.int .i64 x.to) := cell_of_row _ _ 1 _ _ _ hDV
    have d2 : V.cell? ⟨w.heap.size, 2, none⟩ = some (.int .i64 x.id) := cell_of_row _ _ 2 _ _ _ hDV
    have HROW := Lib.hid hXV
    have hlV := hlw.chg (Chg.of_below hbV0 None_) (fun _ _ h => h)
    have hrV := hrw.chg (Chg.of_below hbV0 None_) (fun _ _ h => h)
    clear hXV hDV hXW hDW hrow hlw hrw hbc
    rcases cmpI_cases y x with ⟨cc, k⟩ | ⟨cc, k⟩ | ⟨cc, k⟩
    · rw [cc]
      have hxr : x ∈ r.items := by
        rcases List.mem_append.1 hx with h | h
        · exact absurd (ltI_trans (h3 x h) k) (ltI_irrefl x)
        · rcases List.mem_cons.1 h with h | h
          · exact absurd h.symm (ltI_ne k)
          · exact h
      have IH := Lib.hid (fun (w' : World) (h' : r.At w') => ihr x w' h' hndr hrO hsr hxr (by omega))
      have hltw := hltr
      clear ihl ihr
      have cc' : cmpI y x < 0 := by omega
      clear cc
      go_wp2_with fail
      refine wp_region_noPanic ?_
      refine beginT (S := (fun w' => w'.heap[b]? = V.heap[b]? ∧ w'.heap[w.heap.size]? = V.heap[w.heap.size]?)) 9 (by kernel_rfl) ?_ (fun hHeld => ?_)
      · exact ⟨rfl, rfl⟩
      refine takeT 0 (some 44) (v := ?_) rfl rfl (by kernel_rfl) (by kernel_rfl) (by kernel_rfl) (by kernel_rfl) (by rfl) hHeld (fun _ _ _ h => h) ?_ ?_
      rotate_left
      · intro w' hSw; (try dsimp only at hSw); go_simp <;> with_reducible rfl
      simp only [Act.put, List.setIfInBounds_toArray, List.set_cons_zero, List.set_cons_succ]
      refine takeT 1 (some 45) (v := ?_) rfl rfl (by kernel_rfl) (by kernel_rfl) (by kernel_rfl) (by kernel_rfl) (by rfl) hHeld (fun _ _ _ h => h) ?_ ?_
      rotate_left
      · intro w' hSw; (try dsimp only at hSw); go_simp <;> with_reducible rfl
      simp only [Act.put, List.setIfInBounds_toArray, List.set_cons_zero, List.set_cons_succ]
      refine takeT 2 (some 46) (v := ?_) rfl rfl (by kernel_rfl) (by kernel_rfl) (by kernel_rfl) (by kernel_rfl) (by rfl) hHeld (fun _ _ _ h => h) ?_ ?_
      rotate_left
      · intro w' hSw; (try dsimp only at hSw); go_simp <;> with_reducible rfl
      simp only [Act.put, List.setIfInBounds_toArray, List.set_cons_zero, List.set_cons_succ]
      refine takeT 3 (some 47) (v := ?_) rfl rfl (by kernel_rfl) (by kernel_rfl) (by kernel_rfl) (by kernel_rfl) (by rfl) hHeld (fun _ _ _ h => h) ?_ ?_
      rotate_left
      · intro w' hSw; (try dsimp only at hSw); go_simp <;> with_reducible rfl
      simp only [Act.put, List.setIfInBounds_toArray, List.set_cons_zero, List.set_cons_succ]
      refine takeT 4 (some 48) (v := ?_) rfl rfl (by kernel_rfl) (by kernel_rfl) (by kernel_rfl) (by kernel_rfl) (by rfl) hHeld (fun _ _ _ h => h) ?_ ?_
      rotate_left
      · intro w' hSw; (try dsimp only at hSw); have q0 := (World.cell?_of_block (w := V) (a := ⟨b, 4, none⟩) hSw.1).trans c4; go_simp <;> with_reducible rfl
      simp only [Act.put, List.setIfInBounds_toArray, List.set_cons_zero, List.set_cons_succ]
      refine takeT 5 (some 49) (v := ?_) rfl rfl (by kernel_rfl) (by kernel_rfl) (by kernel_rfl) (by kernel_rfl) (by rfl) hHeld (fun _ _ _ h => h) ?_ ?_
      rotate_left
      · intro w' hSw; (try dsimp only at hSw); have q0 := (World.cell?_of_block (w := V) (a := ⟨w.heap.size, 0, none⟩) hSw.2).trans d0; have q1 := (World.cell?_of_block (w := V) (a := ⟨w.heap.size, 1, none⟩) hSw.2).trans d1; have q2 := (World.cell?_of_block (w := V) (a := ⟨w.heap.size, 2, none⟩) hSw.2).trans d2; go_simp <;> with_reducible rfl
      simp only [Act.put, List.setIfInBounds_toArray, List.set_cons_zero, List.set_cons_succ]
      refine callT 6 (some 50) (f := ?_) (args := ?_) rfl rfl (by kernel_rfl) (by rfl) ?_ ?_
      rotate_left 2
      · go_simp <;> first | (constructor <;> with_reducible rfl) | with_reducible rfl
      (with_reducible refine (IH.out V.drew hrV.drew).mono ?_)
      rintro e3 w3 ⟨rfl, hI3, hC3'⟩
      have hC3 : Chg (· ∈ r.blocks) V w3 := hC3'.undrew
      clear hC3'
      have hs3 := hC3.size
      have hX3 := (hC3.block b hbV hbr).trans HROW.out
      have g3 : w3.cell? ⟨b, 4, none⟩ = some (.pointer r.pa) := cell_of_row _ _ 4 _ _ _ hX3
      have g4 := frozen_of_row w3 b 4 _ _ hX3
      refine ⟨_, rfl, keepAnd ?_ (fun hNew => ?_)⟩
      · intro _; exact ⟨hC3.block b hbV hbr, hC3.block w.heap.size (by omega) (fun h => by have := hltw _ h; omega)⟩
      have hNew := hNew (by decide)
      clear hHeld
      have hHeld := hNew
      clear hNew
      simp only [Act.put, List.setIfInBounds_toArray, List.set_cons_zero, List.set_cons_succ]
      refine runT 7 (some 51) (v := ?_) (w' := _) rfl rfl (by kernel_rfl) (by rfl) ?_ (fun _ => hHeld) ?_
      rotate_left
      · go_simp <;> with_reducible rfl
      simp only [Act.put, List.setIfInBounds_toArray, List.set_cons_zero, List.set_cons_succ]
      refine takeT 8 (some 52) (v := ?_) rfl rfl (by kernel_rfl) (by kernel_rfl) (by kernel_rfl) (by kernel_rfl) (by rfl) hHeld (fun _ _ _ h => h) ?_ ?_
      rotate_left
      · intro w' hSw; (try dsimp only at hSw); go_simp <;> with_reducible rfl
      simp only [Act.put, List.setIfInBounds_toArray, List.set_cons_zero, List.set_cons_succ]
      refine skipRunT 9 none (w' := w3.setCell ⟨b, 4, none⟩ (.pointer (Tr.rem r x).pa)) rfl rfl (by kernel_rfl) (by rfl) ?_ (fun h => absurd rfl h) ?_
      · go_simp <;> with_reducible rfl
      clear hHeld
      simp only [Act.put]
      refine doneT (by kernel_rfl) ?_ _
      refine NoPanic.normal ?_
      obtain ⟨g1, g2, g5, g6, cc7, g7⟩ := Tr.rem_spec r hrO hsr x hxr
      have hX4 := heap_setCell_same w3 b 4 _ _ (.pointer (Tr.rem r x).pa) hX3
      have hC4 : Chg (· = b) w3 (w3.setCell ⟨b, 4, none⟩ (.pointer (Tr.rem r x).pa)) := Chg.setCell (S := (· = b)) (Chg.refl _ _) (.inl rfl) _
      have hcnt := fun a => List.perm_iff_count.1 g7 a
      have hmem : ∀ c, c ∈ (Tr.rem r x).blocks → c ∈ r.blocks := fun c hc => by rw [g7.mem_iff]; exact List.mem_cons_of_mem _ hc
      have hnd5 : (cc7 :: (Tr.node b y l (Tr.rem r x) h e).blocks).Nodup := by
        refine nd_perm hn (fun a => ?_)
        have := hcnt a
        simp only [Tr.blocks_node, List.count_cons, List.count_append] at *
        omega
      have hnd4 := (List.nodup_cons.1 hnd5).2
      obtain ⟨k1, k2, _, _, _⟩ := nd_node hnd4
      have ht3 := hlV.chg hC3 (fun c hc hc2 => hdis c hc hc2)
      have hA4 : (Tr.node b y l (Tr.rem r x) h e).At (w3.setCell ⟨b, 4, none⟩ (.pointer (Tr.rem r x).pa)) := ⟨hX4, ht3.chgIn hC4 (fun i hi => hi ▸ k1), hI3.chgIn hC4 (fun i hi => hi ▸ k2)⟩
      have CB := Lib.hid (bal_any b y l (Tr.rem r x) h e _ hA4 hnd4 hlO g1 (by omega) (by omega) (by omega) (by omega))
      clear hcnt g3 g4
      have HR4 : Hid (Tr.rem (Tr.node b y l r h e) x = Tr.bal b y l (Tr.rem r x)) := Lib.hid (Tr.rem_right (by omega))
      go_wp2_with fail
      (with_reducible refine CB.out.mono ?_)
      rintro e5 w5 ⟨rfl, hA5, hC5⟩
      go_wp2_with fail
      go_ret
      refine ⟨?_, ?_, ?_⟩
      · rw [HR4.out]; rfl
      · rw [HR4.out]; exact hA5
      · have hC34 := (hC3.mono (T := fun i => i ∈ (Tr.node b y l r h e).blocks) (fun i hi => by rw [Tr.blocks_node]; exact List.mem_cons_of_mem _ (List.mem_append_right _ hi))).trans (hC4.mono (T := fun i => i ∈ (Tr.node b y l r h e).blocks) (fun i hi => by rw [hi, Tr.blocks_node]; exact List.mem_cons_self ..)) (fun _ _ h => h)
        refine ((hC0V.trans hC34 (fun _ _ h => h)).trans hC5 (fun i hi hh => ?_))
        simp only [Tr.blocks_node, List.mem_cons, List.mem_append] at hh ⊢
        rcases hh with hh | hh
        · exact .inl hh
        · rcases hh with hh | hh
          · exact .inr (.inl hh)
          · exact .inr (.inr (hmem _ hh))
    · rw [cc]
      have hxl : x ∈ l.items := by
        rcases List.mem_append.1 hx with h | h
        · exact h
        · rcases List.mem_cons.1 h with h | h
          · exact absurd h (ltI_ne k)
          · exact absurd (ltI_trans k (h4 x h)) (ltI_irrefl x)
      have IH := Lib.hid (fun (w' : World) (h' : l.At w') => ihl x w' h' hndl hlO hsl hxl (by omega))
      have hltw := hltl
      clear ihl ihr
      have cc' : 0 < cmpI y x := by omega
      clear cc
      go_wp2_with fail
      refine wp_region_noPanic ?_
      refine beginT (S := (fun w' => w'.heap[b]? = V.heap[b]? ∧ w'.heap[w.heap.size]? = V.heap[w.heap.size]?)) 9 (by kernel_rfl) ?_ (fun hHeld => ?_)
      · exact ⟨rfl, rfl⟩
      refine takeT 0 (some 32) (v := ?_) rfl rfl (by kernel_rfl) (by kernel_rfl) (by kernel_rfl) (by kernel_rfl) (by rfl) hHeld (fun _ _ _ h => h) ?_ ?_
      rotate_left
      · intro w' hSw; (try dsimp only at hSw); go_simp <;> with_reducible rfl
      simp only [Act.put, List.setIfInBounds_toArray, List.set_cons_zero, List.set_cons_succ]
      refine takeT 1 (some 33) (v := ?_) rfl rfl (by kernel_rfl) (by kernel_rfl) (by kernel_rfl) (by kernel_rfl) (by rfl) hHeld (fun _ _ _ h => h) ?_ ?_
      rotate_left
      · intro w' hSw; (try dsimp only at hSw); go_simp <;> with_reducible rfl
      simp only [Act.put, List.setIfInBounds_toArray, List.set_cons_zero, List.set_cons_succ]
      refine takeT 2 (some 34) (v := ?_) rfl rfl (by kernel_rfl) (by kernel_rfl) (by kernel_rfl) (by kernel_rfl) (by rfl) hHeld (fun _ _ _ h => h) ?_ ?_
      rotate_left
      · intro w' hSw; (try dsimp only at hSw); go_simp <;> with_reducible rfl
      simp only [Act.put, List.setIfInBounds_toArray, List.set_cons_zero, List.set_cons_succ]
      refine takeT 3 (some 35) (v := ?_) rfl rfl (by kernel_rfl) (by kernel_rfl) (by kernel_rfl) (by kernel_rfl) (by rfl) hHeld (fun _ _ _ h => h) ?_ ?_
      rotate_left
      · intro w' hSw; (try dsimp only at hSw); go_simp <;> with_reducible rfl
      simp only [Act.put, List.setIfInBounds_toArray, List.set_cons_zero, List.set_cons_succ]
      refine takeT 4 (some 36) (v := ?_) rfl rfl (by kernel_rfl) (by kernel_rfl) (by kernel_rfl) (by kernel_rfl) (by rfl) hHeld (fun _ _ _ h => h) ?_ ?_
      rotate_left
      · intro w' hSw; (try dsimp only at hSw); have q0 := (World.cell?_of_block (w := V) (a := ⟨b, 3, none⟩) hSw.1).trans c3; go_simp <;> with_reducible rfl
      simp only [Act.put, List.setIfInBounds_toArray, List.set_cons_zero, List.set_cons_succ]
      refine takeT 5 (some 37) (v := ?_) rfl rfl (by kernel_rfl) (by kernel_rfl) (by kernel_rfl) (by kernel_rfl) (by rfl) hHeld (fun _ _ _ h => h) ?_ ?_
      rotate_left
      · intro w' hSw; (try dsimp only at hSw); have q0 := (World.cell?_of_block (w := V) (a := ⟨w.heap.size, 0, none⟩) hSw.2).trans d0; have q1 := (World.cell?_of_block (w := V) (a := ⟨w.heap.size, 1, none⟩) hSw.2).trans d1; have q2 := (World.cell?_of_block (w := V) (a := ⟨w.heap.size, 2, none⟩) hSw.2).trans d2; go_simp <;> with_reducible rfl
      simp only [Act.put, List.setIfInBounds_toArray, List.set_cons_zero, List.set_cons_succ]
      refine callT 6 (some 38) (f := ?_) (args := ?_) rfl rfl (by kernel_rfl) (by rfl) ?_ ?_
      rotate_left 2
      · go_simp <;> first | (constructor <;> with_reducible rfl) | with_reducible rfl
      (with_reducible refine (IH.out V.drew hlV.drew).mono ?_)
      rintro e3 w3 ⟨rfl, hI3, hC3'⟩
      have hC3 : Chg (· ∈ l.blocks) V w3 := hC3'.undrew
      clear hC3'
      have hs3 := hC3.size
      have hX3 := (hC3.block b hbV hbl).trans HROW.out
      have g3 : w3.cell? ⟨b, 3, none⟩ = some (.pointer l.pa) := cell_of_row _ _ 3 _ _ _ hX3
      have g4 := frozen_of_row w3 b 3 _ _ hX3
      refine ⟨_, rfl, keepAnd ?_ (fun hNew => ?_)⟩
      · intro _; exact ⟨hC3.block b hbV hbl, hC3.block w.heap.size (by omega) (fun h => by have := hltw _ h; omega)⟩
      have hNew := hNew (by decide)
      clear hHeld
      have hHeld := hNew
      clear hNew
      simp only [Act.put, List.setIfInBounds_toArray, List.set_cons_zero, List.set_cons_succ]
      refine runT 7 (some 39) (v := ?_) (w' := _) rfl rfl (by kernel_rfl) (by rfl) ?_ (fun _ => hHeld) ?_
      rotate_left
      · go_simp <;> with_reducible rfl
      simp only [Act.put, List.setIfInBounds_toArray, List.set_cons_zero, List.set_cons_succ]
      refine takeT 8 (some 40) (v := ?_) rfl rfl (by kernel_rfl) (by kernel_rfl) (by kernel_rfl) (by kernel_rfl) (by rfl) hHeld (fun _ _ _ h => h) ?_ ?_
      rotate_left
      · intro w' hSw; (try dsimp only at hSw); go_simp <;> with_reducible rfl
      simp only [Act.put, List.setIfInBounds_toArray, List.set_cons_zero, List.set_cons_succ]
      refine skipRunT 9 none (w' := w3.setCell ⟨b, 3, none⟩ (.pointer (Tr.rem l x).pa)) rfl rfl (by kernel_rfl) (by rfl) ?_ (fun h => absurd rfl h) ?_
      · go_simp <;> with_reducible rfl
      clear hHeld
      simp only [Act.put]
      refine doneT (by kernel_rfl) ?_ _
      refine NoPanic.normal ?_
      obtain ⟨g1, g2, g5, g6, cc7, g7⟩ := Tr.rem_spec l hlO hsl x hxl
      have hX4 := heap_setCell_same w3 b 3 _ _ (.pointer (Tr.rem l x).pa) hX3
      have hC4 : Chg (· = b) w3 (w3.setCell ⟨b, 3, none⟩ (.pointer (Tr.rem l x).pa)) := Chg.setCell (S := (· = b)) (Chg.refl _ _) (.inl rfl) _
      have hcnt := fun a => List.perm_iff_count.1 g7 a
      have hmem : ∀ c, c ∈ (Tr.rem l x).blocks → c ∈ l.blocks := fun c hc => by rw [g7.mem_iff]; exact List.mem_cons_of_mem _ hc
      have hnd5 : (cc7 :: (Tr.node b y (Tr.rem l x) r h e).blocks).Nodup := by
        refine nd_perm hn (fun a => ?_)
        have := hcnt a
        simp only [Tr.blocks_node, List.count_cons, List.count_append] at *
        omega
      have hnd4 := (List.nodup_cons.1 hnd5).2
      obtain ⟨k1, k2, _, _, _⟩ := nd_node hnd4
      have ht3 := hrV.chg hC3 (fun c hc hc2 => hdis c hc2 hc)
      have hA4 : (Tr.node b y (Tr.rem l x) r h e).At (w3.setCell ⟨b, 3, none⟩ (.pointer (Tr.rem l x).pa)) := ⟨hX4, hI3.chgIn hC4 (fun i hi => hi ▸ k1), ht3.chgIn hC4 (fun i hi => hi ▸ k2)⟩
      have CB := Lib.hid (bal_any b y (Tr.rem l x) r h e _ hA4 hnd4 g1 hrO (by omega) (by omega) (by omega) (by omega))
      clear hcnt g3 g4
      have HR4 : Hid (Tr.rem (Tr.node b y l r h e) x = Tr.bal b y (Tr.rem l x) r) := Lib.hid (Tr.rem_left (by omega))
      go_wp2_with fail
      (with_reducible refine CB.out.mono ?_)
      rintro e5 w5 ⟨rfl, hA5, hC5⟩
      go_wp2_with fail
      go_ret
      refine ⟨?_, ?_, ?_⟩
      · rw [HR4.out]; rfl
      · rw [HR4.out]; exact hA5
      · have hC34 := (hC3.mono (T := fun i => i ∈ (Tr.node b y l r h e).blocks) (fun i hi => by rw [Tr.blocks_node]; exact List.mem_cons_of_mem _ (List.mem_append_left _ hi))).trans (hC4.mono (T := fun i => i ∈ (Tr.node b y l r h e).blocks) (fun i hi => by rw [hi, Tr.blocks_node]; exact List.mem_cons_self ..)) (fun _ _ h => h)
        refine ((hC0V.trans hC34 (fun _ _ h => h)).trans hC5 (fun i hi hh => ?_))
        simp only [Tr.blocks_node, List.mem_cons, List.mem_append] at hh ⊢
        rcases hh with hh | hh
        · exact .inl hh
        · rcases hh with hh | hh
          · exact .inr (.inl (hmem _ hh))
          · exact .inr (.inr hh)
    · rw [cc]
      have HCC := Lib.hid cc
      clear cc
      by_cases hln : l = .nil
      · subst hln
        have c3 : V.cell? ⟨b, 3, none⟩ = some (.pointer none) := c3
        clear ihl ihr
        go_wp2_with fail
        go_ret
        refine ⟨?_, ?_, hC0V⟩
        · rw [Tr.rem_nil1 HCC.out]; rfl
        · rw [Tr.rem_nil1 HCC.out]; exact hrV
      obtain ⟨cl, hcl⟩ := ptr_ne hln
      rw [hcl] at c3
      by_cases hrn : r = .nil
      · subst hrn
        have c4 : V.cell? ⟨b, 4, none⟩ = some (.pointer none) := c4
        have HCL := Lib.hid hcl
        clear ihl ihr hcl
        go_wp2_with fail
        go_ret
        refine ⟨?_, ?_, hC0V⟩
        · rw [Tr.rem_nil2 HCC.out hln, HCL.out]; rfl
        · rw [Tr.rem_nil2 HCC.out hln]; exact hlV
      obtain ⟨cr, hcr⟩ := ptr_ne hrn
      rw [hcr] at c4
      obtain ⟨r2, hr2⟩ := Tr.fst_spec r hrn
      have hxr : r.fst ∈ r.items := by rw [hr2]; exact List.mem_cons_self ..
      have IH0 := Lib.hid (fun (w' : World) (h' : r.At w') => ihr r.fst w' h' hndr hrO hsr hxr (by omega))
      have CFI := Lib.hid (first_any r V hrV hrn)
      rw [hcr] at CFI
      have HCL := Lib.hid hcl
      have HCR := Lib.hid hcr
      have HR2 := Lib.hid hr2
      clear ihl ihr hcl hcr hr2
      go_wp2_with fail
      (with_reducible refine CFI.out.mono ?_)
      rintro e6 w6 ⟨rfl, hb6⟩
      clear CFI
      have hs6 := hb6.size
      have hX6 := (hb6.block b hbV).trans HROW.out
      have hl6 := hlV.below hb6
      have hr6 := hrV.below hb6
      obtain ⟨q0, q1, q2, q3, q4, q5, q6, q7, q8, q9⟩ := three_store w6 b (.int .i64 y.fr) (.int .i64 y.to) (.int .i64 y.id) (.int .i64 r.fst.fr) (.int .i64 r.fst.to) (.int .i64 r.fst.id) _ _ hX6 rfl rfl rfl
      have hX7a := heap_setCell_same _ b 2 _ _ (.int .i64 r.fst.id) (heap_setCell_same _ b 1 _ _ (.int .i64 r.fst.to) (heap_setCell_same w6 b 0 _ _ (.int .i64 r.fst.fr) hX6))
      have hX7 : (((w6.setCell ⟨b, 0, none⟩ (.int .i64 r.fst.fr)).setCell ⟨b, 1, none⟩ (.int .i64 r.fst.to)).setCell ⟨b, 2, none⟩ (.int .i64 r.fst.id)).heap[b]? = some (.cells (nodeC r.fst l r h e) 69 (0, 0)) := hX7a
      have hl7 := hl6.chgIn q9 (fun i hi => hi ▸ hbl)
      have hr7 := hr6.chgIn q9 (fun i hi => hi ▸ hbr)
      have hC07 : Chg (· ∈ (Tr.node b y l r h e).blocks) w (((w6.setCell ⟨b, 0, none⟩ (.int .i64 r.fst.fr)).setCell ⟨b, 1, none⟩ (.int .i64 r.fst.to)).setCell ⟨b, 2, none⟩ (.int .i64 r.fst.id)) := (hC0V.then_below hb6).trans (q9.mono (T := (· ∈ (Tr.node b y l r h e).blocks)) (fun i hi => by rw [hi, Tr.blocks_node]; exact List.mem_cons_self ..)) (fun _ _ h => h)
      have hs7 := q9.size
      have hV0 := hbV0.size
      have hVs := hsc
      clear q6 q7 q8 hX7a c3 c4 d0 d1 d2 HROW hlV hrV hC0V hbV0 hbV hX6 hl6 hr6 hb6
      go_wp2_with fail
      clear q0 q1 q2 q3 q4 q5 q9
      generalize ((w6.setCell ⟨b, 0, none⟩ (.int .i64 r.fst.fr)).setCell ⟨b, 1, none⟩ (.int .i64 r.fst.to)).setCell ⟨b, 2, none⟩ (.int .i64 r.fst.id) = V7 at *
      have hsV : w.heap.size + 1 ≤ V7.heap.size := by omega
      clear hs7 hs6 hVs hV0 hsc hsW hbW
      have hltw := hltr
      have hbV7 := (Array.getElem?_eq_some_iff.1 hX7).1
      have c4 : V7.cell? ⟨b, 4, none⟩ = some (.pointer r.pa) := cell_of_row _ _ 4 _ _ _ hX7
      have i0 : V7.cell? ⟨b, 0, none⟩ = some (.int .i64 r.fst.fr) := cell_of_row _ _ 0 _ _ _ hX7
      have i1 : V7.cell? ⟨b, 1, none⟩ = some (.int .i64 r.fst.to) := cell_of_row _ _ 1 _ _ _ hX7
      have i2 : V7.cell? ⟨b, 2, none⟩ = some (.int .i64 r.fst.id) := cell_of_row _ _ 2 _ _ _ hX7
      have HROW7 := Lib.hid hX7
      clear hX7
      refine wp_region_noPanic ?_
      refine beginT (S := (fun w' => w'.heap[b]? = V7.heap[b]? ∧ w'.heap[w.heap.size]? = V7.heap[w.heap.size]?)) 12 (by kernel_rfl) ?_ (fun hHeld => ?_)
      · exact ⟨rfl, rfl⟩
      refine takeT 0 (some 17) (v := ?_) rfl rfl (by kernel_rfl) (by kernel_rfl) (by kernel_rfl) (by kernel_rfl) (by rfl) hHeld (fun _ _ _ h => h) ?_ ?_
      rotate_left
      · intro w' hSw; (try dsimp only at hSw); go_simp <;> with_reducible rfl
      simp only [Act.put, List.setIfInBounds_toArray, List.set_cons_zero, List.set_cons_succ]
      refine takeT 1 (some 18) (v := ?_) rfl rfl (by kernel_rfl) (by kernel_rfl) (by kernel_rfl) (by kernel_rfl) (by rfl) hHeld (fun _ _ _ h => h) ?_ ?_
      rotate_left
      · intro w' hSw; (try dsimp only at hSw); go_simp <;> with_reducible rfl
      simp only [Act.put, List.setIfInBounds_toArray, List.set_cons_zero, List.set_cons_succ]
      refine takeT 2 (some 19) (v := ?_) rfl rfl (by kernel_rfl) (by kernel_rfl) (by kernel_rfl) (by kernel_rfl) (by rfl) hHeld (fun _ _ _ h => h) ?_ ?_
      rotate_left
      · intro w' hSw; (try dsimp only at hSw); go_simp <;> with_reducible rfl
      simp only [Act.put, List.setIfInBounds_toArray, List.set_cons_zero, List.set_cons_succ]
      refine takeT 3 (some 20) (v := ?_) rfl rfl (by kernel_rfl) (by kernel_rfl) (by kernel_rfl) (by kernel_rfl) (by rfl) hHeld (fun _ _ _ h => h) ?_ ?_
      rotate_left
      · intro w' hSw; (try dsimp only at hSw); go_simp <;> with_reducible rfl
      simp only [Act.put, List.setIfInBounds_toArray, List.set_cons_zero, List.set_cons_succ]
      refine takeT 4 (some 21) (v := ?_) rfl rfl (by kernel_rfl) (by kernel_rfl) (by kernel_rfl) (by kernel_rfl) (by rfl) hHeld (fun _ _ _ h => h) ?_ ?_
      rotate_left
      · intro w' hSw; (try dsimp only at hSw); have q0 := (World.cell?_of_block (w := V7) (a := ⟨b, 4, none⟩) hSw.1).trans c4; go_simp <;> with_reducible rfl
      simp only [Act.put, List.setIfInBounds_toArray, List.set_cons_zero, List.set_cons_succ]
      refine takeT 5 (some 22) (v := ?_) rfl rfl (by kernel_rfl) (by kernel_rfl) (by kernel_rfl) (by kernel_rfl) (by rfl) hHeld (fun _ _ _ h => h) ?_ ?_
      rotate_left
      · intro w' hSw; (try dsimp only at hSw); go_simp <;> with_reducible rfl
      simp only [Act.put, List.setIfInBounds_toArray, List.set_cons_zero, List.set_cons_succ]
      refine takeT 6 (some 23) (v := ?_) rfl rfl (by kernel_rfl) (by kernel_rfl) (by kernel_rfl) (by kernel_rfl) (by rfl) hHeld (fun _ _ _ h => h) ?_ ?_
      rotate_left
      · intro w' hSw; (try dsimp only at hSw); go_simp <;> with_reducible rfl
      simp only [Act.put, List.setIfInBounds_toArray, List.set_cons_zero, List.set_cons_succ]
      refine takeT 7 (some 24) (v := ?_) rfl rfl (by kernel_rfl) (by kernel_rfl) (by kernel_rfl) (by kernel_rfl) (by rfl) hHeld (fun _ _ _ h => h) ?_ ?_
      rotate_left
      · intro w' hSw; (try dsimp only at hSw); go_simp <;> with_reducible rfl
      simp only [Act.put, List.setIfInBounds_toArray, List.set_cons_zero, List.set_cons_succ]
      refine takeT 8 (some 25) (v := ?_) rfl rfl (by kernel_rfl) (by kernel_rfl) (by kernel_rfl) (by kernel_rfl) (by rfl) hHeld (fun _ _ _ h => h) ?_ ?_
      rotate_left
      · intro w' hSw; (try dsimp only at hSw); have q0 := (World.cell?_of_block (w := V7) (a := ⟨b, 0, none⟩) hSw.1).trans i0; have q1 := (World.cell?_of_block (w := V7) (a := ⟨b, 1, none⟩) hSw.1).trans i1; have q2 := (World.cell?_of_block (w := V7) (a := ⟨b, 2, none⟩) hSw.1).trans i2; go_simp <;> with_reducible rfl
      simp only [Act.put, List.setIfInBounds_toArray, List.set_cons_zero, List.set_cons_succ]
      refine callT 9 (some 26) (f := ?_) (args := ?_) rfl rfl (by kernel_rfl) (by rfl) ?_ ?_
      rotate_left 2
      · go_simp <;> first | (constructor <;> with_reducible rfl) | with_reducible rfl
      (with_reducible refine (IH0.out V7.drew hr7.drew).mono ?_)
      rintro e3 w3 ⟨rfl, hI3, hC3'⟩
      have hC3 : Chg (· ∈ r.blocks) V7 w3 := hC3'.undrew
      clear hC3'
      have hs3 := hC3.size
      have hX3 := (hC3.block b hbV7 hbr).trans HROW7.out
      have g3 : w3.cell? ⟨b, 4, none⟩ = some (.pointer r.pa) := cell_of_row _ _ 4 _ _ _ hX3
      have g4 := frozen_of_row w3 b 4 _ _ hX3
      refine ⟨_, rfl, keepAnd ?_ (fun hNew => ?_)⟩
      · intro _; exact ⟨hC3.block b hbV7 hbr, hC3.block w.heap.size (by omega) (fun h => by have := hltw _ h; omega)⟩
      have hNew := hNew (by decide)
      clear hHeld
      have hHeld := hNew
      clear hNew
      simp only [Act.put, List.setIfInBounds_toArray, List.set_cons_zero, List.set_cons_succ]
      refine runT 10 (some 27) (v := ?_) (w' := _) rfl rfl (by kernel_rfl) (by rfl) ?_ (fun _ => hHeld) ?_
      rotate_left
      · go_simp <;> with_reducible rfl
      simp only [Act.put, List.setIfInBounds_toArray, List.set_cons_zero, List.set_cons_succ]
      refine takeT 11 (some 28) (v := ?_) rfl rfl (by kernel_rfl) (by kernel_rfl) (by kernel_rfl) (by kernel_rfl) (by rfl) hHeld (fun _ _ _ h => h) ?_ ?_
      rotate_left
      · intro w' hSw; (try dsimp only at hSw); go_simp <;> with_reducible rfl
      simp only [Act.put, List.setIfInBounds_toArray, List.set_cons_zero, List.set_cons_succ]
      refine skipRunT 12 none (w' := w3.setCell ⟨b, 4, none⟩ (.pointer (Tr.rem r r.fst).pa)) rfl rfl (by kernel_rfl) (by rfl) ?_ (fun h => absurd rfl h) ?_
      · go_simp <;> with_reducible rfl
      clear hHeld
      simp only [Act.put]
      refine doneT (by kernel_rfl) ?_ _
      refine NoPanic.normal ?_
      obtain ⟨g1, g2, g5, g6, cc7, g7⟩ := Tr.rem_spec r hrO hsr r.fst hxr
      have hX4 := heap_setCell_same w3 b 4 _ _ (.pointer (Tr.rem r r.fst).pa) hX3
      have hC4 : Chg (· = b) w3 (w3.setCell ⟨b, 4, none⟩ (.pointer (Tr.rem r r.fst).pa)) := Chg.setCell (S := (· = b)) (Chg.refl _ _) (.inl rfl) _
      have hcnt := fun a => List.perm_iff_count.1 g7 a
      have hmem : ∀ c, c ∈ (Tr.rem r r.fst).blocks → c ∈ r.blocks := fun c hc => by rw [g7.mem_iff]; exact List.mem_cons_of_mem _ hc
      have hnd5 : (cc7 :: (Tr.node b r.fst l (Tr.rem r r.fst) h e).blocks).Nodup := by
        refine nd_perm hn (fun a => ?_)
        have := hcnt a
        simp only [Tr.blocks_node, List.count_cons, List.count_append] at *
        omega
      have hnd4 := (List.nodup_cons.1 hnd5).2
      obtain ⟨k1, k2, _, _, _⟩ := nd_node hnd4
      have ht3 := hl7.chg hC3 (fun c hc hc2 => hdis c hc hc2)
      have hA4 : (Tr.node b r.fst l (Tr.rem r r.fst) h e).At (w3.setCell ⟨b, 4, none⟩ (.pointer (Tr.rem r r.fst).pa)) := ⟨hX4, ht3.chgIn hC4 (fun i hi => hi ▸ k1), hI3.chgIn hC4 (fun i hi => hi ▸ k2)⟩
      have CB := Lib.hid (bal_any b r.fst l (Tr.rem r r.fst) h e _ hA4 hnd4 hlO g1 (by omega) (by omega) (by omega) (by omega))
      clear hcnt g3 g4
      have HR4 : Hid (Tr.rem (Tr.node b y l r h e) x = Tr.bal b r.fst l (Tr.rem r r.fst)) := Lib.hid (Tr.rem_both HCC.out hln hrn)
      go_wp2_with fail
      (with_reducible refine CB.out.mono ?_)
      rintro e5 w5 ⟨rfl, hA5, hC5⟩
      go_wp2_with fail
      go_ret
      refine ⟨?_, ?_, ?_⟩
      · rw [HR4.out]; rfl
      · rw [HR4.out]; exact hA5
      · have hC34 := (hC3.mono (T := fun i => i ∈ (Tr.node b y l r h e).blocks) (fun i hi => by rw [Tr.blocks_node]; exact List.mem_cons_of_mem _ (List.mem_append_right _ hi))).trans (hC4.mono (T := fun i => i ∈ (Tr.node b y l r h e).blocks) (fun i hi => by rw [hi, Tr.blocks_node]; exact List.mem_cons_self ..)) (fun _ _ h => h)
        refine ((hC07.trans hC34 (fun _ _ h => h)).trans hC5 (fun i hi hh => ?_))
        simp only [Tr.blocks_node, List.mem_cons, List.mem_append] at hh ⊢
        rcases hh with hh | hh
        · exact .inl hh
        · rcases hh with hh | hh
          · exact .inr (.inl hh)
          · exact .inr (.inr (hmem _ hh))
end Go.Proofs.Ytkocehfapcmiiaa
