/-
  Trees: adding and removing periods.
-/
import Derived.Test.YtkocehfapcmiiaaTreeG
namespace Go.Proofs.Ytkocehfapcmiiaa
open Go.RowKit Go.Lib Go.IntWalk

def vldP (p q : Int) : Bool := decide (0 ≤ p ∧ p < q ∧ q ≤ 1099511627776)
set_option maxHeartbeats 1000000 in
theorem pvalid_any (p q : Int) (w : World) : Calls Try.prog 25 #[perV p q] w fun e w' => e = .returned (.bool (vldP p q)) ∧ Below w.heap.size w w' := by
  have h0 : vldP p q = true ↔ 0 ≤ p ∧ p < q ∧ q ≤ 1099511627776 := by unfold vldP; exact decide_eq_true_iff
  generalize hv : vldP p q = v at *
  have H0 := Lib.hid h0
  clear hv h0
  have hbb : Below w.heap.size w (w.alloc (.cells #[.int .i64 p, .int .i64 q] 28)) := Below.of_alloc _
  have HB := Lib.hid hbb
  clear hbb
  by_cases h1 : 0 ≤ p
  · by_cases h2 : p < q
    · by_cases h3 : q ≤ 1099511627776
      · obtain rfl : v = true := H0.out.2 ⟨h1, h2, h3⟩
        go_enter Try.func25, Try.ntmps25
        go_wp2_with fail
        go_ret
        exact ⟨rfl, HB.out⟩
      · obtain rfl : v = false := by cases v; rfl; exact absurd (H0.out.1 rfl).2.2 h3
        go_enter Try.func25, Try.ntmps25
        go_wp2_with fail
        go_ret
        exact ⟨rfl, HB.out⟩
    · obtain rfl : v = false := by cases v; rfl; exact absurd (H0.out.1 rfl).2.1 h2
      go_enter Try.func25, Try.ntmps25
      go_wp2_with fail
      go_ret
      exact ⟨rfl, HB.out⟩
  · obtain rfl : v = false := by cases v; rfl; exact absurd (H0.out.1 rfl).1 h1
    go_enter Try.func25, Try.ntmps25
    go_wp2_with fail
    go_ret
    exact ⟨rfl, HB.out⟩

/-- the blocks of a tree -/
def fp (T : Nat) (t : Tr) (i : Nat) : Prop := i = T ∨ i ∈ t.blocks
theorem Tr.Ok.ht_le : ∀ {t : Tr}, t.Ok → t.ht ≤ (t.items.length : Int)
  | .nil, _ => by simp [Tr.ht, Tr.items]
  | .node b x l r h e, ⟨h1, h2, h3, h4, hl, hr⟩ => by
    have := Tr.Ok.ht_le hl
    have := Tr.Ok.ht_le hr
    rw [Tr.ht_node, Tr.items_node, List.length_append, List.length_cons]
    omega
theorem TreeIs.chg {w w' : World} {S : Nat → Prop} {T : Nat} {t : Tr} (h : TreeIs w T t) (hc : Chg S w w') (hs : ∀ i, fp T t i → ¬ S i) : TreeIs w' T t := by
  obtain ⟨h1, h2, h3, h4, h5, h6⟩ := h
  exact ⟨(hc.block T (Array.getElem?_eq_some_iff.1 h1).1 (hs T (.inl rfl))).trans h1, h2.chg hc (fun c hc' => hs c (.inr hc')), h3, h4, h5, h6⟩
theorem TreeIs.below {w w' : World} {T : Nat} {t : Tr} (h : TreeIs w T t) (hb : Below w.heap.size w w') : TreeIs w' T t := h.chg (Chg.of_below hb None_) (fun _ _ h => h)
theorem TreeIs.lt {w : World} {T : Nat} {t : Tr} (h : TreeIs w T t) : ∀ i, fp T t i → i < w.heap.size := by
  rintro i (rfl | hi)
  · exact (Array.getElem?_eq_some_iff.1 h.1).1
  · exact h.2.1.lt i hi
/-- what an operation on a tree leaves -/
def OpOut (T : Nat) (t : Tr) (l : List It) (v : Bool) (w0 : World) (e : Ending) (w : World) : Prop :=
  ∃ t' : Tr, e = .returned (.bool v) ∧ TreeIs w T t' ∧ t'.items = l ∧ Chg (fp T t) w0 w ∧ (∀ i, fp T t' i → fp T t i ∨ w0.heap.size ≤ i)
theorem opOut_same {T : Nat} {t : Tr} {w0 w : World} (h : TreeIs w0 T t) (hb : Below w0.heap.size w0 w) : OpOut T t t.items false w0 (.returned (.bool false)) w :=
  ⟨t, rfl, h.below hb, rfl, Chg.of_below hb _, fun _ h => .inl h⟩
def addF (x : It) (l : List It) : List It := if vldP x.fr x.to = true ∧ x ∉ l then insF x l else l
def addB (x : It) (l : List It) : Bool := decide (vldP x.fr x.to = true ∧ x ∉ l)

set_option maxRecDepth 100000 in
set_option maxHeartbeats 2000000 in
theorem tadd_any (T : Nat) (t : Tr) (p q id : Int) (w : World) (hTr : TreeIs w T t) (hlen : t.items.length ≤ 1099511620000) :
    Calls Try.prog 11 #[.pointer (some ⟨T, 0, none⟩), perV p q, .int .i64 id] w (OpOut T t (addF ⟨p, q, id⟩ t.items) (addB ⟨p, q, id⟩ t.items) w) := by
  obtain ⟨W, hW⟩ : ∃ W, W = (w.alloc (.cells #[.int .i64 p, .int .i64 q] 28)).alloc (.cells #[.int .i64 p, .int .i64 q, .int .i64 id] 30) := ⟨_, rfl⟩
  have hbW : Below w.heap.size w W := by rw [hW]; exact (Below.of_alloc _).trans ((Below.of_alloc _).mono (by simp))
  have hsW : W.heap.size = w.heap.size + 2 := by rw [hW]; simp
  have hPW : W.heap[w.heap.size]? = some (.cells #[.int .i64 p, .int .i64 q] 28 (0, 0)) := by rw [hW, Below.heap_alloc _ _ _ (by simp)]; exact heap_alloc_new w _
  have hDW : W.heap[w.heap.size + 1]? = some (.cells #[.int .i64 p, .int .i64 q, .int .i64 id] 30 (0, 0)) := by
    have := heap_alloc_new (w.alloc (.cells #[.int .i64 p, .int .i64 q] 28)) (.cells #[.int .i64 p, .int .i64 q, .int .i64 id] 30)
    rw [hW]; simpa using this
  have y0 : W.cell? ⟨w.heap.size, 0, none⟩ = some (.int .i64 p) := cell_of_row _ _ 0 _ _ _ hPW
  have y1 : W.cell? ⟨w.heap.size, 1, none⟩ = some (.int .i64 q) := cell_of_row _ _ 1 _ _ _ hPW
  have z0 : W.cell? ⟨w.heap.size + 1, 0, none⟩ = some (.int .i64 p) := cell_of_row _ _ 0 _ _ _ hDW
  have z1 : W.cell? ⟨w.heap.size + 1, 1, none⟩ = some (.int .i64 q) := cell_of_row _ _ 1 _ _ _ hDW
  have z2 : W.cell? ⟨w.heap.size + 1, 2, none⟩ = some (.int .i64 id) := cell_of_row _ _ 2 _ _ _ hDW
  have hTW := hTr.below hbW
  have CV := Lib.hid (pvalid_any p q W)
  cases hv : vldP p q with
  | false =>
    have hr1 : addF ⟨p, q, id⟩ t.items = t.items := if_neg (fun h => by simp [hv] at h)
    have hr2 : addB ⟨p, q, id⟩ t.items = false := decide_eq_false (fun h => by simp [hv] at h)
    rw [hr1, hr2]
    rw [hv] at CV
    clear hr1 hr2 hv
    rw [hW] at y0 y1
    have HW := Lib.hid hW
    clear hW
    go_enter Try.func11, Try.ntmps11
    go_wp2_with fail
    rw [← HW.out]
    (with_reducible refine CV.out.mono ?_)
    rintro e1 w1 ⟨rfl, hb1⟩
    go_wp2_with fail
    go_ret
    exact opOut_same hTr (hbW.trans (hb1.mono (by omega)))
  | true =>
  rw [hv] at CV
  cases hm : decide ((⟨p, q, id⟩ : It) ∈ t.items) with
  | true =>
    have hr1 : addF ⟨p, q, id⟩ t.items = t.items := if_neg (fun h => h.2 (of_decide_eq_true hm))
    have hr2 : addB ⟨p, q, id⟩ t.items = false := decide_eq_false (fun h => h.2 (of_decide_eq_true hm))
    rw [hr1, hr2]
    clear hr1 hr2
    rw [hW] at y0 y1
    have HW := Lib.hid hW
    clear hW
    go_enter Try.func11, Try.ntmps11
    go_wp2_with fail
    rw [← HW.out]
    (with_reducible refine CV.out.mono ?_)
    rintro e1 w1 ⟨rfl, hb1⟩
    clear CV
    have hs1 := hb1.size
    have hT1 := hTW.below hb1
    have u0 := (hb1.cell (p := ⟨w.heap.size + 1, 0, none⟩) (show w.heap.size + 1 < W.heap.size by omega)).trans z0
    have u1 := (hb1.cell (p := ⟨w.heap.size + 1, 1, none⟩) (show w.heap.size + 1 < W.heap.size by omega)).trans z1
    have u2 := (hb1.cell (p := ⟨w.heap.size + 1, 2, none⟩) (show w.heap.size + 1 < W.heap.size by omega)).trans z2
    have CH := Lib.hid (has_any T t ⟨p, q, id⟩ w1 hT1)
    rw [hm] at CH
    go_wp2_with fail
    (with_reducible refine CH.out.mono ?_)
    rintro e2 V ⟨rfl, hb2⟩
    clear CH
    go_wp2_with fail
    go_ret
    exact opOut_same hTr ((hbW.trans (hb1.mono (by omega))).trans (hb2.mono (by omega)))
  | false =>
  have hx : (⟨p, q, id⟩ : It) ∉ t.items := of_decide_eq_false hm
  have hr1 : addF ⟨p, q, id⟩ t.items = insF ⟨p, q, id⟩ t.items := if_pos ⟨hv, hx⟩
  have hr2 : addB ⟨p, q, id⟩ t.items = true := decide_eq_true ⟨hv, hx⟩
  rw [hr1, hr2]
  clear hr1 hr2
  rw [hW] at y0 y1
  have HW := Lib.hid hW
  clear hW
  go_enter Try.func11, Try.ntmps11
  go_wp2_with fail
  rw [← HW.out]
  (with_reducible refine CV.out.mono ?_)
  rintro e1 w1 ⟨rfl, hb1⟩
  clear CV
  have hs1 := hb1.size
  have hT1 := hTW.below hb1
  have u0 := (hb1.cell (p := ⟨w.heap.size + 1, 0, none⟩) (show w.heap.size + 1 < W.heap.size by omega)).trans z0
  have u1 := (hb1.cell (p := ⟨w.heap.size + 1, 1, none⟩) (show w.heap.size + 1 < W.heap.size by omega)).trans z1
  have u2 := (hb1.cell (p := ⟨w.heap.size + 1, 2, none⟩) (show w.heap.size + 1 < W.heap.size by omega)).trans z2
  have CH := Lib.hid (has_any T t ⟨p, q, id⟩ w1 hT1)
  rw [hm] at CH
  go_wp2_with fail
  (with_reducible refine CH.out.mono ?_)
  rintro e2 V ⟨rfl, hb2⟩
  clear CH
  have hs2 := hb2.size
  have hbV : Below w.heap.size w V := (hbW.trans (hb1.mono (by omega))).trans (hb2.mono (by omega))
  have hDV := ((hb1.trans (hb2.mono hs1)).block (w.heap.size + 1) (by omega)).trans hDW
  have d0 : V.cell? ⟨w.heap.size + 1, 0, none⟩ = some (.int .i64 p) := cell_of_row _ _ 0 _ _ _ hDV
  have d1 : V.cell? ⟨w.heap.size + 1, 1, none⟩ = some (.int .i64 q) := cell_of_row _ _ 1 _ _ _ hDV
  have d2 : V.cell? ⟨w.heap.size + 1, 2, none⟩ = some (.int .i64 id) := cell_of_row _ _ 2 _ _ _ hDV
  have hltw := hTr.lt
  have hltb : ∀ c ∈ t.blocks, c < w.heap.size := fun c hc => hltw c (.inr hc)
  have hTVx := hTr.below hbV
  obtain ⟨hXV, hAV, hnd, hT, hO, hs⟩ := hTVx
  have hTV := (Array.getElem?_eq_some_iff.1 hXV).1
  have t0 : V.cell? ⟨T, 0, none⟩ = some (.pointer t.pa) := cell_of_row _ _ 0 _ _ _ hXV
  have HROW := Lib.hid hXV
  have hh := hO.ht_le
  have IH := Lib.hid (fun (w' : World) (h' : t.At w') => insert_any ⟨p, q, id⟩ t w' h' hnd hO hs hx (by omega))
  have hTw : T < w.heap.size := hltw T (.inl rfl)
  have hDl : w.heap.size + 1 < V.heap.size := by omega
  clear hXV hDV hPW hDW hb2 hTW u0 u1 u2 z0 z1 z2 y0 y1 hb1 hT1 hv hm
  have hXB : ∀ c ∈ t.blocks, c ≠ w.heap.size + 1 := fun c hc => by have := hltb c hc; omega
  have hXBl : w.heap.size < w.heap.size + 1 := by omega
  generalize hXBe : w.heap.size + 1 = XB at *
  have HXB := Lib.hid hXBe
  clear hXBe
  go_wp2_with fail
  refine wp_region_noPanic ?_
  refine beginT (S := (fun w' => w'.heap[T]? = V.heap[T]? ∧ w'.heap[XB]? = V.heap[XB]?)) 9 (by kernel_rfl) ?_ (fun hHeld => ?_)
  · exact ⟨rfl, rfl⟩
  refine takeT 0 (some 23) (v := ?_) rfl rfl (by kernel_rfl) (by kernel_rfl) (by kernel_rfl) (by kernel_rfl) (by rfl) hHeld (fun _ _ _ h => h) ?_ ?_
  rotate_left
  · intro w' hSw; (try dsimp only at hSw); go_simp <;> with_reducible rfl
  simp only [Act.put, List.setIfInBounds_toArray, List.set_cons_zero, List.set_cons_succ]
  refine takeT 1 (some 24) (v := ?_) rfl rfl (by kernel_rfl) (by kernel_rfl) (by kernel_rfl) (by kernel_rfl) (by rfl) hHeld (fun _ _ _ h => h) ?_ ?_
  rotate_left
  · intro w' hSw; (try dsimp only at hSw); go_simp <;> with_reducible rfl
  simp only [Act.put, List.setIfInBounds_toArray, List.set_cons_zero, List.set_cons_succ]
  refine takeT 2 (some 25) (v := ?_) rfl rfl (by kernel_rfl) (by kernel_rfl) (by kernel_rfl) (by kernel_rfl) (by rfl) hHeld (fun _ _ _ h => h) ?_ ?_
  rotate_left
  · intro w' hSw; (try dsimp only at hSw); go_simp <;> with_reducible rfl
  simp only [Act.put, List.setIfInBounds_toArray, List.set_cons_zero, List.set_cons_succ]
  refine takeT 3 (some 26) (v := ?_) rfl rfl (by kernel_rfl) (by kernel_rfl) (by kernel_rfl) (by kernel_rfl) (by rfl) hHeld (fun _ _ _ h => h) ?_ ?_
  rotate_left
  · intro w' hSw; (try dsimp only at hSw); go_simp <;> with_reducible rfl
  simp only [Act.put, List.setIfInBounds_toArray, List.set_cons_zero, List.set_cons_succ]
  refine takeT 4 (some 27) (v := ?_) rfl rfl (by kernel_rfl) (by kernel_rfl) (by kernel_rfl) (by kernel_rfl) (by rfl) hHeld (fun _ _ _ h => h) ?_ ?_
  rotate_left
  · intro w' hSw; (try dsimp only at hSw); have q0 := (World.cell?_of_block (w := V) (a := ⟨T, 0, none⟩) hSw.1).trans t0; go_simp <;> with_reducible rfl
  simp only [Act.put, List.setIfInBounds_toArray, List.set_cons_zero, List.set_cons_succ]
  refine takeT 5 (some 28) (v := ?_) rfl rfl (by kernel_rfl) (by kernel_rfl) (by kernel_rfl) (by kernel_rfl) (by rfl) hHeld (fun _ _ _ h => h) ?_ ?_
  rotate_left
  · intro w' hSw; (try dsimp only at hSw); have q0 := (World.cell?_of_block (w := V) (a := ⟨XB, 0, none⟩) hSw.2).trans d0; have q1 := (World.cell?_of_block (w := V) (a := ⟨XB, 1, none⟩) hSw.2).trans d1; have q2 := (World.cell?_of_block (w := V) (a := ⟨XB, 2, none⟩) hSw.2).trans d2; go_simp <;> with_reducible rfl
  simp only [Act.put, List.setIfInBounds_toArray, List.set_cons_zero, List.set_cons_succ]
  refine callT 6 (some 29) (f := ?_) (args := ?_) rfl rfl (by kernel_rfl) (by rfl) ?_ ?_
  rotate_left 2
  · go_simp <;> first | (constructor <;> with_reducible rfl) | with_reducible rfl
  (with_reducible refine (IH.out V.drew hAV.drew).mono ?_)
  rintro e3 w3 ⟨nb, hnb, rfl, hI3, hC3'⟩
  have hC3 : Chg (· ∈ t.blocks) V w3 := hC3'.undrew
  clear hC3'
  have hnb : V.heap.size ≤ nb := hnb
  have hs3 := hC3.size
  have hX3 := (hC3.block T hTV hT).trans HROW.out
  have g3 : w3.cell? ⟨T, 0, none⟩ = some (.pointer t.pa) := cell_of_row _ _ 0 _ _ _ hX3
  have g4 := frozen_of_row w3 T 0 _ _ hX3
  refine ⟨_, rfl, keepAnd ?_ (fun hNew => ?_)⟩
  · intro _; exact ⟨hC3.block T hTV hT, hC3.block XB (by omega) (fun h => by have := hltb _ h; omega)⟩
  have hNew := hNew (by decide)
  clear hHeld
  have hHeld := hNew
  clear hNew
  simp only [Act.put, List.setIfInBounds_toArray, List.set_cons_zero, List.set_cons_succ]
  refine runT 7 (some 30) (v := ?_) (w' := _) rfl rfl (by kernel_rfl) (by rfl) ?_ (fun _ => hHeld) ?_
  rotate_left
  · go_simp <;> with_reducible rfl
  simp only [Act.put, List.setIfInBounds_toArray, List.set_cons_zero, List.set_cons_succ]
  refine takeT 8 (some 31) (v := ?_) rfl rfl (by kernel_rfl) (by kernel_rfl) (by kernel_rfl) (by kernel_rfl) (by rfl) hHeld (fun _ _ _ h => h) ?_ ?_
  rotate_left
  · intro w' hSw; (try dsimp only at hSw); go_simp <;> with_reducible rfl
  simp only [Act.put, List.setIfInBounds_toArray, List.set_cons_zero, List.set_cons_succ]
  refine skipRunT 9 none (w' := w3.setCell ⟨T, 0, none⟩ (.pointer (Tr.ins nb ⟨p, q, id⟩ t).pa)) rfl rfl (by kernel_rfl) (by rfl) ?_ (fun h => absurd rfl h) ?_
  · go_simp <;> with_reducible rfl
  clear hHeld
  simp only [Act.put]
  refine doneT (by kernel_rfl) ?_ _
  refine NoPanic.normal ?_
  have hX4 := heap_setCell_same w3 T 0 _ _ (.pointer (Tr.ins nb ⟨p, q, id⟩ t).pa) hX3
  have hX4' : (w3.setCell ⟨T, 0, none⟩ (.pointer (Tr.ins nb ⟨p, q, id⟩ t).pa)).heap[T]? = some (.cells #[.pointer (Tr.ins nb ⟨p, q, id⟩ t).pa, .int .i64 (t.items.length : Int)] 57 (0, 0)) := hX4
  have hC4 : Chg (· = T) w3 (w3.setCell ⟨T, 0, none⟩ (.pointer (Tr.ins nb ⟨p, q, id⟩ t).pa)) := Chg.setCell (S := (· = T)) (Chg.refl _ _) (.inl rfl) _
  have g5 : (w3.setCell ⟨T, 0, none⟩ (.pointer (Tr.ins nb ⟨p, q, id⟩ t).pa)).cell? ⟨T, 1, none⟩ = some (.int .i64 (t.items.length : Int)) := cell_of_row _ _ 1 _ _ _ hX4'
  have g6 := frozen_of_row _ T 1 _ _ hX4'
  obtain ⟨s1, s2, s3, s4, s5⟩ := Tr.ins_spec nb ⟨p, q, id⟩ t hO hs hx
  have hln := len_insF hx
  have hsrt : srtI (insF ⟨p, q, id⟩ t.items) := srt_insF hs
  have hmem : ∀ c, c ∈ (Tr.ins nb ⟨p, q, id⟩ t).blocks → c = nb ∨ c ∈ t.blocks := fun c hc => by rw [s5.mem_iff, List.mem_cons] at hc; exact hc
  have hnd' : (Tr.ins nb ⟨p, q, id⟩ t).blocks.Nodup := s5.nodup_iff.2 (List.nodup_cons.2 ⟨fun h => by have := hltb nb h; omega, hnd⟩)
  have hT' : T ∉ (Tr.ins nb ⟨p, q, id⟩ t).blocks := fun h => by
    rcases hmem T h with e | e
    · omega
    · exact hT e
  have HS2 := Lib.hid s2
  have HLN := Lib.hid hln
  clear s2 hln
  go_wp2_with fail
  go_ret
  have hX5 := heap_setCell_same _ T 1 _ _ (.int .i64 ((t.items.length : Int) + 1)) hX4'
  have hC5 : Chg (· = T) (w3.setCell ⟨T, 0, none⟩ (.pointer (Tr.ins nb ⟨p, q, id⟩ t).pa)) ((w3.setCell ⟨T, 0, none⟩ (.pointer (Tr.ins nb ⟨p, q, id⟩ t).pa)).setCell ⟨T, 1, none⟩ (.int .i64 ((t.items.length : Int) + 1))) := Chg.setCell (S := (· = T)) (Chg.refl _ _) (.inl rfl) _
  refine ⟨(Tr.ins nb ⟨p, q, id⟩ t), rfl, ⟨?_, (hI3.chgIn hC4 (fun i hi => hi ▸ hT')).chgIn hC5 (fun i hi => hi ▸ hT'), hnd', hT', s1, by rw [HS2.out]; exact hsrt⟩, HS2.out, ?_, ?_⟩
  · rw [HS2.out, show (((insF ⟨p, q, id⟩ t.items).length : Nat) : Int) = (t.items.length : Int) + 1 by have := HLN.out; omega]
    exact hX5
  · exact (((Chg.of_below hbV (fp T t)).trans (hC3.mono (T := fp T t) (fun i hi => .inr hi)) (fun _ _ h => h)).trans (hC4.mono (T := fp T t) (fun i hi => .inl hi)) (fun _ _ h => h)).trans (hC5.mono (T := fp T t) (fun i hi => .inl hi)) (fun _ _ h => h)
  · rintro i (rfl | hi)
    · exact .inl (.inl rfl)
    · rcases hmem i hi with e | e
      · right; have := hbV.size; omega
      · exact .inl (.inr e)

set_option maxRecDepth 100000 in
set_option maxHeartbeats 2000000 in
theorem trem_any (T : Nat) (t : Tr) (p q id : Int) (w : World) (hTr : TreeIs w T t) (hlen : t.items.length ≤ 1099511620000) :
    Calls Try.prog 19 #[.pointer (some ⟨T, 0, none⟩), perV p q, .int .i64 id] w (OpOut T t (remF ⟨p, q, id⟩ t.items) (decide ((⟨p, q, id⟩ : It) ∈ t.items)) w) := by
  obtain ⟨W, hW⟩ : ∃ W, W = (w.alloc (.cells #[.int .i64 p, .int .i64 q] 28)).alloc (.cells #[.int .i64 p, .int .i64 q, .int .i64 id] 30) := ⟨_, rfl⟩
  have hbW : Below w.heap.size w W := by rw [hW]; exact (Below.of_alloc _).trans ((Below.of_alloc _).mono (by simp))
  have hsW : W.heap.size = w.heap.size + 2 := by rw [hW]; simp
  have hPW : W.heap[w.heap.size]? = some (.cells #[.int .i64 p, .int .i64 q] 28 (0, 0)) := by rw [hW, Below.heap_alloc _ _ _ (by simp)]; exact heap_alloc_new w _
  have hDW : W.heap[w.heap.size + 1]? = some (.cells #[.int .i64 p, .int .i64 q, .int .i64 id] 30 (0, 0)) := by
    have := heap_alloc_new (w.alloc (.cells #[.int .i64 p, .int .i64 q] 28)) (.cells #[.int .i64 p, .int .i64 q, .int .i64 id] 30)
    rw [hW]; simpa using this
  have y0 : W.cell? ⟨w.heap.size, 0, none⟩ = some (.int .i64 p) := cell_of_row _ _ 0 _ _ _ hPW
  have y1 : W.cell? ⟨w.heap.size, 1, none⟩ = some (.int .i64 q) := cell_of_row _ _ 1 _ _ _ hPW
  have z0 : W.cell? ⟨w.heap.size + 1, 0, none⟩ = some (.int .i64 p) := cell_of_row _ _ 0 _ _ _ hDW
  have z1 : W.cell? ⟨w.heap.size + 1, 1, none⟩ = some (.int .i64 q) := cell_of_row _ _ 1 _ _ _ hDW
  have z2 : W.cell? ⟨w.heap.size + 1, 2, none⟩ = some (.int .i64 id) := cell_of_row _ _ 2 _ _ _ hDW
  have hTW := hTr.below hbW
  cases hm : decide ((⟨p, q, id⟩ : It) ∈ t.items) with
  | false =>
    have hr1 : remF ⟨p, q, id⟩ t.items = t.items := remF_not (of_decide_eq_false hm)
    rw [hr1]
    clear hr1
    have CH := Lib.hid (has_any T t ⟨p, q, id⟩ W hTW)
    rw [hm] at CH
    rw [hW] at z0 z1 z2
    have HW := Lib.hid hW
    clear hW
    go_enter Try.func19, Try.ntmps19
    go_wp2_with fail
    rw [← HW.out]
    have hb1 : Below W.heap.size W W := Below.refl _ _
    (with_reducible refine CH.out.mono ?_)
    rintro e2 V ⟨rfl, hb2⟩
    clear CH
    go_wp2_with fail
    go_ret
    exact opOut_same hTr ((hbW.trans (hb1.mono (by omega))).trans (hb2.mono (by omega)))
  | true =>
  have hx : (⟨p, q, id⟩ : It) ∈ t.items := of_decide_eq_true hm
  have CH := Lib.hid (has_any T t ⟨p, q, id⟩ W hTW)
  rw [hm] at CH
  rw [hW] at z0 z1 z2
  have HW := Lib.hid hW
  clear hW
  go_enter Try.func19, Try.ntmps19
  go_wp2_with fail
  rw [← HW.out]
  have hb1 : Below W.heap.size W W := Below.refl _ _
  (with_reducible refine CH.out.mono ?_)
  rintro e2 V ⟨rfl, hb2⟩
  clear CH
  have hs2 := hb2.size
  have hbV : Below w.heap.size w V := (hbW.trans (hb1.mono (by omega))).trans (hb2.mono (by omega))
  have hDV := ((hb1.trans (hb2.mono (Nat.le_refl _))).block (w.heap.size + 1) (by omega)).trans hDW
  have d0 : V.cell? ⟨w.heap.size + 1, 0, none⟩ = some (.int .i64 p) := cell_of_row _ _ 0 _ _ _ hDV
  have d1 : V.cell? ⟨w.heap.size + 1, 1, none⟩ = some (.int .i64 q) := cell_of_row _ _ 1 _ _ _ hDV
  have d2 : V.cell? ⟨w.heap.size + 1, 2, none⟩ = some (.int .i64 id) := cell_of_row _ _ 2 _ _ _ hDV
  have hltw := hTr.lt
  have hltb : ∀ c ∈ t.blocks, c < w.heap.size := fun c hc => hltw c (.inr hc)
  have hTVx := hTr.below hbV
  obtain ⟨hXV, hAV, hnd, hT, hO, hs⟩ := hTVx
  have hTV := (Array.getElem?_eq_some_iff.1 hXV).1
  have t0 : V.cell? ⟨T, 0, none⟩ = some (.pointer t.pa) := cell_of_row _ _ 0 _ _ _ hXV
  have HROW := Lib.hid hXV
  have hh := hO.ht_le
  have IH := Lib.hid (fun (w' : World) (h' : t.At w') => remove_any t ⟨p, q, id⟩ w' h' hnd hO hs hx (by omega))
  have hTw : T < w.heap.size := hltw T (.inl rfl)
  have hDl : w.heap.size + 1 < V.heap.size := by omega
  clear hXV hDV hPW hDW hb2 hTW z0 z1 z2 hb1 y0 y1 hm
  have hXB : ∀ c ∈ t.blocks, c ≠ w.heap.size + 1 := fun c hc => by have := hltb c hc; omega
  have hXBl : w.heap.size < w.heap.size + 1 := by omega
  generalize hXBe : w.heap.size + 1 = XB at *
  have HXB := Lib.hid hXBe
  clear hXBe
  go_wp2_with fail
  refine wp_region_noPanic ?_
  refine beginT (S := (fun w' => w'.heap[T]? = V.heap[T]? ∧ w'.heap[XB]? = V.heap[XB]?)) 9 (by kernel_rfl) ?_ (fun hHeld => ?_)
  · exact ⟨rfl, rfl⟩
  refine takeT 0 (some 19) (v := ?_) rfl rfl (by kernel_rfl) (by kernel_rfl) (by kernel_rfl) (by kernel_rfl) (by rfl) hHeld (fun _ _ _ h => h) ?_ ?_
  rotate_left
  · intro w' hSw; (try dsimp only at hSw); go_simp <;> with_reducible rfl
  simp only [Act.put, List.setIfInBounds_toArray, List.set_cons_zero, List.set_cons_succ]
  refine takeT 1 (some 20) (v := ?_) rfl rfl (by kernel_rfl) (by kernel_rfl) (by kernel_rfl) (by kernel_rfl) (by rfl) hHeld (fun _ _ _ h => h) ?_ ?_
  rotate_left
  · intro w' hSw; (try dsimp only at hSw); go_simp <;> with_reducible rfl
  simp only [Act.put, List.setIfInBounds_toArray, List.set_cons_zero, List.set_cons_succ]
  refine takeT 2 (some 21) (v := ?_) rfl rfl (by kernel_rfl) (by kernel_rfl) (by kernel_rfl) (by kernel_rfl) (by rfl) hHeld (fun _ _ _ h => h) ?_ ?_
  rotate_left
  · intro w' hSw; (try dsimp only at hSw); go_simp <;> with_reducible rfl
  simp only [Act.put, List.setIfInBounds_toArray, List.set_cons_zero, List.set_cons_succ]
  refine takeT 3 (some 22) (v := ?_) rfl rfl (by kernel_rfl) (by kernel_rfl) (by kernel_rfl) (by kernel_rfl) (by rfl) hHeld (fun _ _ _ h => h) ?_ ?_
  rotate_left
  · intro w' hSw; (try dsimp only at hSw); go_simp <;> with_reducible rfl
  simp only [Act.put, List.setIfInBounds_toArray, List.set_cons_zero, List.set_cons_succ]
  refine takeT 4 (some 23) (v := ?_) rfl rfl (by kernel_rfl) (by kernel_rfl) (by kernel_rfl) (by kernel_rfl) (by rfl) hHeld (fun _ _ _ h => h) ?_ ?_
  rotate_left
  · intro w' hSw; (try dsimp only at hSw); have q0 := (World.cell?_of_block (w := V) (a := ⟨T, 0, none⟩) hSw.1).trans t0; go_simp <;> with_reducible rfl
  simp only [Act.put, List.setIfInBounds_toArray, List.set_cons_zero, List.set_cons_succ]
  refine takeT 5 (some 24) (v := ?_) rfl rfl (by kernel_rfl) (by kernel_rfl) (by kernel_rfl) (by kernel_rfl) (by rfl) hHeld (fun _ _ _ h => h) ?_ ?_
  rotate_left
  · intro w' hSw; (try dsimp only at hSw); have q0 := (World.cell?_of_block (w := V) (a := ⟨XB, 0, none⟩) hSw.2).trans d0; have q1 := (World.cell?_of_block (w := V) (a := ⟨XB, 1, none⟩) hSw.2).trans d1; have q2 := (World.cell?_of_block (w := V) (a := ⟨XB, 2, none⟩) hSw.2).trans d2; go_simp <;> with_reducible rfl
  simp only [Act.put, List.setIfInBounds_toArray, List.set_cons_zero, List.set_cons_succ]
  refine callT 6 (some 25) (f := ?_) (args := ?_) rfl rfl (by kernel_rfl) (by rfl) ?_ ?_
  rotate_left 2
  · go_simp <;> first | (constructor <;> with_reducible rfl) | with_reducible rfl
  (with_reducible refine (IH.out V.drew hAV.drew).mono ?_)
  rintro e3 w3 ⟨rfl, hI3, hC3'⟩
  have hC3 : Chg (· ∈ t.blocks) V w3 := hC3'.undrew
  clear hC3'
  have hs3 := hC3.size
  have hX3 := (hC3.block T hTV hT).trans HROW.out
  have g3 : w3.cell? ⟨T, 0, none⟩ = some (.pointer t.pa) := cell_of_row _ _ 0 _ _ _ hX3
  have g4 := frozen_of_row w3 T 0 _ _ hX3
  refine ⟨_, rfl, keepAnd ?_ (fun hNew => ?_)⟩
  · intro _; exact ⟨hC3.block T hTV hT, hC3.block XB (by omega) (fun h => by have := hltb _ h; omega)⟩
  have hNew := hNew (by decide)
  clear hHeld
  have hHeld := hNew
  clear hNew
  simp only [Act.put, List.setIfInBounds_toArray, List.set_cons_zero, List.set_cons_succ]
  refine runT 7 (some 26) (v := ?_) (w' := _) rfl rfl (by kernel_rfl) (by rfl) ?_ (fun _ => hHeld) ?_
  rotate_left
  · go_simp <;> with_reducible rfl
  simp only [Act.put, List.setIfInBounds_toArray, List.set_cons_zero, List.set_cons_succ]
  refine takeT 8 (some 27) (v := ?_) rfl rfl (by kernel_rfl) (by kernel_rfl) (by kernel_rfl) (by kernel_rfl) (by rfl) hHeld (fun _ _ _ h => h) ?_ ?_
  rotate_left
  · intro w' hSw; (try dsimp only at hSw); go_simp <;> with_reducible rfl
  simp only [Act.put, List.setIfInBounds_toArray, List.set_cons_zero, List.set_cons_succ]
  refine skipRunT 9 none (w' := w3.setCell ⟨T, 0, none⟩ (.pointer (Tr.rem t ⟨p, q, id⟩).pa)) rfl rfl (by kernel_rfl) (by rfl) ?_ (fun h => absurd rfl h) ?_
  · go_simp <;> with_reducible rfl
  clear hHeld
  simp only [Act.put]
  refine doneT (by kernel_rfl) ?_ _
  refine NoPanic.normal ?_
  have hX4 := heap_setCell_same w3 T 0 _ _ (.pointer (Tr.rem t ⟨p, q, id⟩).pa) hX3
  have hX4' : (w3.setCell ⟨T, 0, none⟩ (.pointer (Tr.rem t ⟨p, q, id⟩).pa)).heap[T]? = some (.cells #[.pointer (Tr.rem t ⟨p, q, id⟩).pa, .int .i64 (t.items.length : Int)] 57 (0, 0)) := hX4
  have hC4 : Chg (· = T) w3 (w3.setCell ⟨T, 0, none⟩ (.pointer (Tr.rem t ⟨p, q, id⟩).pa)) := Chg.setCell (S := (· = T)) (Chg.refl _ _) (.inl rfl) _
  have g5 : (w3.setCell ⟨T, 0, none⟩ (.pointer (Tr.rem t ⟨p, q, id⟩).pa)).cell? ⟨T, 1, none⟩ = some (.int .i64 (t.items.length : Int)) := cell_of_row _ _ 1 _ _ _ hX4'
  have g6 := frozen_of_row _ T 1 _ _ hX4'
  obtain ⟨s1, s2, s3, s4, cc, s5⟩ := Tr.rem_spec t hO hs ⟨p, q, id⟩ hx
  have hln := len_remF hs hx
  have hsrt : srtI (remF ⟨p, q, id⟩ t.items) := srt_remF hs
  have hmem : ∀ c, c ∈ (Tr.rem t ⟨p, q, id⟩).blocks → c ∈ t.blocks := fun c hc => by rw [s5.mem_iff]; exact List.mem_cons_of_mem _ hc
  have hnd' : (Tr.rem t ⟨p, q, id⟩).blocks.Nodup := (List.nodup_cons.1 (s5.nodup_iff.1 hnd)).2
  have hT' : T ∉ (Tr.rem t ⟨p, q, id⟩).blocks := fun h => hT (hmem T h)
  have HS2 := Lib.hid s2
  have HLN := Lib.hid hln
  clear s2 hln
  go_wp2_with fail
  go_ret
  have hX5 := heap_setCell_same _ T 1 _ _ (.int .i64 ((t.items.length : Int) - 1)) hX4'
  have hC5 : Chg (· = T) (w3.setCell ⟨T, 0, none⟩ (.pointer (Tr.rem t ⟨p, q, id⟩).pa)) ((w3.setCell ⟨T, 0, none⟩ (.pointer (Tr.rem t ⟨p, q, id⟩).pa)).setCell ⟨T, 1, none⟩ (.int .i64 ((t.items.length : Int) - 1))) := Chg.setCell (S := (· = T)) (Chg.refl _ _) (.inl rfl) _
  refine ⟨(Tr.rem t ⟨p, q, id⟩), rfl, ⟨?_, (hI3.chgIn hC4 (fun i hi => hi ▸ hT')).chgIn hC5 (fun i hi => hi ▸ hT'), hnd', hT', s1, by rw [HS2.out]; exact hsrt⟩, HS2.out, ?_, ?_⟩
  · rw [HS2.out, show (((remF ⟨p, q, id⟩ t.items).length : Nat) : Int) = (t.items.length : Int) - 1 by have := HLN.out; omega]
    exact hX5
  · exact (((Chg.of_below hbV (fp T t)).trans (hC3.mono (T := fp T t) (fun i hi => .inr hi)) (fun _ _ h => h)).trans (hC4.mono (T := fp T t) (fun i hi => .inl hi)) (fun _ _ h => h)).trans (hC5.mono (T := fp T t) (fun i hi => .inl hi)) (fun _ _ h => h)
  · rintro i (rfl | hi)
    · exact .inl (.inl rfl)
    · exact .inl (.inr (hmem i hi))
end Go.Proofs.Ytkocehfapcmiiaa
