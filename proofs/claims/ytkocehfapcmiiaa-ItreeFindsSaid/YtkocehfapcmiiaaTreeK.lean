/-
  Trees: Overlap and Stab; lists of numbers and of items compared.
-/
import Derived.Test.YtkocehfapcmiiaaOvlPure
import Derived.Test.YtkocehfapcmiiaaShelf
namespace Go.Proofs.Ytkocehfapcmiiaa
open Go.RowKit Go.Lib Go.IntWalk

theorem ahead_below (w : World) (n : Nat) : Below w.heap.size w (Go.Sort.ahead w n) := ⟨rfl, rfl, rfl, Nat.le_refl _, fun _ _ => rfl⟩
theorem grow_below (w : World) (os : Array Obj) : Below w.heap.size w (Go.Sort.grow w os) := ⟨rfl, rfl, rfl, by simp, fun _ hk => Go.Sort.heap_grow_old w os hk⟩
theorem OwnI.below {w w' : World} {base : Nat} {v : Value} {l : List Int} (h : OwnI w base v l) (hb : Below w.heap.size w w') : OwnI w' base v l :=
  World.ownsRow.kept (row := none) h ⟨hb.os, hb.tape, hb.output, hb.size, fun k hk _ => hb.block k hk⟩ (by cases v.ownBlock <;> simp)
theorem OwnIt.below {w w' : World} {base : Nat} {v : Value} {l : List It} (h : OwnIt w base v l) (hb : Below w.heap.size w w') : OwnIt w' base v l :=
  World.ownsRow.kept (row := none) h ⟨hb.os, hb.tape, hb.output, hb.size, fun k hk _ => hb.block k hk⟩ (by cases v.ownBlock <;> simp)
theorem OwnI.nil (w : World) (base : Nat) : OwnI w base (.slice none 0 0) [] := World.ownsRow_nil w _ _ _
theorem sort_any (v : Value) (l : List Int) (base : Nat) (w : World) (h : OwnI w base v l) (hl : l.length ≤ 1099511627776) :
    Calls Try.prog 29 #[v] w fun e w' => e = .returned (.tuple #[]) ∧ OwnI w' base v (l.mergeSort fun x y => decide (x ≤ y)) ∧ Chg (base ≤ ·) w w' := by
  rcases Nat.eq_zero_or_pos l.length with h0 | h0
  · have hl0 : l = [] := List.eq_nil_of_length_eq_zero h0
    subst hl0
    obtain ⟨A, c, rfl, _⟩ := h.open_
    refine (Try.slices_Sort_int_none A c w).mono ?_
    rintro e w' ⟨he, rfl⟩
    exact ⟨he, by simpa using h, Chg.refl _ _⟩
  · obtain ⟨g, cap, cur, rfl, hb, hg, hnc, hcm, hs, ht⟩ := own_block h h0
    have hgl := (Array.getElem?_eq_some_iff.1 hg).1
    refine (Try.slices_Sort_int g 0 cap l w (own_holds hg ht) hgl (by omega)).mono ?_
    rintro e w' ⟨he, n, os, rfl⟩
    have hg' : (Go.Sort.ahead w n).heap[g]? = some (.cells cur 3 (0, 0)) := hg
    have hml : (l.mergeSort fun x y => decide (x ≤ y)).length = l.length := List.length_mergeSort _
    have hO := own_put (w := Go.Sort.ahead w n) (d := l.mergeSort fun x y => decide (x ≤ y)) (m := l.length) hb hg' hcm hs (by omega) (by omega)
    have hc : Chg (base ≤ ·) w (Go.Sort.putRow (Value.int .i64) (Go.Sort.ahead w n) g 0 (l.mergeSort fun x y => decide (x ≤ y)).toArray) :=
      (Chg.of_below (ahead_below w n) _).trans ((putRow_chg (Go.Sort.ahead w n) g 0 _).mono (T := (base ≤ ·)) (fun i hi => hi ▸ hb)) (fun _ _ h => h)
    rw [List.take_of_length_le (by omega), hml] at hO
    exact ⟨he, hO.below (grow_below _ _), hc.then_below (grow_below _ _)⟩
theorem compact_any (v : Value) (l : List Int) (base : Nat) (w : World) (h : OwnI w base v l) (hl : l.length ≤ 1099511627776) :
    Calls Try.prog 30 #[v] w fun e w' => ∃ v', e = .returned v' ∧ OwnI w' base v' (compact l) ∧ Chg (base ≤ ·) w w' := by
  rcases Nat.eq_zero_or_pos l.length with h0 | h0
  · have hl0 : l = [] := List.eq_nil_of_length_eq_zero h0
    subst hl0
    obtain ⟨A, c, rfl, _⟩ := h.open_
    refine (Try.slices_Compact_int_empty A c w).mono ?_
    rintro e w' ⟨he, rfl⟩
    exact ⟨_, he, by simpa [compact, compactUpTo] using h, Chg.refl _ _⟩
  · obtain ⟨g, cap, cur, rfl, hb, hg, hnc, hcm, hs, ht⟩ := own_block h h0
    refine (Try.slices_Compact_int g 0 cap l w (own_holds hg ht) (by omega) hnc).mono ?_
    rintro e w' ⟨he, q, rfl⟩
    have hg' : (Go.Sort.ahead w q).heap[g]? = some (.cells cur 3 (0, 0)) := hg
    have hcl : (compact l).length ≤ l.length := compact_length_le l
    have hO := own_put (w := Go.Sort.ahead w q) (d := compact l ++ List.replicate (l.length - (compact l).length) 0) (m := (compact l).length) hb hg' hcm hs (by simp; omega) (by simp)
    rw [List.take_left' rfl] at hO
    exact ⟨_, he, hO, (Chg.of_below (ahead_below w q) _).trans ((putRow_chg (Go.Sort.ahead w q) g 0 _).mono (T := (base ≤ ·)) (fun i hi => hi ▸ hb)) (fun _ _ h => h)⟩
def ovlF (p q : Int) (l : List It) : List Int := if vldP p q = true then putAll (Tr.ovl p q l) else []
def OvlOut (l : List Int) (w0 : World) (e : Ending) (w : World) : Prop := ∃ v, e = .returned v ∧ OwnI w w0.heap.size v l ∧ Below w0.heap.size w0 w

set_option maxRecDepth 100000 in
set_option maxHeartbeats 2000000 in
theorem tovl_any (T : Nat) (t : Tr) (p q : Int) (w : World) (hTr : TreeIs w T t) (hlen : t.items.length ≤ 1099511620000) :
    Calls Try.prog 12 #[.pointer (some ⟨T, 0, none⟩), perV p q] w (OvlOut (ovlF p q t.items) w) := by
  have hltw := hTr.lt
  obtain ⟨W, hW⟩ : ∃ W, W = w.alloc (.cells #[.int .i64 p, .int .i64 q] 28) := ⟨_, rfl⟩
  have hbW : Below w.heap.size w W := by rw [hW]; exact Below.of_alloc _
  have hsW : W.heap.size = w.heap.size + 1 := by rw [hW]; simp
  have hPW : W.heap[w.heap.size]? = some (.cells #[.int .i64 p, .int .i64 q] 28 (0, 0)) := by rw [hW]; exact heap_alloc_new w _
  have y0 : W.cell? ⟨w.heap.size, 0, none⟩ = some (.int .i64 p) := cell_of_row _ _ 0 _ _ _ hPW
  have y1 : W.cell? ⟨w.heap.size, 1, none⟩ = some (.int .i64 q) := cell_of_row _ _ 1 _ _ _ hPW
  have CV := Lib.hid (pvalid_any p q W)
  rw [hW] at y0 y1
  have HW := Lib.hid hW
  clear hW
  unfold ovlF
  cases hv : vldP p q with
  | false =>
    rw [hv] at CV
    rw [if_neg (by simp)]
    clear hv
    go_enter Try.func12, Try.ntmps12
    go_wp2_with fail
    rw [← HW.out]
    (with_reducible refine CV.out.mono ?_)
    rintro e1 w1 ⟨rfl, hb1⟩
    go_wp2_with fail
    go_ret
    exact ⟨_, rfl, World.ownsRow_nil _ _ _ _, hbW.trans (hb1.mono (by omega))⟩
  | true =>
  rw [hv] at CV
  rw [if_pos rfl]
  clear hv
  have hov : (Tr.ovl p q t.items).length ≤ t.items.length := ovl_len p q t.items
  go_enter Try.func12, Try.ntmps12
  go_wp2_with fail
  rw [← HW.out]
  (with_reducible refine CV.out.mono ?_)
  rintro e1 V ⟨rfl, hb1⟩
  clear CV y0 y1
  have hbV : Below w.heap.size w V := hbW.trans (hb1.mono (by omega))
  have hs1 := hb1.size
  have hPV := (hb1.block w.heap.size (by omega)).trans hPW
  have p0 : V.cell? ⟨w.heap.size, 0, none⟩ = some (.int .i64 p) := cell_of_row _ _ 0 _ _ _ hPV
  have p1 : V.cell? ⟨w.heap.size, 1, none⟩ = some (.int .i64 q) := cell_of_row _ _ 1 _ _ _ hPV
  have hTV := hTr.below hbV
  obtain ⟨hXV, hAV, hnd, hT, hO, hs⟩ := hTV
  have t0 : V.cell? ⟨T, 0, none⟩ = some (.pointer t.pa) := cell_of_row _ _ 0 _ _ _ hXV
  have hTw : T < w.heap.size := hltw T (.inl rfl)
  have hlt' : ∀ c ∈ t.blocks, c < w.heap.size := fun c hc => hltw c (.inr hc)
  clear hXV hPW hPV hb1
  go_wp2_with fail
  refine wp_region_noPanic ?_
  refine wp_region_held_drew (S := (fun w' => w'.heap[T]? = V.heap[T]? ∧ w'.heap[w.heap.size]? = V.heap[w.heap.size]?)) (by kernel_rfl) ?_ (fun hHeld => ?_)
  · exact ⟨rfl, rfl⟩
  refine heldTake 0 (some 13) (v := ?_) rfl rfl (by kernel_rfl) (by kernel_rfl) (by kernel_rfl) (by rfl) hHeld (fun _ _ _ h => h) ?_ ?_
  rotate_left
  · intro w' hSw; (try dsimp only at hSw); go_simp <;> with_reducible rfl
  simp only [Act.put, List.setIfInBounds_toArray, List.set_cons_zero, List.set_cons_succ]
  refine heldTake 1 (some 14) (v := ?_) rfl rfl (by kernel_rfl) (by kernel_rfl) (by kernel_rfl) (by rfl) hHeld (fun _ _ _ h => h) ?_ ?_
  rotate_left
  · intro w' hSw; (try dsimp only at hSw); go_simp <;> with_reducible rfl
  simp only [Act.put, List.setIfInBounds_toArray, List.set_cons_zero, List.set_cons_succ]
  refine heldTake 2 (some 15) (v := ?_) rfl rfl (by kernel_rfl) (by kernel_rfl) (by kernel_rfl) (by rfl) hHeld (fun _ _ _ h => h) ?_ ?_
  rotate_left
  · intro w' hSw; (try dsimp only at hSw); go_simp <;> with_reducible rfl
  simp only [Act.put, List.setIfInBounds_toArray, List.set_cons_zero, List.set_cons_succ]
  refine heldTake 3 (some 16) (v := ?_) rfl rfl (by kernel_rfl) (by kernel_rfl) (by kernel_rfl) (by rfl) hHeld (fun _ _ _ h => h) ?_ ?_
  rotate_left
  · intro w' hSw; (try dsimp only at hSw); have q0 := (World.cell?_of_block (w := V) (a := ⟨T, 0, none⟩) hSw.1).trans t0; go_simp <;> with_reducible rfl
  simp only [Act.put, List.setIfInBounds_toArray, List.set_cons_zero, List.set_cons_succ]
  refine heldTake 4 (some 17) (v := ?_) rfl rfl (by kernel_rfl) (by kernel_rfl) (by kernel_rfl) (by rfl) hHeld (fun _ _ _ h => h) ?_ ?_
  rotate_left
  · intro w' hSw; (try dsimp only at hSw); have q0 := (World.cell?_of_block (w := V) (a := ⟨w.heap.size, 0, none⟩) hSw.2).trans p0; have q1 := (World.cell?_of_block (w := V) (a := ⟨w.heap.size, 1, none⟩) hSw.2).trans p1; go_simp <;> with_reducible rfl
  simp only [Act.put, List.setIfInBounds_toArray, List.set_cons_zero, List.set_cons_succ]
  refine heldCall 5 (some 18) (f := ?_) (args := ?_) rfl rfl (by kernel_rfl) (by rfl) ?_ ?_
  rotate_left 2
  · go_simp <;> first | (constructor <;> with_reducible rfl) | with_reducible rfl
  (with_reducible refine (overlap_any p q t [] (.slice none 0 0) V.drew w.heap.size hAV.drew (OwnI.nil _ _) ?_ hlt' hO hs ?_).mono ?_)
  · have := hbV.size; show w.heap.size ≤ V.heap.size; omega
  · simp only [List.length_nil]; omega
  rintro e3 V3 ⟨v3, rfl, hO3, hG3'⟩
  have hG3 := Grew.undrew hG3'
  clear hG3'
  have hT3 := hG3.below.block T hTw
  have hB3 := hG3.box (H := w.heap.size) (by omega) (fun c hc => by cases hc)
  refine ⟨_, rfl, keepAnd ?_ (fun hNew => ?_)⟩
  · exact ⟨hT3, hB3⟩
  clear hHeld
  have hHeld := hNew
  clear hNew
  simp only [Act.put, List.setIfInBounds_toArray, List.set_cons_zero, List.set_cons_succ]
  refine heldTake 6 (some 5) (v := ?_) rfl rfl (by kernel_rfl) (by kernel_rfl) (by kernel_rfl) (by rfl) hHeld (fun _ _ _ h => h) ?_ ?_
  rotate_left
  · intro w' hSw; (try dsimp only at hSw); go_simp <;> with_reducible rfl
  simp only [Act.put, List.setIfInBounds_toArray, List.set_cons_zero, List.set_cons_succ]
  refine wpAnyH_done (by kernel_rfl) ?_ _
  refine NoPanic.normal ?_
  rw [List.nil_append] at hO3
  have HO3 := hO3
  obtain ⟨A3, k3, rfl, _, _, c33⟩ := hO3.open_
  have HC33 := Lib.hid c33
  clear c33 t0 p0 p1
  generalize hov3 : Tr.ovl p q t.items = l3 at *
  have HOV3 := Lib.hid hov3
  clear hov3
  have CS := Lib.hid (sort_any _ l3 w.heap.size V3 HO3 (by omega))
  go_wp2_with fail
  (with_reducible refine CS.out.mono ?_)
  rintro e4 V4 ⟨rfl, hO4, hC4⟩
  clear CS
  have hml : (l3.mergeSort fun x y => decide (x ≤ y)).length = l3.length := List.length_mergeSort _
  have CC := Lib.hid (compact_any _ _ w.heap.size V4 hO4 (by rw [hml]; omega))
  rw [compact_sort] at CC
  clear hml
  go_wp2_with fail
  (with_reducible refine CC.out.mono ?_)
  rintro e5 V5 ⟨v5, rfl, hO5, hC5⟩
  go_wp2_with fail
  go_ret
  have hs3 := hG3.size
  have hs4 := hC4.size
  have hs0 := hbV.size
  exact ⟨_, rfl, hO5, ((hbV.trans hG3.below).trans (hC4.below (by omega) (fun i hi => hi))).trans (hC5.below (by omega) (fun i hi => hi))⟩

set_option maxHeartbeats 1000000 in
theorem tstab_any (T : Nat) (t : Tr) (p : Int) (w : World) (hTr : TreeIs w T t) (hlen : t.items.length ≤ 1099511620000) :
    Calls Try.prog 14 #[.pointer (some ⟨T, 0, none⟩), .int .i64 p] w (OvlOut (ovlF p (p + 1) t.items) w) := by
  by_cases h1 : p < 0
  · have hv : vldP p (p + 1) = false := by unfold vldP; simp; omega
    unfold ovlF
    rw [hv, if_neg (by simp)]
    go_enter Try.func14, Try.ntmps14
    go_wp2_with fail
    go_ret
    exact ⟨_, rfl, World.ownsRow_nil _ _ _ _, Below.refl _ _⟩
  by_cases h2 : 1099511627776 ≤ p
  · have hv : vldP p (p + 1) = false := by unfold vldP; simp; omega
    unfold ovlF
    rw [hv, if_neg (by simp)]
    go_enter Try.func14, Try.ntmps14
    go_wp2_with fail
    go_ret
    exact ⟨_, rfl, World.ownsRow_nil _ _ _ _, Below.refl _ _⟩
  have CO := Lib.hid (tovl_any T t p (p + 1) w hTr hlen)
  clear hTr
  go_enter Try.func14, Try.ntmps14
  go_wp2_with fail
  (with_reducible refine CO.out.mono ?_)
  rintro e1 w1 ⟨v1, rfl, hO1, hb1⟩
  go_wp2_with fail
  go_ret
  exact ⟨_, rfl, hO1, hb1⟩
theorem nilt_stab (p : Int) (w : World) : Calls Try.prog 14 #[.pointer none, .int .i64 p] w fun e w' => e = .returned (.slice none 0 0) ∧ Below w.heap.size w w' := by
  by_cases h1 : p < 0
  · go_enter Try.func14, Try.ntmps14
    go_wp2_with fail
    go_ret
    exact ⟨rfl, Below.refl _ _⟩
  by_cases h2 : 1099511627776 ≤ p
  · go_enter Try.func14, Try.ntmps14
    go_wp2_with fail
    go_ret
    exact ⟨rfl, Below.refl _ _⟩
  have CO := Lib.hid (nilt_ovl p (p + 1) w)
  go_enter Try.func14, Try.ntmps14
  go_wp2_with fail
  (with_reducible refine CO.out.mono ?_)
  rintro e1 w1 ⟨rfl, hb1⟩
  go_wp2_with fail
  go_ret
  exact ⟨rfl, hb1⟩
end Go.Proofs.Ytkocehfapcmiiaa
