/-
  Trees: what overlaps a period; all items.
-/
import Derived.Test.YtkocehfapcmiiaaTreeH
namespace Go.Proofs.Ytkocehfapcmiiaa
open Go.RowKit Go.Lib Go.IntWalk

theorem infoI : (Try.prog.info? 3).map (fun i => (i.zero, i.size, i.bytes)) = some (some (.int .i64 0), 1, 8) := by kernel_rfl
theorem infoC : (Try.prog.info? 30).map (fun i => (i.zero, i.size, i.bytes)) = some (some (.agg #[.int .i64 0, .int .i64 0, .int .i64 0]), 3, 24) := by kernel_rfl
def iv (l : List Int) : List Value := l.map (.int .i64)
theorem iv_append (a b : List Int) : iv (a ++ b) = iv a ++ iv b := by simp [iv]
theorem iv_len (a : List Int) : (iv a).length = a.length := by simp [iv]
theorem iv_one (a : List Int) : ∀ u ∈ iv a, u.oneCell' = true := by
  intro u hu
  simp only [iv, List.mem_map] at hu
  obtain ⟨n, _, rfl⟩ := hu
  rfl
/-- a row of numbers -/
def OwnI (w : World) (base : Nat) (v : Value) (l : List Int) : Prop := w.ownsRow base 3 1 v l.length (iv l)
def itC (x : It) : List Value := [.int .i64 x.fr, .int .i64 x.to, .int .i64 x.id]
def icv (l : List It) : List Value := l.flatMap itC
theorem icv_append (a b : List It) : icv (a ++ b) = icv a ++ icv b := by simp [icv]
theorem icv_one (a : List It) : ∀ u ∈ icv a, u.oneCell' = true := by
  intro u hu
  simp only [icv, List.mem_flatMap, itC] at hu
  obtain ⟨n, _, hu⟩ := hu
  simp only [List.mem_cons, List.not_mem_nil, or_false] at hu
  rcases hu with rfl | rfl | rfl <;> rfl
theorem icv_len (a : List It) : (icv a).length = a.length * 3 := by
  induction a with
  | nil => rfl
  | cons x r ih => rw [show icv (x :: r) = itC x ++ icv r from rfl, List.length_append, ih, List.length_cons]; simp only [itC, List.length_cons, List.length_nil]; omega
/-- a row of items -/
def OwnIt (w : World) (base : Nat) (v : Value) (l : List It) : Prop := w.ownsRow base 30 3 v l.length (icv l)
def IntsOut (base : Nat) (v : Value) (l : List Int) (w0 : World) (e : Ending) (w : World) : Prop := ∃ v', e = .returned v' ∧ OwnI w base v' l ∧ Grew base v w0 v' w
def ItsOut (base : Nat) (v : Value) (l : List It) (w0 : World) (e : Ending) (w : World) : Prop := ∃ v', e = .returned v' ∧ OwnIt w base v' l ∧ Grew base v w0 v' w
theorem own_d {w : World} {base : Nat} {v : Value} {l : List Int} (h : OwnI w base v l) : OwnI w.drew base v l := h
theorem OwnI.open_ {w : World} {base : Nat} {v : Value} {l : List Int} (h : OwnI w base v l) : ∃ A c, v = .slice A l.length c ∧ l.length ≤ c ∧ c ≤ maxLen ∧ (A = none → c = 0) := Rd.open_ (Rd.of_own h)
theorem OwnIt.open_ {w : World} {base : Nat} {v : Value} {l : List It} (h : OwnIt w base v l) : ∃ A c, v = .slice A l.length c ∧ l.length ≤ c ∧ c ≤ maxLen ∧ (A = none → c = 0) := Rd.open_ (Rd.of_own h)
theorem own_cast {w : World} {base : Nat} {v : Value} {a b : List Int} (h : w.ownsRow base 3 1 v (a.length + b.length) (iv a ++ iv b)) : OwnI w base v (a ++ b) := by
  unfold OwnI; rw [iv_append, List.length_append]; exact h
theorem owni_cast {w : World} {base : Nat} {v : Value} {a b : List It} (h : w.ownsRow base 30 3 v (a.length + b.length) (icv a ++ icv b)) : OwnIt w base v (a ++ b) := by
  unfold OwnIt; rw [icv_append, List.length_append]; exact h
theorem Grew.undrew {base : Nat} {v v' : Value} {w0 w : World} (h : Grew base v w0.drew v' w) : Grew base v w0 v' w := ⟨Below.undrew h.below, ⟨h.grown.os, h.grown.tape, h.grown.output, h.grown.size, h.grown.block⟩, h.at_⟩
theorem Grew.chg {base : Nat} {v v' : Value} {w0 w : World} (h : Grew base v w0 v' w) : Chg (base ≤ ·) w0 w := ⟨h.below.os, h.below.tape, h.below.output, h.below.size, fun k _ hn => h.below.block k (by omega)⟩
theorem ne_own {base : Nat} {v v' : Value} {w0 w : World} {H : Nat} (hv : some H ≠ v.ownBlock) (h : Grew base v w0 v' w) (hH : H < w0.heap.size) : some H ≠ v'.ownBlock := by
  rcases h.at_ with e | ⟨g, e, hg⟩
  · rw [e]; exact hv
  · rw [e]; intro h'; injection h' with h'; omega
theorem ovl_len (p q : Int) (l : List It) : (Tr.ovl p q l).length ≤ l.length := by unfold Tr.ovl; rw [List.length_map]; exact List.length_filter_le _ _
theorem Grew.box {base : Nat} {v v' : Value} {w0 w : World} (h : Grew base v w0 v' w) {H : Nat} (hH : H < w0.heap.size) (hn : ∀ c, some c = v.ownBlock → c ≠ H) : w.heap[H]? = w0.heap[H]? :=
  h.grown.block H hH (fun e => hn H e rfl)

set_option maxRecDepth 100000 in
set_option maxHeartbeats 4000000 in
theorem overlap_any (p q : Int) : ∀ (t : Tr) (l : List Int) (v : Value) (w : World) (base : Nat), t.At w → OwnI w base v l → base ≤ w.heap.size → (∀ c ∈ t.blocks, c < base) → t.Ok → srtI t.items → l.length + t.items.length ≤ 1099511627776 →
    Calls Try.prog 28 #[.pointer t.pa, perV p q, v] w (IntsOut base v (l ++ Tr.ovl p q t.items) w) := by
  intro t
  induction t with
  | nil =>
    intro l v w base hA hO hb hc hk hs hl
    rw [show Tr.nil.pa = none from rfl, show l ++ Tr.ovl p q Tr.nil.items = l from List.append_nil l]
    obtain ⟨A, c, rfl, c1, c2, c3⟩ := hO.open_
    have HC3 := Lib.hid c3
    clear c3
    have hOb : OwnI (w.alloc (.cells #[.int .i64 p, .int .i64 q] 28)) base (.slice A l.length c) l := World.ownsRow.alloc hO _
    have hG : Grew base (.slice A l.length c) w (.slice A l.length c) (w.alloc (.cells #[.int .i64 p, .int .i64 q] 28)) := (Grew.refl _ _ _).alloc hb _
    go_enter Try.func28, Try.ntmps28
    go_wp2_with fail
    refine wp_region_noPanic ?_
    refine wp_region_held_drew (S := (fun w' => True)) (by kernel_rfl) ?_ (fun hHeld => ?_)
    · trivial
    refine heldTake 0 (some 7) (v := ?_) rfl rfl (by kernel_rfl) (by kernel_rfl) (by kernel_rfl) (by rfl) hHeld (fun _ _ _ h => h) ?_ ?_
    rotate_left
    · intro w' hSw; (try dsimp only at hSw); go_simp <;> with_reducible rfl
    simp only [Act.put, List.setIfInBounds_toArray, List.set_cons_zero, List.set_cons_succ]
    refine heldTake 1 (some 8) (v := ?_) rfl rfl (by kernel_rfl) (by kernel_rfl) (by kernel_rfl) (by rfl) hHeld (fun _ _ _ h => h) ?_ ?_
    rotate_left
    · intro w' hSw; (try dsimp only at hSw); go_simp <;> with_reducible rfl
    simp only [Act.put, List.setIfInBounds_toArray, List.set_cons_zero, List.set_cons_succ]
    refine heldTake 2 (some 9) (v := ?_) rfl rfl (by kernel_rfl) (by kernel_rfl) (by kernel_rfl) (by rfl) hHeld (fun _ _ _ h => h) ?_ ?_
    rotate_left
    · intro w' hSw; (try dsimp only at hSw); go_simp <;> with_reducible rfl
    simp only [Act.put, List.setIfInBounds_toArray, List.set_cons_zero, List.set_cons_succ]
    refine heldSkip 3 (some 10) rfl rfl (by kernel_rfl) (by kernel_rfl) (by kernel_rfl) (by rfl) hHeld (fun _ _ _ h => h) ?_
    simp only [Act.put, List.setIfInBounds_toArray, List.set_cons_zero, List.set_cons_succ]
    refine heldSkip 4 (some 11) rfl rfl (by kernel_rfl) (by kernel_rfl) (by kernel_rfl) (by rfl) hHeld (fun _ _ _ h => h) ?_
    simp only [Act.put, List.setIfInBounds_toArray, List.set_cons_zero, List.set_cons_succ]
    refine heldSkip 5 (some 12) rfl rfl (by kernel_rfl) (by kernel_rfl) (by kernel_rfl) (by rfl) hHeld (fun _ _ _ h => h) ?_
    simp only [Act.put, List.setIfInBounds_toArray, List.set_cons_zero, List.set_cons_succ]
    refine heldSkip 6 (some 13) rfl rfl (by kernel_rfl) (by kernel_rfl) (by kernel_rfl) (by rfl) hHeld (fun _ _ _ h => h) ?_
    simp only [Act.put, List.setIfInBounds_toArray, List.set_cons_zero, List.set_cons_succ]
    refine heldSkip 7 (some 14) rfl rfl (by kernel_rfl) (by kernel_rfl) (by kernel_rfl) (by rfl) hHeld (fun _ _ _ h => h) ?_
    simp only [Act.put, List.setIfInBounds_toArray, List.set_cons_zero, List.set_cons_succ]
    refine heldSkip 8 (some 15) rfl rfl (by kernel_rfl) (by kernel_rfl) (by kernel_rfl) (by rfl) hHeld (fun _ _ _ h => h) ?_
    simp only [Act.put, List.setIfInBounds_toArray, List.set_cons_zero, List.set_cons_succ]
    refine heldSkip 9 (some 16) rfl rfl (by kernel_rfl) (by kernel_rfl) (by kernel_rfl) (by rfl) hHeld (fun _ _ _ h => h) ?_
    simp only [Act.put, List.setIfInBounds_toArray, List.set_cons_zero, List.set_cons_succ]
    refine heldTake 10 (some 17) (v := ?_) rfl rfl (by kernel_rfl) (by kernel_rfl) (by kernel_rfl) (by rfl) hHeld (fun _ _ _ h => h) ?_ ?_
    rotate_left
    · intro w' hSw; (try dsimp only at hSw); go_simp <;> with_reducible rfl
    simp only [Act.put, List.setIfInBounds_toArray, List.set_cons_zero, List.set_cons_succ]
    refine wpAnyH_done (by kernel_rfl) ?_ _
    refine NoPanic.normal ?_
    go_wp2_with fail
    go_ret
    exact ⟨_, rfl, hOb, hG.drew⟩
  | node b y tl tr h e ihl ihr =>
    intro l v w base hA hO hb hc hk hs hl
    rw [show (Tr.node b y tl tr h e).pa = some ⟨b, 0, none⟩ from rfl]
    have hlen := hl
    clear hl
    obtain ⟨hX, hl, hr⟩ := hA
    have hc0 : b < base := hc b (List.mem_cons_self ..)
    have hcl : ∀ c ∈ tl.blocks, c < base := fun c hh => hc c (List.mem_cons_of_mem _ (List.mem_append_left _ hh))
    have hcr : ∀ c ∈ tr.blocks, c < base := fun c hh => hc c (List.mem_cons_of_mem _ (List.mem_append_right _ hh))
    have hen : e ≤ p → Tr.ovl p q (Tr.node b y tl tr h e).items = [] := fun he => Tr.ovl_end hk he
    obtain ⟨_, _, _, _, hlO, hrO⟩ := hk
    rw [Tr.items_node] at *
    obtain ⟨hsl, hsr, h3, h4, h5⟩ := srt_app.1 hs
    rw [List.length_append, List.length_cons] at hlen
    have hvb : some w.heap.size ≠ v.ownBlock := own_ne_new hO
    obtain ⟨A, c, rfl, c1, c2, c3⟩ := hO.open_
    have HC3 := Lib.hid c3
    clear c3
    obtain ⟨V, hV⟩ : ∃ V, V = w.alloc (.cells #[.int .i64 p, .int .i64 q] 28) := ⟨_, rfl⟩
    have hbV : Below w.heap.size w V := by rw [hV]; exact Below.of_alloc _
    have hX0 : V.heap[b]? = some (.cells (nodeC y tl tr h e) 69 (0, 0)) := (hbV.block b (Array.getElem?_eq_some_iff.1 hX).1).trans hX
    have hB0 : V.heap[w.heap.size]? = some (.cells #[.int .i64 p, .int .i64 q] 28 (0, 0)) := by rw [hV]; exact heap_alloc_new w _
    have hl0 := hl.below hbV
    have hr0 := hr.below hbV
    have hO0 : OwnI V base (.slice A l.length c) l := by rw [hV]; exact World.ownsRow.alloc hO _
    have hG0 : Grew base (.slice A l.length c) w (.slice A l.length c) V := by rw [hV]; exact (Grew.refl _ _ _).alloc hb _
    have hs0 : w.heap.size < V.heap.size := by rw [hV]; simp
    have hent := Lib.hid hen
    have HV := Lib.hid hV
    clear hV hen hX hl hr hO hc hs hbV
    go_enter Try.func28, Try.ntmps28
    go_wp2_with fail
    rw [← HV.out]
    clear HV
    have n0a : V.cell? ⟨b, 0, none⟩ = some (.int .i64 y.fr) := cell_of_row _ _ 0 _ _ _ hX0
    have n1a : V.cell? ⟨b, 1, none⟩ = some (.int .i64 y.to) := cell_of_row _ _ 1 _ _ _ hX0
    have n2a : V.cell? ⟨b, 2, none⟩ = some (.int .i64 y.id) := cell_of_row _ _ 2 _ _ _ hX0
    have n3a : V.cell? ⟨b, 3, none⟩ = some (.pointer tl.pa) := cell_of_row _ _ 3 _ _ _ hX0
    have n4a : V.cell? ⟨b, 4, none⟩ = some (.pointer tr.pa) := cell_of_row _ _ 4 _ _ _ hX0
    have n6a : V.cell? ⟨b, 6, none⟩ = some (.int .i64 e) := cell_of_row _ _ 6 _ _ _ hX0
    have p0a : V.cell? ⟨w.heap.size, 0, none⟩ = some (.int .i64 p) := cell_of_row _ _ 0 _ _ _ hB0
    have p1a : V.cell? ⟨w.heap.size, 1, none⟩ = some (.int .i64 q) := cell_of_row _ _ 1 _ _ _ hB0
    refine wp_region_noPanic ?_
    refine wp_region_held_drew (S := (fun w' => w'.heap[b]? = V.heap[b]? ∧ w'.heap[w.heap.size]? = V.heap[w.heap.size]?)) (by kernel_rfl) ?_ (fun hHeld => ?_)
    · exact ⟨rfl, rfl⟩
    refine heldTake 0 (some 7) (v := ?_) rfl rfl (by kernel_rfl) (by kernel_rfl) (by kernel_rfl) (by rfl) hHeld (fun _ _ _ h => h) ?_ ?_
    rotate_left
    · intro w' hSw; (try dsimp only at hSw); go_simp <;> with_reducible rfl
    simp only [Act.put, List.setIfInBounds_toArray, List.set_cons_zero, List.set_cons_succ]
    refine heldTake 1 (some 8) (v := ?_) rfl rfl (by kernel_rfl) (by kernel_rfl) (by kernel_rfl) (by rfl) hHeld (fun _ _ _ h => h) ?_ ?_
    rotate_left
    · intro w' hSw; (try dsimp only at hSw); go_simp <;> with_reducible rfl
    simp only [Act.put, List.setIfInBounds_toArray, List.set_cons_zero, List.set_cons_succ]
    refine heldTake 2 (some 9) (v := ?_) rfl rfl (by kernel_rfl) (by kernel_rfl) (by kernel_rfl) (by rfl) hHeld (fun _ _ _ h => h) ?_ ?_
    rotate_left
    · intro w' hSw; (try dsimp only at hSw); go_simp <;> with_reducible rfl
    simp only [Act.put, List.setIfInBounds_toArray, List.set_cons_zero, List.set_cons_succ]
    refine heldTake 3 (some 10) (v := ?_) rfl rfl (by kernel_rfl) (by kernel_rfl) (by kernel_rfl) (by rfl) hHeld (fun _ _ _ h => h) ?_ ?_
    rotate_left
    · intro w' hSw; (try dsimp only at hSw); go_simp <;> with_reducible rfl
    simp only [Act.put, List.setIfInBounds_toArray, List.set_cons_zero, List.set_cons_succ]
    refine heldTake 4 (some 11) (v := ?_) rfl rfl (by kernel_rfl) (by kernel_rfl) (by kernel_rfl) (by rfl) hHeld (fun _ _ _ h => h) ?_ ?_
    rotate_left
    · intro w' hSw; (try dsimp only at hSw); go_simp <;> with_reducible rfl
    simp only [Act.put, List.setIfInBounds_toArray, List.set_cons_zero, List.set_cons_succ]
    refine heldTake 5 (some 12) (v := ?_) rfl rfl (by kernel_rfl) (by kernel_rfl) (by kernel_rfl) (by rfl) hHeld (fun _ _ _ h => h) ?_ ?_
    rotate_left
    · intro w' hSw; (try dsimp only at hSw); go_simp <;> with_reducible rfl
    simp only [Act.put, List.setIfInBounds_toArray, List.set_cons_zero, List.set_cons_succ]
    refine heldTake 6 (some 13) (v := ?_) rfl rfl (by kernel_rfl) (by kernel_rfl) (by kernel_rfl) (by rfl) hHeld (fun _ _ _ h => h) ?_ ?_
    rotate_left
    · intro w' hSw; (try dsimp only at hSw); have q0 := (World.cell?_of_block (w := V) (a := ⟨b, 6, none⟩) hSw.1).trans n6a; go_simp <;> with_reducible rfl
    simp only [Act.put, List.setIfInBounds_toArray, List.set_cons_zero, List.set_cons_succ]
    refine heldTake 7 (some 14) (v := ?_) rfl rfl (by kernel_rfl) (by kernel_rfl) (by kernel_rfl) (by rfl) hHeld (fun _ _ _ h => h) ?_ ?_
    rotate_left
    · intro w' hSw; (try dsimp only at hSw); go_simp <;> with_reducible rfl
    simp only [Act.put, List.setIfInBounds_toArray, List.set_cons_zero, List.set_cons_succ]
    refine heldTake 8 (some 15) (v := ?_) rfl rfl (by kernel_rfl) (by kernel_rfl) (by kernel_rfl) (by rfl) hHeld (fun _ _ _ h => h) ?_ ?_
    rotate_left
    · intro w' hSw; (try dsimp only at hSw); have q0 := (World.cell?_of_block (w := V) (a := ⟨w.heap.size, 0, none⟩) hSw.2).trans p0a; go_simp <;> with_reducible rfl
    simp only [Act.put, List.setIfInBounds_toArray, List.set_cons_zero, List.set_cons_succ]
    refine heldTake 9 (some 16) (v := ?_) rfl rfl (by kernel_rfl) (by kernel_rfl) (by kernel_rfl) (by rfl) hHeld (fun _ _ _ h => h) ?_ ?_
    rotate_left
    · intro w' hSw; (try dsimp only at hSw); go_simp <;> with_reducible rfl
    simp only [Act.put, List.setIfInBounds_toArray, List.set_cons_zero, List.set_cons_succ]
    refine heldTake 10 (some 17) (v := ?_) rfl rfl (by kernel_rfl) (by kernel_rfl) (by kernel_rfl) (by rfl) hHeld (fun _ _ _ h => h) ?_ ?_
    rotate_left
    · intro w' hSw; (try dsimp only at hSw); go_simp <;> with_reducible rfl
    simp only [Act.put, List.setIfInBounds_toArray, List.set_cons_zero, List.set_cons_succ]
    refine wpAnyH_done (by kernel_rfl) ?_ _
    refine NoPanic.normal ?_
    clear n0a n1a n2a n3a n4a n6a p0a p1a
    obtain ⟨V1, hVV1⟩ : ∃ V', V' = V.drew := ⟨_, rfl⟩
    rw [← hVV1]
    have hX1 : V1.heap[b]? = some (.cells (nodeC y tl tr h e) 69 (0, 0)) := by rw [hVV1]; exact hX0
    have hB1 : V1.heap[w.heap.size]? = some (.cells #[.int .i64 p, .int .i64 q] 28 (0, 0)) := by rw [hVV1]; exact hB0
    have hl1 : tl.At V1 := by rw [hVV1]; exact hl0.drew
    have hr1 : tr.At V1 := by rw [hVV1]; exact hr0.drew
    have hO1 : OwnI V1 base (.slice A l.length c) l := by rw [hVV1]; exact hO0
    have hG1 : Grew base (.slice A l.length c) w (.slice A l.length c) V1 := by rw [hVV1]; exact hG0.drew
    have hs1 : w.heap.size < V1.heap.size := by rw [hVV1]; exact hs0
    clear hVV1
    clear hX0 hB0 hl0 hr0 hO0 hG0 hs0
    by_cases he : e ≤ p
    · have he' : decide (e ≤ p) = true := by simpa using he
      go_wp2_with fail
      go_ret
      refine ⟨_, rfl, ?_, hG1⟩
      rw [hent.out he, List.append_nil]
      exact hO1
    have he' : decide (e ≤ p) = false := by simpa using he
    go_wp2_with fail
    have n0b : V1.cell? ⟨b, 0, none⟩ = some (.int .i64 y.fr) := cell_of_row _ _ 0 _ _ _ hX1
    have n1b : V1.cell? ⟨b, 1, none⟩ = some (.int .i64 y.to) := cell_of_row _ _ 1 _ _ _ hX1
    have n2b : V1.cell? ⟨b, 2, none⟩ = some (.int .i64 y.id) := cell_of_row _ _ 2 _ _ _ hX1
    have n3b : V1.cell? ⟨b, 3, none⟩ = some (.pointer tl.pa) := cell_of_row _ _ 3 _ _ _ hX1
    have n4b : V1.cell? ⟨b, 4, none⟩ = some (.pointer tr.pa) := cell_of_row _ _ 4 _ _ _ hX1
    have n6b : V1.cell? ⟨b, 6, none⟩ = some (.int .i64 e) := cell_of_row _ _ 6 _ _ _ hX1
    have p0b : V1.cell? ⟨w.heap.size, 0, none⟩ = some (.int .i64 p) := cell_of_row _ _ 0 _ _ _ hB1
    have p1b : V1.cell? ⟨w.heap.size, 1, none⟩ = some (.int .i64 q) := cell_of_row _ _ 1 _ _ _ hB1
    refine wp_region_noPanic ?_
    refine wp_region_held_drew (S := (fun w' => w'.heap[b]? = V1.heap[b]? ∧ w'.heap[w.heap.size]? = V1.heap[w.heap.size]?)) (by kernel_rfl) ?_ (fun hHeld => ?_)
    · exact ⟨rfl, rfl⟩
    refine heldTake 0 (some 19) (v := ?_) rfl rfl (by kernel_rfl) (by kernel_rfl) (by kernel_rfl) (by rfl) hHeld (fun _ _ _ h => h) ?_ ?_
    rotate_left
    · intro w' hSw; (try dsimp only at hSw); go_simp <;> with_reducible rfl
    simp only [Act.put, List.setIfInBounds_toArray, List.set_cons_zero, List.set_cons_succ]
    refine heldTake 1 (some 20) (v := ?_) rfl rfl (by kernel_rfl) (by kernel_rfl) (by kernel_rfl) (by rfl) hHeld (fun _ _ _ h => h) ?_ ?_
    rotate_left
    · intro w' hSw; (try dsimp only at hSw); go_simp <;> with_reducible rfl
    simp only [Act.put, List.setIfInBounds_toArray, List.set_cons_zero, List.set_cons_succ]
    refine heldTake 2 (some 21) (v := ?_) rfl rfl (by kernel_rfl) (by kernel_rfl) (by kernel_rfl) (by rfl) hHeld (fun _ _ _ h => h) ?_ ?_
    rotate_left
    · intro w' hSw; (try dsimp only at hSw); go_simp <;> with_reducible rfl
    simp only [Act.put, List.setIfInBounds_toArray, List.set_cons_zero, List.set_cons_succ]
    refine heldTake 3 (some 22) (v := ?_) rfl rfl (by kernel_rfl) (by kernel_rfl) (by kernel_rfl) (by rfl) hHeld (fun _ _ _ h => h) ?_ ?_
    rotate_left
    · intro w' hSw; (try dsimp only at hSw); have q0 := (World.cell?_of_block (w := V1) (a := ⟨b, 3, none⟩) hSw.1).trans n3b; go_simp <;> with_reducible rfl
    simp only [Act.put, List.setIfInBounds_toArray, List.set_cons_zero, List.set_cons_succ]
    refine heldTake 4 (some 23) (v := ?_) rfl rfl (by kernel_rfl) (by kernel_rfl) (by kernel_rfl) (by rfl) hHeld (fun _ _ _ h => h) ?_ ?_
    rotate_left
    · intro w' hSw; (try dsimp only at hSw); have q0 := (World.cell?_of_block (w := V1) (a := ⟨w.heap.size, 0, none⟩) hSw.2).trans p0b; have q1 := (World.cell?_of_block (w := V1) (a := ⟨w.heap.size, 1, none⟩) hSw.2).trans p1b; go_simp <;> with_reducible rfl
    simp only [Act.put, List.setIfInBounds_toArray, List.set_cons_zero, List.set_cons_succ]
    refine heldTake 5 (some 24) (v := ?_) rfl rfl (by kernel_rfl) (by kernel_rfl) (by kernel_rfl) (by rfl) hHeld (fun _ _ _ h => h) ?_ ?_
    rotate_left
    · intro w' hSw; (try dsimp only at hSw); go_simp <;> with_reducible rfl
    simp only [Act.put, List.setIfInBounds_toArray, List.set_cons_zero, List.set_cons_succ]
    refine heldCall 6 (some 25) (f := ?_) (args := ?_) rfl rfl (by kernel_rfl) (by rfl) ?_ ?_
    rotate_left 2
    · go_simp <;> first | (constructor <;> with_reducible rfl) | with_reducible rfl
    (with_reducible refine (ihl l _ V1.drew base hl1.drew (own_d hO1) ?_ hcl hlO hsl ?_).mono ?_)
    · have := hs1; show base ≤ V1.heap.size; omega
    · omega
    rintro e3 V2 ⟨v2, rfl, hO2, hG2'⟩
    have hG2 := Grew.undrew hG2'
    clear hG2'
    have hX2 := (hG2.below.block b hc0).trans hX1
    have hB2 := (hG2.box hs1 (fun c hc => by rintro rfl; exact hvb hc)).trans hB1
    refine ⟨_, rfl, keepAnd ?_ (fun hNew => ?_)⟩
    · exact ⟨hX2.trans hX1.symm, hB2.trans hB1.symm⟩
    clear hHeld
    have hHeld := hNew
    clear hNew
    simp only [Act.put, List.setIfInBounds_toArray, List.set_cons_zero, List.set_cons_succ]
    refine heldTake 7 (some 2) (v := ?_) rfl rfl (by kernel_rfl) (by kernel_rfl) (by kernel_rfl) (by rfl) hHeld (fun _ _ _ h => h) ?_ ?_
    rotate_left
    · intro w' hSw; (try dsimp only at hSw); go_simp <;> with_reducible rfl
    simp only [Act.put, List.setIfInBounds_toArray, List.set_cons_zero, List.set_cons_succ]
    refine wpAnyH_done (by kernel_rfl) ?_ _
    refine NoPanic.normal ?_
    clear n0b n1b n2b n3b n4b n6b p0b p1b
    have hl2 := hl1.chg (hG2.chg) (fun c hc h => by have := hcl c hc; omega)
    have hr2 := hr1.chg (hG2.chg) (fun c hc h => by have := hcr c hc; omega)
    have hs2 : w.heap.size < V2.heap.size := Nat.lt_of_lt_of_le hs1 hG2.size
    have hv2 : some w.heap.size ≠ v2.ownBlock := ne_own hvb hG2 (by omega)
    have hGw2 := hG1.trans hG2
    clear hX1 hB1 hl1 hr1 hO1 hG1 hG2 hs1
    have hlv : (Tr.ovl p q tl.items).length ≤ tl.items.length := ovl_len p q tl.items
    obtain ⟨A2, k2, rfl, c21, c22, c23⟩ := hO2.open_
    have HC23 := Lib.hid c23
    clear c23
    generalize hL2 : l ++ Tr.ovl p q tl.items = L2 at *
    have HL2 := Lib.hid hL2
    have hL2n : L2.length ≤ l.length + tl.items.length := by rw [← hL2, List.length_append]; omega
    clear hL2
    go_wp2_with fail
    have n0c : V2.cell? ⟨b, 0, none⟩ = some (.int .i64 y.fr) := cell_of_row _ _ 0 _ _ _ hX2
    have n1c : V2.cell? ⟨b, 1, none⟩ = some (.int .i64 y.to) := cell_of_row _ _ 1 _ _ _ hX2
    have n2c : V2.cell? ⟨b, 2, none⟩ = some (.int .i64 y.id) := cell_of_row _ _ 2 _ _ _ hX2
    have n3c : V2.cell? ⟨b, 3, none⟩ = some (.pointer tl.pa) := cell_of_row _ _ 3 _ _ _ hX2
    have n4c : V2.cell? ⟨b, 4, none⟩ = some (.pointer tr.pa) := cell_of_row _ _ 4 _ _ _ hX2
    have n6c : V2.cell? ⟨b, 6, none⟩ = some (.int .i64 e) := cell_of_row _ _ 6 _ _ _ hX2
    have p0c : V2.cell? ⟨w.heap.size, 0, none⟩ = some (.int .i64 p) := cell_of_row _ _ 0 _ _ _ hB2
    have p1c : V2.cell? ⟨w.heap.size, 1, none⟩ = some (.int .i64 q) := cell_of_row _ _ 1 _ _ _ hB2
    refine wp_region_noPanic ?_
    refine wp_region_held_drew (S := (fun w' => w'.heap[b]? = V2.heap[b]? ∧ w'.heap[w.heap.size]? = V2.heap[w.heap.size]?)) (by kernel_rfl) ?_ (fun hHeld => ?_)
    · exact ⟨rfl, rfl⟩
    refine heldTake 0 (some 26) (v := ?_) rfl rfl (by kernel_rfl) (by kernel_rfl) (by kernel_rfl) (by rfl) hHeld (fun _ _ _ h => h) ?_ ?_
    rotate_left
    · intro w' hSw; (try dsimp only at hSw); go_simp <;> with_reducible rfl
    simp only [Act.put, List.setIfInBounds_toArray, List.set_cons_zero, List.set_cons_succ]
    refine heldTake 1 (some 27) (v := ?_) rfl rfl (by kernel_rfl) (by kernel_rfl) (by kernel_rfl) (by rfl) hHeld (fun _ _ _ h => h) ?_ ?_
    rotate_left
    · intro w' hSw; (try dsimp only at hSw); go_simp <;> with_reducible rfl
    simp only [Act.put, List.setIfInBounds_toArray, List.set_cons_zero, List.set_cons_succ]
    refine heldTake 2 (some 28) (v := ?_) rfl rfl (by kernel_rfl) (by kernel_rfl) (by kernel_rfl) (by rfl) hHeld (fun _ _ _ h => h) ?_ ?_
    rotate_left
    · intro w' hSw; (try dsimp only at hSw); go_simp <;> with_reducible rfl
    simp only [Act.put, List.setIfInBounds_toArray, List.set_cons_zero, List.set_cons_succ]
    refine heldTake 3 (some 29) (v := ?_) rfl rfl (by kernel_rfl) (by kernel_rfl) (by kernel_rfl) (by rfl) hHeld (fun _ _ _ h => h) ?_ ?_
    rotate_left
    · intro w' hSw; (try dsimp only at hSw); go_simp <;> with_reducible rfl
    simp only [Act.put, List.setIfInBounds_toArray, List.set_cons_zero, List.set_cons_succ]
    refine heldTake 4 (some 30) (v := ?_) rfl rfl (by kernel_rfl) (by kernel_rfl) (by kernel_rfl) (by rfl) hHeld (fun _ _ _ h => h) ?_ ?_
    rotate_left
    · intro w' hSw; (try dsimp only at hSw); go_simp <;> with_reducible rfl
    simp only [Act.put, List.setIfInBounds_toArray, List.set_cons_zero, List.set_cons_succ]
    refine heldTake 5 (some 31) (v := ?_) rfl rfl (by kernel_rfl) (by kernel_rfl) (by kernel_rfl) (by rfl) hHeld (fun _ _ _ h => h) ?_ ?_
    rotate_left
    · intro w' hSw; (try dsimp only at hSw); have q0 := (World.cell?_of_block (w := V2) (a := ⟨b, 0, none⟩) hSw.1).trans n0c; go_simp <;> with_reducible rfl
    simp only [Act.put, List.setIfInBounds_toArray, List.set_cons_zero, List.set_cons_succ]
    refine heldTake 6 (some 32) (v := ?_) rfl rfl (by kernel_rfl) (by kernel_rfl) (by kernel_rfl) (by rfl) hHeld (fun _ _ _ h => h) ?_ ?_
    rotate_left
    · intro w' hSw; (try dsimp only at hSw); go_simp <;> with_reducible rfl
    simp only [Act.put, List.setIfInBounds_toArray, List.set_cons_zero, List.set_cons_succ]
    refine heldTake 7 (some 33) (v := ?_) rfl rfl (by kernel_rfl) (by kernel_rfl) (by kernel_rfl) (by rfl) hHeld (fun _ _ _ h => h) ?_ ?_
    rotate_left
    · intro w' hSw; (try dsimp only at hSw); have q0 := (World.cell?_of_block (w := V2) (a := ⟨w.heap.size, 1, none⟩) hSw.2).trans p1c; go_simp <;> with_reducible rfl
    simp only [Act.put, List.setIfInBounds_toArray, List.set_cons_zero, List.set_cons_succ]
    refine heldTake 8 (some 34) (v := ?_) rfl rfl (by kernel_rfl) (by kernel_rfl) (by kernel_rfl) (by rfl) hHeld (fun _ _ _ h => h) ?_ ?_
    rotate_left
    · intro w' hSw; (try dsimp only at hSw); go_simp <;> with_reducible rfl
    simp only [Act.put, List.setIfInBounds_toArray, List.set_cons_zero, List.set_cons_succ]
    refine wpAnyH_done (by kernel_rfl) ?_ _
    refine NoPanic.normal ?_
    clear n0c n1c n2c n3c n4c n6c p0c p1c
    obtain ⟨V3, hVV3⟩ : ∃ V', V' = V2.drew := ⟨_, rfl⟩
    rw [← hVV3]
    have hX3 : V3.heap[b]? = some (.cells (nodeC y tl tr h e) 69 (0, 0)) := by rw [hVV3]; exact hX2
    have hB3 : V3.heap[w.heap.size]? = some (.cells #[.int .i64 p, .int .i64 q] 28 (0, 0)) := by rw [hVV3]; exact hB2
    have hl3 : tl.At V3 := by rw [hVV3]; exact hl2.drew
    have hr3 : tr.At V3 := by rw [hVV3]; exact hr2.drew
    have hO3 : OwnI V3 base (.slice A2 L2.length k2) L2 := by rw [hVV3]; exact hO2
    have hG3 : Grew base (.slice A l.length c) w (.slice A2 L2.length k2) V3 := by rw [hVV3]; exact hGw2.drew
    have hs3 : w.heap.size < V3.heap.size := by rw [hVV3]; exact hs2
    clear hVV3
    clear hX2 hB2 hl2 hr2 hO2 hGw2 hs2
    by_cases hq : q ≤ y.fr
    · have hq' : decide (q ≤ y.fr) = true := by simpa using hq
      go_wp2_with fail
      go_ret
      refine ⟨_, rfl, ?_, hG3⟩
      rw [Tr.ovl_append, Tr.ovl_from h4 hq, List.append_nil, HL2.out]
      exact hO3
    have hq' : decide (q ≤ y.fr) = false := by simpa using hq
    go_wp2_with fail
    have n0d : V3.cell? ⟨b, 0, none⟩ = some (.int .i64 y.fr) := cell_of_row _ _ 0 _ _ _ hX3
    have n1d : V3.cell? ⟨b, 1, none⟩ = some (.int .i64 y.to) := cell_of_row _ _ 1 _ _ _ hX3
    have n2d : V3.cell? ⟨b, 2, none⟩ = some (.int .i64 y.id) := cell_of_row _ _ 2 _ _ _ hX3
    have n3d : V3.cell? ⟨b, 3, none⟩ = some (.pointer tl.pa) := cell_of_row _ _ 3 _ _ _ hX3
    have n4d : V3.cell? ⟨b, 4, none⟩ = some (.pointer tr.pa) := cell_of_row _ _ 4 _ _ _ hX3
    have n6d : V3.cell? ⟨b, 6, none⟩ = some (.int .i64 e) := cell_of_row _ _ 6 _ _ _ hX3
    have p0d : V3.cell? ⟨w.heap.size, 0, none⟩ = some (.int .i64 p) := cell_of_row _ _ 0 _ _ _ hB3
    have p1d : V3.cell? ⟨w.heap.size, 1, none⟩ = some (.int .i64 q) := cell_of_row _ _ 1 _ _ _ hB3
    refine wp_region_noPanic ?_
    refine wp_region_held_drew (S := (fun w' => w'.heap[b]? = V3.heap[b]? ∧ w'.heap[w.heap.size]? = V3.heap[w.heap.size]?)) (by kernel_rfl) ?_ (fun hHeld => ?_)
    · exact ⟨rfl, rfl⟩
    refine heldTake 0 (some 36) (v := ?_) rfl rfl (by kernel_rfl) (by kernel_rfl) (by kernel_rfl) (by rfl) hHeld (fun _ _ _ h => h) ?_ ?_
    rotate_left
    · intro w' hSw; (try dsimp only at hSw); go_simp <;> with_reducible rfl
    simp only [Act.put, List.setIfInBounds_toArray, List.set_cons_zero, List.set_cons_succ]
    refine heldTake 1 (some 37) (v := ?_) rfl rfl (by kernel_rfl) (by kernel_rfl) (by kernel_rfl) (by rfl) hHeld (fun _ _ _ h => h) ?_ ?_
    rotate_left
    · intro w' hSw; (try dsimp only at hSw); go_simp <;> with_reducible rfl
    simp only [Act.put, List.setIfInBounds_toArray, List.set_cons_zero, List.set_cons_succ]
    refine heldTake 2 (some 38) (v := ?_) rfl rfl (by kernel_rfl) (by kernel_rfl) (by kernel_rfl) (by rfl) hHeld (fun _ _ _ h => h) ?_ ?_
    rotate_left
    · intro w' hSw; (try dsimp only at hSw); go_simp <;> with_reducible rfl
    simp only [Act.put, List.setIfInBounds_toArray, List.set_cons_zero, List.set_cons_succ]
    refine heldTake 3 (some 39) (v := ?_) rfl rfl (by kernel_rfl) (by kernel_rfl) (by kernel_rfl) (by rfl) hHeld (fun _ _ _ h => h) ?_ ?_
    rotate_left
    · intro w' hSw; (try dsimp only at hSw); go_simp <;> with_reducible rfl
    simp only [Act.put, List.setIfInBounds_toArray, List.set_cons_zero, List.set_cons_succ]
    refine heldTake 4 (some 40) (v := ?_) rfl rfl (by kernel_rfl) (by kernel_rfl) (by kernel_rfl) (by rfl) hHeld (fun _ _ _ h => h) ?_ ?_
    rotate_left
    · intro w' hSw; (try dsimp only at hSw); go_simp <;> with_reducible rfl
    simp only [Act.put, List.setIfInBounds_toArray, List.set_cons_zero, List.set_cons_succ]
    refine heldTake 5 (some 41) (v := ?_) rfl rfl (by kernel_rfl) (by kernel_rfl) (by kernel_rfl) (by rfl) hHeld (fun _ _ _ h => h) ?_ ?_
    rotate_left
    · intro w' hSw; (try dsimp only at hSw); have q0 := (World.cell?_of_block (w := V3) (a := ⟨b, 1, none⟩) hSw.1).trans n1d; go_simp <;> with_reducible rfl
    simp only [Act.put, List.setIfInBounds_toArray, List.set_cons_zero, List.set_cons_succ]
    refine heldTake 6 (some 42) (v := ?_) rfl rfl (by kernel_rfl) (by kernel_rfl) (by kernel_rfl) (by rfl) hHeld (fun _ _ _ h => h) ?_ ?_
    rotate_left
    · intro w' hSw; (try dsimp only at hSw); go_simp <;> with_reducible rfl
    simp only [Act.put, List.setIfInBounds_toArray, List.set_cons_zero, List.set_cons_succ]
    refine heldTake 7 (some 43) (v := ?_) rfl rfl (by kernel_rfl) (by kernel_rfl) (by kernel_rfl) (by rfl) hHeld (fun _ _ _ h => h) ?_ ?_
    rotate_left
    · intro w' hSw; (try dsimp only at hSw); have q0 := (World.cell?_of_block (w := V3) (a := ⟨w.heap.size, 0, none⟩) hSw.2).trans p0d; go_simp <;> with_reducible rfl
    simp only [Act.put, List.setIfInBounds_toArray, List.set_cons_zero, List.set_cons_succ]
    refine heldTake 8 (some 44) (v := ?_) rfl rfl (by kernel_rfl) (by kernel_rfl) (by kernel_rfl) (by rfl) hHeld (fun _ _ _ h => h) ?_ ?_
    rotate_left
    · intro w' hSw; (try dsimp only at hSw); go_simp <;> with_reducible rfl
    simp only [Act.put, List.setIfInBounds_toArray, List.set_cons_zero, List.set_cons_succ]
    refine wpAnyH_done (by kernel_rfl) ?_ _
    refine NoPanic.normal ?_
    clear n0d n1d n2d n3d n4d n6d p0d p1d
    obtain ⟨V4, hVV4⟩ : ∃ V', V' = V3.drew := ⟨_, rfl⟩
    rw [← hVV4]
    have hX4 : V4.heap[b]? = some (.cells (nodeC y tl tr h e) 69 (0, 0)) := by rw [hVV4]; exact hX3
    have hB4 : V4.heap[w.heap.size]? = some (.cells #[.int .i64 p, .int .i64 q] 28 (0, 0)) := by rw [hVV4]; exact hB3
    have hl4 : tl.At V4 := by rw [hVV4]; exact hl3.drew
    have hr4 : tr.At V4 := by rw [hVV4]; exact hr3.drew
    have hO4 : OwnI V4 base (.slice A2 L2.length k2) L2 := by rw [hVV4]; exact hO3
    have hG4 : Grew base (.slice A l.length c) w (.slice A2 L2.length k2) V4 := by rw [hVV4]; exact hG3.drew
    have hs4 : w.heap.size < V4.heap.size := by rw [hVV4]; exact hs3
    clear hVV4
    clear hX3 hB3 hl3 hr3 hO3 hG3 hs3
    have hv4 := hv2
    by_cases hy : p < y.to
    · have hy' : decide (p < y.to) = true := by simpa using hy
      have n0e : V4.cell? ⟨b, 0, none⟩ = some (.int .i64 y.fr) := cell_of_row _ _ 0 _ _ _ hX4
      have n1e : V4.cell? ⟨b, 1, none⟩ = some (.int .i64 y.to) := cell_of_row _ _ 1 _ _ _ hX4
      have n2e : V4.cell? ⟨b, 2, none⟩ = some (.int .i64 y.id) := cell_of_row _ _ 2 _ _ _ hX4
      have n3e : V4.cell? ⟨b, 3, none⟩ = some (.pointer tl.pa) := cell_of_row _ _ 3 _ _ _ hX4
      have n4e : V4.cell? ⟨b, 4, none⟩ = some (.pointer tr.pa) := cell_of_row _ _ 4 _ _ _ hX4
      have n6e : V4.cell? ⟨b, 6, none⟩ = some (.int .i64 e) := cell_of_row _ _ 6 _ _ _ hX4
      have p0e : V4.cell? ⟨w.heap.size, 0, none⟩ = some (.int .i64 p) := cell_of_row _ _ 0 _ _ _ hB4
      have p1e : V4.cell? ⟨w.heap.size, 1, none⟩ = some (.int .i64 q) := cell_of_row _ _ 1 _ _ _ hB4
      obtain ⟨i0, hi, hz0, hz1, hz2⟩ := info_parts infoI
      have hbb4 : base ≤ V4.heap.size := by omega
      have hnew := Rd.new' V4 V4.heap.size rfl [.int .i64 y.id] 3 1 1 rfl (by unfold maxLen; omega)
      have hOa : (V4.alloc (.cells #[.int .i64 y.id] 3)).ownsRow base 3 1 (.slice A2 L2.length k2) L2.length (iv L2) := World.ownsRow.alloc hO4 _
      go_wp2_with (at_builtin; refine wpList_append_app _ rfl (.tmp 45) (.tmp 51) 32 rfl base 3 i0 _ 1 8 Try.underlying32 hi hz0 hz1 hz2 rfl (by omega) _ L2.length (iv L2) rfl (.inl hOa) (· = V4.heap.size) _ 1 [.int .i64 y.id] rfl hnew (one_one rfl) (by unfold maxLen; omega) (by omega) (by simp; omega) ?_; intro v5 w5 _ h5 hg5 hb5 ha5; have h5 := h5 (.inr hOa); obtain ⟨L5, hL5⟩ : ∃ L5, L5 = L2 ++ [y.id] := ⟨_, rfl⟩; have hO5 : OwnI w5 base v5 L5 := (by rw [hL5]; exact own_cast (a := L2) (b := [y.id]) h5); have hln5 : L5.length ≤ L2.length + 1 := (by rw [hL5]; simp); have HL5 := Lib.hid hL5.symm; clear hL5; have hGs : Grew base (.slice A2 L2.length k2) (V4.alloc (.cells #[.int .i64 y.id] 3)) v5 w5 := Grew.step hg5 hb5 ha5; clear h5 hg5 hb5 ha5 n0e n1e n2e n3e n4e n6e p0e p1e hnew hi hz0 hz1 hz2; obtain ⟨A5, k5, rfl, c51, c52, c53⟩ := hO5.open_; have HC53 := Lib.hid c53; clear c53)
      have hG45 : Grew base (.slice A2 L2.length k2) V4 (.slice A5 L5.length k5) w5 := ((Grew.refl base (.slice A2 L2.length k2) V4).alloc hbb4 (.cells #[.int .i64 y.id] 3)).trans hGs
      have hX5 := (hG45.below.block b hc0).trans hX4
      have hB5 := (hG45.box hs4 (fun c hc => by rintro rfl; exact hv4 hc)).trans hB4
      have hr5 := hr4.chg (hG45.chg) (fun c hc h => by have := hcr c hc; omega)
      have hs5 : w.heap.size < w5.heap.size := Nat.lt_of_lt_of_le hs4 hG45.size
      have hv5 : some w.heap.size ≠ (Value.slice A5 L5.length k5).ownBlock := ne_own hv4 hG45 (by omega)
      have hG5 := hG4.trans hG45
      have hlb5 : L5.length + tr.items.length ≤ 1099511627776 := by omega
      clear hln5 hX4 hB4 hl4 hr4 hO4 hG4 hs4 hOa hGs hG45 hbb4
      go_wp2_with fail
      have n0f : w5.cell? ⟨b, 0, none⟩ = some (.int .i64 y.fr) := cell_of_row _ _ 0 _ _ _ hX5
      have n1f : w5.cell? ⟨b, 1, none⟩ = some (.int .i64 y.to) := cell_of_row _ _ 1 _ _ _ hX5
      have n2f : w5.cell? ⟨b, 2, none⟩ = some (.int .i64 y.id) := cell_of_row _ _ 2 _ _ _ hX5
      have n3f : w5.cell? ⟨b, 3, none⟩ = some (.pointer tl.pa) := cell_of_row _ _ 3 _ _ _ hX5
      have n4f : w5.cell? ⟨b, 4, none⟩ = some (.pointer tr.pa) := cell_of_row _ _ 4 _ _ _ hX5
      have n6f : w5.cell? ⟨b, 6, none⟩ = some (.int .i64 e) := cell_of_row _ _ 6 _ _ _ hX5
      have p0f : w5.cell? ⟨w.heap.size, 0, none⟩ = some (.int .i64 p) := cell_of_row _ _ 0 _ _ _ hB5
      have p1f : w5.cell? ⟨w.heap.size, 1, none⟩ = some (.int .i64 q) := cell_of_row _ _ 1 _ _ _ hB5
      refine wp_region_noPanic ?_
      refine wp_region_held_drew (S := (fun w' => w'.heap[b]? = w5.heap[b]? ∧ w'.heap[w.heap.size]? = w5.heap[w.heap.size]?)) (by kernel_rfl) ?_ (fun hHeld => ?_)
      · exact ⟨rfl, rfl⟩
      refine heldTake 0 (some 53) (v := ?_) rfl rfl (by kernel_rfl) (by kernel_rfl) (by kernel_rfl) (by rfl) hHeld (fun _ _ _ h => h) ?_ ?_
      rotate_left
      · intro w' hSw; (try dsimp only at hSw); go_simp <;> with_reducible rfl
      simp only [Act.put, List.setIfInBounds_toArray, List.set_cons_zero, List.set_cons_succ]
      refine heldTake 1 (some 54) (v := ?_) rfl rfl (by kernel_rfl) (by kernel_rfl) (by kernel_rfl) (by rfl) hHeld (fun _ _ _ h => h) ?_ ?_
      rotate_left
      · intro w' hSw; (try dsimp only at hSw); go_simp <;> with_reducible rfl
      simp only [Act.put, List.setIfInBounds_toArray, List.set_cons_zero, List.set_cons_succ]
      refine heldTake 2 (some 55) (v := ?_) rfl rfl (by kernel_rfl) (by kernel_rfl) (by kernel_rfl) (by rfl) hHeld (fun _ _ _ h => h) ?_ ?_
      rotate_left
      · intro w' hSw; (try dsimp only at hSw); go_simp <;> with_reducible rfl
      simp only [Act.put, List.setIfInBounds_toArray, List.set_cons_zero, List.set_cons_succ]
      refine heldTake 3 (some 56) (v := ?_) rfl rfl (by kernel_rfl) (by kernel_rfl) (by kernel_rfl) (by rfl) hHeld (fun _ _ _ h => h) ?_ ?_
      rotate_left
      · intro w' hSw; (try dsimp only at hSw); have q0 := (World.cell?_of_block (w := w5) (a := ⟨b, 4, none⟩) hSw.1).trans n4f; go_simp <;> with_reducible rfl
      simp only [Act.put, List.setIfInBounds_toArray, List.set_cons_zero, List.set_cons_succ]
      refine heldTake 4 (some 57) (v := ?_) rfl rfl (by kernel_rfl) (by kernel_rfl) (by kernel_rfl) (by rfl) hHeld (fun _ _ _ h => h) ?_ ?_
      rotate_left
      · intro w' hSw; (try dsimp only at hSw); have q0 := (World.cell?_of_block (w := w5) (a := ⟨w.heap.size, 0, none⟩) hSw.2).trans p0f; have q1 := (World.cell?_of_block (w := w5) (a := ⟨w.heap.size, 1, none⟩) hSw.2).trans p1f; go_simp <;> with_reducible rfl
      simp only [Act.put, List.setIfInBounds_toArray, List.set_cons_zero, List.set_cons_succ]
      refine heldTake 5 (some 58) (v := ?_) rfl rfl (by kernel_rfl) (by kernel_rfl) (by kernel_rfl) (by rfl) hHeld (fun _ _ _ h => h) ?_ ?_
      rotate_left
      · intro w' hSw; (try dsimp only at hSw); go_simp <;> with_reducible rfl
      simp only [Act.put, List.setIfInBounds_toArray, List.set_cons_zero, List.set_cons_succ]
      refine heldCall 6 (some 59) (f := ?_) (args := ?_) rfl rfl (by kernel_rfl) (by rfl) ?_ ?_
      rotate_left 2
      · go_simp <;> first | (constructor <;> with_reducible rfl) | with_reducible rfl
      (with_reducible refine (ihr L5 _ w5.drew base hr5.drew (own_d hO5) ?_ hcr hrO hsr ?_).mono ?_)
      · show base ≤ w5.heap.size; omega
      · exact hlb5
      rintro e6 V6 ⟨v6, rfl, hO6, hG6'⟩
      have hG6 := Grew.undrew hG6'
      clear hG6'
      refine ⟨_, rfl, keepAnd ?_ (fun hNew => ?_)⟩
      · exact ⟨hG6.below.block b hc0, hG6.box hs5 (fun c hc => by rintro rfl; exact hv5 hc)⟩
      clear hHeld
      have hHeld := hNew
      clear hNew
      simp only [Act.put, List.setIfInBounds_toArray, List.set_cons_zero, List.set_cons_succ]
      refine heldTake 7 (some 6) (v := ?_) rfl rfl (by kernel_rfl) (by kernel_rfl) (by kernel_rfl) (by rfl) hHeld (fun _ _ _ h => h) ?_ ?_
      rotate_left
      · intro w' hSw; (try dsimp only at hSw); go_simp <;> with_reducible rfl
      simp only [Act.put, List.setIfInBounds_toArray, List.set_cons_zero, List.set_cons_succ]
      refine wpAnyH_done (by kernel_rfl) ?_ _
      refine NoPanic.normal ?_
      clear n0f n1f n2f n3f n4f n6f p0f p1f
      go_wp2_with fail
      go_ret
      refine ⟨v6, rfl, ?_, hG5.trans hG6⟩
      rw [Tr.ovl_append, Tr.ovl_cons, if_pos ⟨by omega, hy⟩, ← List.append_assoc, ← List.append_assoc, HL2.out, HL5.out]
      exact hO6
    · have hy' : decide (p < y.to) = false := by simpa using hy
      go_wp2_with fail
      have n0g : V4.cell? ⟨b, 0, none⟩ = some (.int .i64 y.fr) := cell_of_row _ _ 0 _ _ _ hX4
      have n1g : V4.cell? ⟨b, 1, none⟩ = some (.int .i64 y.to) := cell_of_row _ _ 1 _ _ _ hX4
      have n2g : V4.cell? ⟨b, 2, none⟩ = some (.int .i64 y.id) := cell_of_row _ _ 2 _ _ _ hX4
      have n3g : V4.cell? ⟨b, 3, none⟩ = some (.pointer tl.pa) := cell_of_row _ _ 3 _ _ _ hX4
      have n4g : V4.cell? ⟨b, 4, none⟩ = some (.pointer tr.pa) := cell_of_row _ _ 4 _ _ _ hX4
      have n6g : V4.cell? ⟨b, 6, none⟩ = some (.int .i64 e) := cell_of_row _ _ 6 _ _ _ hX4
      have p0g : V4.cell? ⟨w.heap.size, 0, none⟩ = some (.int .i64 p) := cell_of_row _ _ 0 _ _ _ hB4
      have p1g : V4.cell? ⟨w.heap.size, 1, none⟩ = some (.int .i64 q) := cell_of_row _ _ 1 _ _ _ hB4
      refine wp_region_noPanic ?_
      refine wp_region_held_drew (S := (fun w' => w'.heap[b]? = V4.heap[b]? ∧ w'.heap[w.heap.size]? = V4.heap[w.heap.size]?)) (by kernel_rfl) ?_ (fun hHeld => ?_)
      · exact ⟨rfl, rfl⟩
      refine heldTake 0 (some 53) (v := ?_) rfl rfl (by kernel_rfl) (by kernel_rfl) (by kernel_rfl) (by rfl) hHeld (fun _ _ _ h => h) ?_ ?_
      rotate_left
      · intro w' hSw; (try dsimp only at hSw); go_simp <;> with_reducible rfl
      simp only [Act.put, List.setIfInBounds_toArray, List.set_cons_zero, List.set_cons_succ]
      refine heldTake 1 (some 54) (v := ?_) rfl rfl (by kernel_rfl) (by kernel_rfl) (by kernel_rfl) (by rfl) hHeld (fun _ _ _ h => h) ?_ ?_
      rotate_left
      · intro w' hSw; (try dsimp only at hSw); go_simp <;> with_reducible rfl
      simp only [Act.put, List.setIfInBounds_toArray, List.set_cons_zero, List.set_cons_succ]
      refine heldTake 2 (some 55) (v := ?_) rfl rfl (by kernel_rfl) (by kernel_rfl) (by kernel_rfl) (by rfl) hHeld (fun _ _ _ h => h) ?_ ?_
      rotate_left
      · intro w' hSw; (try dsimp only at hSw); go_simp <;> with_reducible rfl
      simp only [Act.put, List.setIfInBounds_toArray, List.set_cons_zero, List.set_cons_succ]
      refine heldTake 3 (some 56) (v := ?_) rfl rfl (by kernel_rfl) (by kernel_rfl) (by kernel_rfl) (by rfl) hHeld (fun _ _ _ h => h) ?_ ?_
      rotate_left
      · intro w' hSw; (try dsimp only at hSw); have q0 := (World.cell?_of_block (w := V4) (a := ⟨b, 4, none⟩) hSw.1).trans n4g; go_simp <;> with_reducible rfl
      simp only [Act.put, List.setIfInBounds_toArray, List.set_cons_zero, List.set_cons_succ]
      refine heldTake 4 (some 57) (v := ?_) rfl rfl (by kernel_rfl) (by kernel_rfl) (by kernel_rfl) (by rfl) hHeld (fun _ _ _ h => h) ?_ ?_
      rotate_left
      · intro w' hSw; (try dsimp only at hSw); have q0 := (World.cell?_of_block (w := V4) (a := ⟨w.heap.size, 0, none⟩) hSw.2).trans p0g; have q1 := (World.cell?_of_block (w := V4) (a := ⟨w.heap.size, 1, none⟩) hSw.2).trans p1g; go_simp <;> with_reducible rfl
      simp only [Act.put, List.setIfInBounds_toArray, List.set_cons_zero, List.set_cons_succ]
      refine heldTake 5 (some 58) (v := ?_) rfl rfl (by kernel_rfl) (by kernel_rfl) (by kernel_rfl) (by rfl) hHeld (fun _ _ _ h => h) ?_ ?_
      rotate_left
      · intro w' hSw; (try dsimp only at hSw); go_simp <;> with_reducible rfl
      simp only [Act.put, List.setIfInBounds_toArray, List.set_cons_zero, List.set_cons_succ]
      refine heldCall 6 (some 59) (f := ?_) (args := ?_) rfl rfl (by kernel_rfl) (by rfl) ?_ ?_
      rotate_left 2
      · go_simp <;> first | (constructor <;> with_reducible rfl) | with_reducible rfl
      (with_reducible refine (ihr L2 _ V4.drew base hr4.drew (own_d hO4) ?_ hcr hrO hsr ?_).mono ?_)
      · show base ≤ V4.heap.size; omega
      · omega
      rintro e6 V6 ⟨v6, rfl, hO6, hG6'⟩
      have hG6 := Grew.undrew hG6'
      clear hG6'
      refine ⟨_, rfl, keepAnd ?_ (fun hNew => ?_)⟩
      · exact ⟨hG6.below.block b hc0, hG6.box hs4 (fun c hc => by rintro rfl; exact hv4 hc)⟩
      clear hHeld
      have hHeld := hNew
      clear hNew
      simp only [Act.put, List.setIfInBounds_toArray, List.set_cons_zero, List.set_cons_succ]
      refine heldTake 7 (some 6) (v := ?_) rfl rfl (by kernel_rfl) (by kernel_rfl) (by kernel_rfl) (by rfl) hHeld (fun _ _ _ h => h) ?_ ?_
      rotate_left
      · intro w' hSw; (try dsimp only at hSw); go_simp <;> with_reducible rfl
      simp only [Act.put, List.setIfInBounds_toArray, List.set_cons_zero, List.set_cons_succ]
      refine wpAnyH_done (by kernel_rfl) ?_ _
      refine NoPanic.normal ?_
      clear n0g n1g n2g n3g n4g n6g p0g p1g
      go_wp2_with fail
      go_ret
      refine ⟨v6, rfl, ?_, hG4.trans hG6⟩
      rw [Tr.ovl_append, Tr.ovl_cons, if_neg (fun hh => by have := hh.2; omega), List.nil_append, ← List.append_assoc, HL2.out]
      exact hO6
end Go.Proofs.Ytkocehfapcmiiaa
