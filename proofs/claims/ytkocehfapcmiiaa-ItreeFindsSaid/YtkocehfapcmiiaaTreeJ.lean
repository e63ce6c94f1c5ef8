/-
  Trees: all items; their number, the height.
-/
import Derived.Test.YtkocehfapcmiiaaTreeI
namespace Go.Proofs.Ytkocehfapcmiiaa
open Go.RowKit Go.Lib Go.IntWalk

theorem own_dit {w : World} {base : Nat} {v : Value} {l : List It} (h : OwnIt w base v l) : OwnIt w.drew base v l := h
theorem rd_itC (w : World) (y : It) : Rd (w.alloc (.cells #[.int .i64 y.fr, .int .i64 y.to, .int .i64 y.id] 30)) (· = w.heap.size) 3 (.slice (some ⟨w.heap.size, 0, none⟩) 1 1) 1 (itC y) := Rd.new' w w.heap.size rfl (itC y) 30 3 1 rfl (by unfold maxLen; omega)
theorem itC_one (y : It) : ∀ u ∈ itC y, u.oneCell' = true := by
  intro u hu
  simp only [itC, List.mem_cons, List.not_mem_nil, or_false] at hu
  rcases hu with rfl | rfl | rfl <;> rfl

set_option maxRecDepth 100000 in
set_option maxHeartbeats 4000000 in
theorem list_any : ∀ (t : Tr) (l : List It) (v : Value) (w : World) (base : Nat), t.At w → OwnIt w base v l → base ≤ w.heap.size → (∀ c ∈ t.blocks, c < base) → t.Ok → srtI t.items → l.length + t.items.length ≤ 1099511627776 →
    Calls Try.prog 37 #[.pointer t.pa, v] w (ItsOut base v (l ++ t.items) w) := by
  intro t
  induction t with
  | nil =>
    intro l v w base hA hO hb hc hk hs hl
    rw [show Tr.nil.pa = none from rfl, show l ++ Tr.nil.items = l from List.append_nil l]
    obtain ⟨A, c, rfl, c1, c2, c3⟩ := hO.open_
    have HC3 := Lib.hid c3
    clear c3
    go_enter Try.func37, Try.ntmps37
    go_wp2_with fail
    go_ret
    exact ⟨_, rfl, hO, Grew.refl _ _ _⟩
  | node b y tl tr h e ihl ihr =>
    intro l v w base hA hO hb hc hk hs hlen
    rw [show (Tr.node b y tl tr h e).pa = some ⟨b, 0, none⟩ from rfl]
    obtain ⟨hX, hl, hr⟩ := hA
    have hc0 : b < base := hc b (List.mem_cons_self ..)
    have hcl : ∀ c ∈ tl.blocks, c < base := fun c hh => hc c (List.mem_cons_of_mem _ (List.mem_append_left _ hh))
    have hcr : ∀ c ∈ tr.blocks, c < base := fun c hh => hc c (List.mem_cons_of_mem _ (List.mem_append_right _ hh))
    obtain ⟨_, _, _, _, hlO, hrO⟩ := hk
    rw [Tr.items_node] at hs hlen
    obtain ⟨hsl, hsr, h3, h4, h5⟩ := srt_app.1 hs
    rw [List.length_append, List.length_cons] at hlen
    have hlA : (l ++ tl.items).length ≤ l.length + tl.items.length := by rw [List.length_append]; omega
    have hvb : some w.heap.size ≠ v.ownBlock := own_ne_new hO
    obtain ⟨A, c, rfl, c1, c2, c3⟩ := hO.open_
    have HC3 := Lib.hid c3
    clear c3 hc hs
    have n0 : w.cell? ⟨b, 0, none⟩ = some (.int .i64 y.fr) := cell_of_row _ _ 0 _ _ _ hX
    have n1 : w.cell? ⟨b, 1, none⟩ = some (.int .i64 y.to) := cell_of_row _ _ 1 _ _ _ hX
    have n2 : w.cell? ⟨b, 2, none⟩ = some (.int .i64 y.id) := cell_of_row _ _ 2 _ _ _ hX
    have n3 : w.cell? ⟨b, 3, none⟩ = some (.pointer tl.pa) := cell_of_row _ _ 3 _ _ _ hX
    have n4 : w.cell? ⟨b, 4, none⟩ = some (.pointer tr.pa) := cell_of_row _ _ 4 _ _ _ hX
    go_enter Try.func37, Try.ntmps37
    go_wp2_with fail
    refine wp_region_noPanic ?_
    refine beginT (S := (fun w' => w'.heap[b]? = w.heap[b]?)) 17 (by kernel_rfl) ?_ (fun hHeld => ?_)
    · rfl
    refine takeT 0 (some 8) (v := ?_) rfl rfl (by kernel_rfl) (by kernel_rfl) (by kernel_rfl) (by kernel_rfl) (by rfl) hHeld (fun _ _ _ h => h) ?_ ?_
    rotate_left
    · intro w' hSw; (try dsimp only at hSw); go_simp <;> with_reducible rfl
    simp only [Act.put, List.setIfInBounds_toArray, List.set_cons_zero, List.set_cons_succ]
    refine takeT 1 (some 9) (v := ?_) rfl rfl (by kernel_rfl) (by kernel_rfl) (by kernel_rfl) (by kernel_rfl) (by rfl) hHeld (fun _ _ _ h => h) ?_ ?_
    rotate_left
    · intro w' hSw; (try dsimp only at hSw); go_simp <;> with_reducible rfl
    simp only [Act.put, List.setIfInBounds_toArray, List.set_cons_zero, List.set_cons_succ]
    refine takeT 2 (some 10) (v := ?_) rfl rfl (by kernel_rfl) (by kernel_rfl) (by kernel_rfl) (by kernel_rfl) (by rfl) hHeld (fun _ _ _ h => h) ?_ ?_
    rotate_left
    · intro w' hSw; (try dsimp only at hSw); go_simp <;> with_reducible rfl
    simp only [Act.put, List.setIfInBounds_toArray, List.set_cons_zero, List.set_cons_succ]
    refine takeT 3 (some 11) (v := ?_) rfl rfl (by kernel_rfl) (by kernel_rfl) (by kernel_rfl) (by kernel_rfl) (by rfl) hHeld (fun _ _ _ h => h) ?_ ?_
    rotate_left
    · intro w' hSw; (try dsimp only at hSw); have q0 := (World.cell?_of_block (w := w) (a := ⟨b, 4, none⟩) hSw).trans n4; go_simp <;> with_reducible rfl
    simp only [Act.put, List.setIfInBounds_toArray, List.set_cons_zero, List.set_cons_succ]
    refine takeT 4 (some 12) (v := ?_) rfl rfl (by kernel_rfl) (by kernel_rfl) (by kernel_rfl) (by kernel_rfl) (by rfl) hHeld (fun _ _ _ h => h) ?_ ?_
    rotate_left
    · intro w' hSw; (try dsimp only at hSw); go_simp <;> with_reducible rfl
    simp only [Act.put, List.setIfInBounds_toArray, List.set_cons_zero, List.set_cons_succ]
    refine takeT 5 (some 13) (v := ?_) rfl rfl (by kernel_rfl) (by kernel_rfl) (by kernel_rfl) (by kernel_rfl) (by rfl) hHeld (fun _ _ _ h => h) ?_ ?_
    rotate_left
    · intro w' hSw; (try dsimp only at hSw); go_simp <;> with_reducible rfl
    simp only [Act.put, List.setIfInBounds_toArray, List.set_cons_zero, List.set_cons_succ]
    refine takeT 6 (some 14) (v := ?_) rfl rfl (by kernel_rfl) (by kernel_rfl) (by kernel_rfl) (by kernel_rfl) (by rfl) hHeld (fun _ _ _ h => h) ?_ ?_
    rotate_left
    · intro w' hSw; (try dsimp only at hSw); go_simp <;> with_reducible rfl
    simp only [Act.put, List.setIfInBounds_toArray, List.set_cons_zero, List.set_cons_succ]
    refine takeT 7 (some 15) (v := ?_) rfl rfl (by kernel_rfl) (by kernel_rfl) (by kernel_rfl) (by kernel_rfl) (by rfl) hHeld (fun _ _ _ h => h) ?_ ?_
    rotate_left
    · intro w' hSw; (try dsimp only at hSw); have q0 := (World.cell?_of_block (w := w) (a := ⟨b, 3, none⟩) hSw).trans n3; go_simp <;> with_reducible rfl
    simp only [Act.put, List.setIfInBounds_toArray, List.set_cons_zero, List.set_cons_succ]
    refine takeT 8 (some 16) (v := ?_) rfl rfl (by kernel_rfl) (by kernel_rfl) (by kernel_rfl) (by kernel_rfl) (by rfl) hHeld (fun _ _ _ h => h) ?_ ?_
    rotate_left
    · intro w' hSw; (try dsimp only at hSw); go_simp <;> with_reducible rfl
    simp only [Act.put, List.setIfInBounds_toArray, List.set_cons_zero, List.set_cons_succ]
    refine takeT 10 (some 18) (v := ?_) rfl rfl (by kernel_rfl) (by kernel_rfl) (by kernel_rfl) (by kernel_rfl) (by rfl) hHeld (fun _ _ _ h => h) ?_ ?_
    rotate_left
    · intro w' hSw; (try dsimp only at hSw); go_simp <;> with_reducible rfl
    simp only [Act.put, List.setIfInBounds_toArray, List.set_cons_zero, List.set_cons_succ]
    refine takeT 11 (some 19) (v := ?_) rfl rfl (by kernel_rfl) (by kernel_rfl) (by kernel_rfl) (by kernel_rfl) (by rfl) hHeld (fun _ _ _ h => h) ?_ ?_
    rotate_left
    · intro w' hSw; (try dsimp only at hSw); go_simp <;> with_reducible rfl
    simp only [Act.put, List.setIfInBounds_toArray, List.set_cons_zero, List.set_cons_succ]
    refine takeT 12 (some 20) (v := ?_) rfl rfl (by kernel_rfl) (by kernel_rfl) (by kernel_rfl) (by kernel_rfl) (by rfl) hHeld (fun _ _ _ h => h) ?_ ?_
    rotate_left
    · intro w' hSw; (try dsimp only at hSw); go_simp <;> with_reducible rfl
    simp only [Act.put, List.setIfInBounds_toArray, List.set_cons_zero, List.set_cons_succ]
    refine takeT 13 (some 21) (v := ?_) rfl rfl (by kernel_rfl) (by kernel_rfl) (by kernel_rfl) (by kernel_rfl) (by rfl) hHeld (fun _ _ _ h => h) ?_ ?_
    rotate_left
    · intro w' hSw; (try dsimp only at hSw); have q0 := (World.cell?_of_block (w := w) (a := ⟨b, 0, none⟩) hSw).trans n0; have q1 := (World.cell?_of_block (w := w) (a := ⟨b, 1, none⟩) hSw).trans n1; have q2 := (World.cell?_of_block (w := w) (a := ⟨b, 2, none⟩) hSw).trans n2; go_simp <;> with_reducible rfl
    simp only [Act.put, List.setIfInBounds_toArray, List.set_cons_zero, List.set_cons_succ]
    refine fork2 9 14 (by kernel_rfl) ?_ ?_
    · refine callF 9 (some 17) (f := ?_) (args := ?_) rfl rfl (by rfl) ?_ ?_
      rotate_left 2
      · go_simp <;> first | (constructor <;> with_reducible rfl) | with_reducible rfl
      (with_reducible refine (ihl l _ w.drew base hl.drew (own_dit hO) ?_ hcl hlO hsl ?_).mono ?_)
      · exact hb
      · omega
      rintro e3 w3 ⟨v3, rfl, hO3, hG3'⟩
      have hG3 := Grew.undrew hG3'
      clear hG3'
      have hO3b := hO3
      obtain ⟨A3, k3, rfl, c31, c32, c33⟩ := hO3b.open_
      have HC33 := Lib.hid c33
      clear c33
      have hX3 := (hG3.below.block b hc0).trans hX
      refine ⟨_, rfl, ?_⟩
      refine keepAnd ?_ (fun hNew => ?_)
      · intro _; exact hX3.trans hX.symm
      have hNew := hNew (by decide)
      clear hHeld
      have hHeld := hNew
      clear hNew
      simp only [Act.put, List.setIfInBounds_toArray, List.set_cons_zero, List.set_cons_succ]
      refine fork1 14 (by kernel_rfl) ?_
      refine runF 14 (some 22) (v := .slice (some ⟨w3.heap.size, 0, none⟩) 1 1) (w' := w3.alloc (.cells #[.int .i64 y.fr, .int .i64 y.to, .int .i64 y.id] 30)) rfl rfl (by rfl) ?_ ?_
      · go_simp <;> with_reducible rfl
      obtain ⟨x4, hx4⟩ : ∃ w', w' = w3.alloc (.cells #[.int .i64 y.fr, .int .i64 y.to, .int .i64 y.id] 30) := ⟨_, rfl⟩
      rw [← hx4]
      have hN : Rd x4 (· = w3.heap.size) 3 (.slice (some ⟨w3.heap.size, 0, none⟩) 1 1) 1 (itC y) := by rw [hx4]; exact rd_itC w3 y
      have hOA : OwnIt x4 base (.slice A3 (l ++ tl.items).length k3) (l ++ tl.items) := by rw [hx4]; exact World.ownsRow.alloc hO3 _
      have hGA : Grew base (.slice A l.length c) w (.slice A3 (l ++ tl.items).length k3) x4 := by rw [hx4]; exact hG3.alloc hb _
      clear hx4
      have hsA : base ≤ x4.heap.size := Nat.le_trans hb hGA.size
      refine keepAnd ?_ (fun hNew => ?_)
      · intro _; exact hGA.below.block b hc0
      have hNew := hNew (by decide)
      clear hHeld
      have hHeld := hNew
      clear hNew
      simp only [Act.put, List.setIfInBounds_toArray, List.set_cons_zero, List.set_cons_succ]
      refine fork1 15 (by kernel_rfl) ?_
      refine opF 15 rfl (by rfl) ?_
      obtain ⟨i0, hi, hz0, hz1, hz2⟩ := info_parts infoC
      refine wp_append_app _ (.tmp 17) (.tmp 22) 22 rfl base 30 i0 _ 3 24 Try.underlying22 hi hz0 hz1 hz2 rfl (by omega) _ (l ++ tl.items).length (icv (l ++ tl.items)) rfl (.inl hOA) (· = w3.heap.size) _ 1 (itC y) rfl hN (itC_one y) (by unfold maxLen; omega) (by omega) hsA ?_
      intro v5 w5 _ h5 hg5 hb5 ha5
      have h5 := h5 (.inr hOA)
      obtain ⟨L5, hL5⟩ : ∃ L5, L5 = l ++ tl.items ++ [y] := ⟨_, rfl⟩
      have hO5 : OwnIt w5 base v5 L5 := (by rw [hL5]; exact owni_cast (a := l ++ tl.items) (b := [y]) h5)
      have hln5 : L5.length ≤ (l ++ tl.items).length + 1 := (by rw [hL5]; simp only [List.length_append, List.length_cons, List.length_nil]; omega)
      have HL5 := Lib.hid hL5.symm
      have hG5 := hGA.trans (Grew.step hg5 hb5 ha5)
      clear h5 hg5 hb5 ha5 hL5 hN hOA hGA hi hz0 hz1 hz2
      obtain ⟨A5, k5, rfl, c51, c52, c53⟩ := hO5.open_
      have HC53 := Lib.hid c53
      clear c53
      refine keepAnd ?_ (fun hNew => ?_)
      · intro _; exact hG5.below.block b hc0
      have hNew := hNew (by decide)
      clear hHeld
      have hHeld := hNew
      clear hNew
      simp only [Act.put, List.setIfInBounds_toArray, List.set_cons_zero, List.set_cons_succ]
      refine fork1 16 (by kernel_rfl) ?_
      refine callF 16 (some 24) (f := ?_) (args := ?_) rfl rfl (by rfl) ?_ ?_
      rotate_left 2
      · go_simp <;> first | (constructor <;> with_reducible rfl) | with_reducible rfl
      (with_reducible refine (ihr L5 _ w5 base (hr.chg hG5.chg (fun c hc h => by have := hcr c hc; omega)) hO5 (Nat.le_trans hb hG5.size) hcr hrO hsr ?_).mono ?_)
      · omega
      rintro e6 w6 ⟨v6, rfl, hO6, hG6⟩
      have hGF := hG5.trans hG6
      refine ⟨_, rfl, ?_⟩
      refine keepAnd ?_ (fun hNew => ?_)
      · intro _; exact hGF.below.block b hc0
      have hNew := hNew (by decide)
      clear hHeld
      have hHeld := hNew
      clear hNew
      simp only [Act.put, List.setIfInBounds_toArray, List.set_cons_zero, List.set_cons_succ]
      refine fork1 17 (by kernel_rfl) ?_
      refine runF 17 (some 4) (v := ?_) (w' := ?_) rfl rfl (by rfl) ?_ ?_
      rotate_left 2
      · go_simp <;> first | with_reducible rfl | (constructor <;> with_reducible rfl)
      refine ⟨fun h => absurd rfl h, ?_⟩
      clear hHeld
      simp only [Act.put, List.setIfInBounds_toArray, List.set_cons_zero, List.set_cons_succ]
      refine doneT (by kernel_rfl) ?_ _
      refine NoPanic.normal ?_
      go_wp2_with fail
      go_ret
      refine ⟨v6, rfl, ?_, hGF⟩
      rw [Tr.items_node, show l ++ (tl.items ++ y :: tr.items) = L5 ++ tr.items by rw [← HL5.out]; simp]
      exact hO6
    · refine runF 14 (some 22) (v := .slice (some ⟨w.drew.heap.size, 0, none⟩) 1 1) (w' := w.drew.alloc (.cells #[.int .i64 y.fr, .int .i64 y.to, .int .i64 y.id] 30)) rfl rfl (by rfl) ?_ ?_
      · go_simp <;> with_reducible rfl
      obtain ⟨x3, hx3⟩ : ∃ w', w' = w.drew.alloc (.cells #[.int .i64 y.fr, .int .i64 y.to, .int .i64 y.id] 30) := ⟨_, rfl⟩
      rw [← hx3]
      have hbx : Below w.heap.size w x3 := by rw [hx3]; exact (Below.refl _ _).drew.alloc (Nat.le_refl _) _
      have hNx : Rd x3 (· = w.drew.heap.size) 3 (.slice (some ⟨w.drew.heap.size, 0, none⟩) 1 1) 1 (itC y) := by rw [hx3]; exact rd_itC w.drew y
      have hOx : OwnIt x3 base (.slice A l.length c) l := by rw [hx3]; exact World.ownsRow.alloc hO _
      have hGx : Grew base (.slice A l.length c) w (.slice A l.length c) x3 := by rw [hx3]; exact (Grew.refl _ _ _).drew.alloc hb _
      have hlx := hl.below hbx
      have hsx : w.heap.size < x3.heap.size := by rw [hx3]; simp
      clear hx3 hbx
      refine keepAnd ?_ (fun hNew => ?_)
      · intro _; exact hGx.below.block b hc0
      have hNew := hNew (by decide)
      clear hHeld
      have hHeld := hNew
      clear hNew
      simp only [Act.put, List.setIfInBounds_toArray, List.set_cons_zero, List.set_cons_succ]
      refine fork1 9 (by kernel_rfl) ?_
      refine callF 9 (some 17) (f := ?_) (args := ?_) rfl rfl (by rfl) ?_ ?_
      rotate_left 2
      · go_simp <;> first | (constructor <;> with_reducible rfl) | with_reducible rfl
      (with_reducible refine (ihl l _ x3 base hlx hOx (by omega) hcl hlO hsl ?_).mono ?_)
      · omega
      rintro e3 w3 ⟨v3, rfl, hO3, hG3'⟩
      have hG3 := hGx.trans hG3'
      have hO3b := hO3
      obtain ⟨A3, k3, rfl, c31, c32, c33⟩ := hO3b.open_
      have HC33 := Lib.hid c33
      clear c33
      have hX3 := (hG3.below.block b hc0).trans hX
      have hNx := Rd.keep (w' := w3) hNx (fun i hi => by rw [hi]; exact hG3'.box (show w.drew.heap.size < x3.heap.size from hsx) (fun c hc => by rintro rfl; exact hvb hc))
      have hN : Rd w3 (· = w.drew.heap.size) 3 (.slice (some ⟨w.drew.heap.size, 0, none⟩) 1 1) 1 (itC y) := hNx
      clear hG3' hNx
      have hGA := hG3
      have hOA := hO3
      have hsA : base ≤ w3.heap.size := Nat.le_trans hb hG3.size
      refine ⟨_, rfl, ?_⟩
      refine keepAnd ?_ (fun hNew => ?_)
      · intro _; exact hX3.trans hX.symm
      have hNew := hNew (by decide)
      clear hHeld
      have hHeld := hNew
      clear hNew
      simp only [Act.put, List.setIfInBounds_toArray, List.set_cons_zero, List.set_cons_succ]
      refine fork1 15 (by kernel_rfl) ?_
      refine opF 15 rfl (by rfl) ?_
      obtain ⟨i0, hi, hz0, hz1, hz2⟩ := info_parts infoC
      refine wp_append_app _ (.tmp 17) (.tmp 22) 22 rfl base 30 i0 _ 3 24 Try.underlying22 hi hz0 hz1 hz2 rfl (by omega) _ (l ++ tl.items).length (icv (l ++ tl.items)) rfl (.inl hOA) (· = w.drew.heap.size) _ 1 (itC y) rfl hN (itC_one y) (by unfold maxLen; omega) (by omega) hsA ?_
      intro v5 w5 _ h5 hg5 hb5 ha5
      have h5 := h5 (.inr hOA)
      obtain ⟨L5, hL5⟩ : ∃ L5, L5 = l ++ tl.items ++ [y] := ⟨_, rfl⟩
      have hO5 : OwnIt w5 base v5 L5 := (by rw [hL5]; exact owni_cast (a := l ++ tl.items) (b := [y]) h5)
      have hln5 : L5.length ≤ (l ++ tl.items).length + 1 := (by rw [hL5]; simp only [List.length_append, List.length_cons, List.length_nil]; omega)
      have HL5 := Lib.hid hL5.symm
      have hG5 := hGA.trans (Grew.step hg5 hb5 ha5)
      clear h5 hg5 hb5 ha5 hL5 hN hOA hGA hi hz0 hz1 hz2
      obtain ⟨A5, k5, rfl, c51, c52, c53⟩ := hO5.open_
      have HC53 := Lib.hid c53
      clear c53
      refine keepAnd ?_ (fun hNew => ?_)
      · intro _; exact hG5.below.block b hc0
      have hNew := hNew (by decide)
      clear hHeld
      have hHeld := hNew
      clear hNew
      simp only [Act.put, List.setIfInBounds_toArray, List.set_cons_zero, List.set_cons_succ]
      refine fork1 16 (by kernel_rfl) ?_
      refine callF 16 (some 24) (f := ?_) (args := ?_) rfl rfl (by rfl) ?_ ?_
      rotate_left 2
      · go_simp <;> first | (constructor <;> with_reducible rfl) | with_reducible rfl
      (with_reducible refine (ihr L5 _ w5 base (hr.chg hG5.chg (fun c hc h => by have := hcr c hc; omega)) hO5 (Nat.le_trans hb hG5.size) hcr hrO hsr ?_).mono ?_)
      · omega
      rintro e6 w6 ⟨v6, rfl, hO6, hG6⟩
      have hGF := hG5.trans hG6
      refine ⟨_, rfl, ?_⟩
      refine keepAnd ?_ (fun hNew => ?_)
      · intro _; exact hGF.below.block b hc0
      have hNew := hNew (by decide)
      clear hHeld
      have hHeld := hNew
      clear hNew
      simp only [Act.put, List.setIfInBounds_toArray, List.set_cons_zero, List.set_cons_succ]
      refine fork1 17 (by kernel_rfl) ?_
      refine runF 17 (some 4) (v := ?_) (w' := ?_) rfl rfl (by rfl) ?_ ?_
      rotate_left 2
      · go_simp <;> first | with_reducible rfl | (constructor <;> with_reducible rfl)
      refine ⟨fun h => absurd rfl h, ?_⟩
      clear hHeld
      simp only [Act.put, List.setIfInBounds_toArray, List.set_cons_zero, List.set_cons_succ]
      refine doneT (by kernel_rfl) ?_ _
      refine NoPanic.normal ?_
      go_wp2_with fail
      go_ret
      refine ⟨v6, rfl, ?_, hGF⟩
      rw [Tr.items_node, show l ++ (tl.items ++ y :: tr.items) = L5 ++ tr.items by rw [← HL5.out]; simp]
      exact hO6

set_option maxRecDepth 100000 in
set_option maxHeartbeats 1000000 in
theorem titems_any (T : Nat) (t : Tr) (w : World) (h : TreeIs w T t) (hn : t.items.length ≤ 1099511627776) : Calls Try.prog 24 #[.pointer (some ⟨T, 0, none⟩)] w fun e w' => ∃ v, e = .returned v ∧ OwnIt w' w.heap.size v t.items ∧ Below w.heap.size w w' := by
  have hlt := h.lt
  obtain ⟨hX, hA, hnd, hT, hO, hs⟩ := h
  have c0 : w.cell? ⟨T, 0, none⟩ = some (.pointer t.pa) := cell_of_row _ _ 0 _ _ _ hX
  have CL := Lib.hid (list_any t [] (.slice none 0 0) w w.heap.size hA (World.ownsRow_nil w _ _ _) (Nat.le_refl _) (fun c hc => hlt c (.inr hc)) hO hs (by simpa using hn))
  rw [List.nil_append] at CL
  go_enter Try.func24, Try.ntmps24
  go_wp2_with fail
  (with_reducible refine CL.out.mono ?_)
  rintro e1 w1 ⟨v1, rfl, hO1, hG1⟩
  go_wp2_with fail
  go_ret
  exact ⟨v1, rfl, hO1, hG1.below⟩

set_option maxRecDepth 100000 in
set_option maxHeartbeats 1000000 in
theorem tlen_any (T : Nat) (t : Tr) (w : World) (h : TreeIs w T t) : Calls Try.prog 20 #[.pointer (some ⟨T, 0, none⟩)] w fun e w' => e = .returned (.int .i64 (t.items.length : Int)) ∧ w = w' := by
  have c0 : w.cell? ⟨T, 1, none⟩ = some (.int .i64 (t.items.length : Int)) := cell_of_row _ _ 1 _ _ _ h.1
  clear h
  go_enter Try.func20, Try.ntmps20
  go_wp2_with fail
  go_ret
  exact ⟨rfl, rfl⟩

set_option maxRecDepth 100000 in
set_option maxHeartbeats 1000000 in
theorem theight_any (T : Nat) (t : Tr) (w : World) (h : TreeIs w T t) : Calls Try.prog 21 #[.pointer (some ⟨T, 0, none⟩)] w fun e w' => e = .returned (.int .i64 t.ht) ∧ w = w' := by
  have c0 : w.cell? ⟨T, 0, none⟩ = some (.pointer t.pa) := cell_of_row _ _ 0 _ _ _ h.1
  have CL := Lib.hid (levels_any t w h.2.1)
  clear h
  go_enter Try.func21, Try.ntmps21
  go_wp2_with fail
  (with_reducible refine CL.out.mono ?_)
  rintro e1 w1 ⟨rfl, rfl⟩
  go_wp2_with fail
  go_ret
  exact ⟨rfl, rfl⟩

set_option maxRecDepth 100000 in
set_option maxHeartbeats 1000000 in
theorem tnew_any (w : World) : Calls Try.prog 10 #[] w fun e w' => e = .returned (.pointer (some ⟨w.heap.size, 0, none⟩)) ∧ TreeIs w' w.heap.size .nil ∧ Below w.heap.size w w' := by
  go_enter Try.func10, Try.ntmps10
  go_wp2_with fail
  go_ret
  exact ⟨rfl, ⟨heap_alloc_new w _, trivial, List.nodup_nil, (fun h => by cases h), trivial, List.Pairwise.nil⟩, Below.of_alloc _⟩

set_option maxRecDepth 100000 in
set_option maxHeartbeats 1000000 in
theorem nilt_add (p q id : Int) (w : World) : Calls Try.prog 11 #[.pointer none, perV p q, .int .i64 id] w fun e w' => e = .returned (.bool false) ∧ Below w.heap.size w w' := by
  go_enter Try.func11, Try.ntmps11
  go_wp2_with fail
  go_ret
  refine ⟨rfl, ?_⟩
  first | exact (Below.of_alloc _).trans ((Below.of_alloc _).mono (by simp)) | exact Below.of_alloc _

set_option maxRecDepth 100000 in
set_option maxHeartbeats 1000000 in
theorem nilt_rem (p q id : Int) (w : World) : Calls Try.prog 19 #[.pointer none, perV p q, .int .i64 id] w fun e w' => e = .returned (.bool false) ∧ Below w.heap.size w w' := by
  go_enter Try.func19, Try.ntmps19
  go_wp2_with fail
  go_ret
  refine ⟨rfl, ?_⟩
  first | exact (Below.of_alloc _).trans ((Below.of_alloc _).mono (by simp)) | exact Below.of_alloc _

set_option maxRecDepth 100000 in
set_option maxHeartbeats 1000000 in
theorem nilt_ovl (p q : Int) (w : World) : Calls Try.prog 12 #[.pointer none, perV p q] w fun e w' => e = .returned (.slice none 0 0) ∧ Below w.heap.size w w' := by
  go_enter Try.func12, Try.ntmps12
  go_wp2_with fail
  go_ret
  refine ⟨rfl, ?_⟩
  first | exact (Below.of_alloc _).trans ((Below.of_alloc _).mono (by simp)) | exact Below.of_alloc _

set_option maxRecDepth 100000 in
set_option maxHeartbeats 1000000 in
theorem nilt_items (w : World) : Calls Try.prog 24 #[.pointer none] w fun e w' => e = .returned (.slice none 0 0) ∧ w = w' := by
  go_enter Try.func24, Try.ntmps24
  go_wp2_with fail
  go_ret
  exact ⟨rfl, rfl⟩

set_option maxRecDepth 100000 in
set_option maxHeartbeats 1000000 in
theorem nilt_len (w : World) : Calls Try.prog 20 #[.pointer none] w fun e w' => e = .returned (.int .i64 0) ∧ w = w' := by
  go_enter Try.func20, Try.ntmps20
  go_wp2_with fail
  go_ret
  exact ⟨rfl, rfl⟩

set_option maxRecDepth 100000 in
set_option maxHeartbeats 1000000 in
theorem nilt_height (w : World) : Calls Try.prog 21 #[.pointer none] w fun e w' => e = .returned (.int .i64 0) ∧ w = w' := by
  go_enter Try.func21, Try.ntmps21
  go_wp2_with fail
  go_ret
  exact ⟨rfl, rfl⟩
end Go.Proofs.Ytkocehfapcmiiaa
