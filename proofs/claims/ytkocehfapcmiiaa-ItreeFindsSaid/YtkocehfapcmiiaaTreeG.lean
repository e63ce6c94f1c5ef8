/-
  Trees: has.
-/
import Derived.Test.YtkocehfapcmiiaaTreeF
import Derived.WalkMore
import Derived.ScopeJumps
namespace Go.Proofs.Ytkocehfapcmiiaa
open Go.RowKit Go.Lib Go.IntWalk

/-- a tree behind its pointer -/
def TreeIs (w : World) (T : Nat) (t : Tr) : Prop :=
  w.heap[T]? = some (.cells #[.pointer t.pa, .int .i64 (t.items.length : Int)] 57 (0, 0)) ∧ t.At w ∧ t.blocks.Nodup ∧ T ∉ t.blocks ∧ t.Ok ∧ srtI t.items

set_option maxRecDepth 100000 in
set_option maxHeartbeats 1000000 in
theorem has_any (T : Nat) (t : Tr) (x : It) (w : World) (h : TreeIs w T t) : Calls Try.prog 26 #[.pointer (some ⟨T, 0, none⟩), itV x] w fun e' w' => e' = .returned (.bool (decide (x ∈ t.items))) ∧ Below w.heap.size w w' := by
  obtain ⟨hrow, hA, hnd, hT, hO, hs⟩ := h
  have c0 : w.cell? ⟨T, 0, none⟩ = some (.pointer t.pa) := cell_of_row _ _ 0 _ _ _ hrow
  have hlt := (Array.getElem?_eq_some_iff.1 hrow).1
  have hbW : Below w.heap.size w (w.alloc (.cells #[.int .i64 x.fr, .int .i64 x.to, .int .i64 x.id] 30)) := Below.of_alloc _
  have hrX := heap_alloc_new w (.cells #[.int .i64 x.fr, .int .i64 x.to, .int .i64 x.id] 30)
  have hAW := hA.below hbW
  have HO := Lib.hid hO
  clear hrow hA hO
  go_enter Try.func26, Try.ntmps26
  go_wp2_with fail
  go_step3
  go_wp2_with fail
  go_step3
  go_wp2_with fail
  obtain ⟨W, hW⟩ : ∃ W, W = w.alloc (.cells #[.int .i64 x.fr, .int .i64 x.to, .int .i64 x.id] 30) := ⟨_, rfl⟩
  rw [← hW] at hbW hrX hAW ⊢
  have hsW : W.heap.size = w.heap.size + 1 := by rw [hW]; simp
  clear hW
  go_loopg [5] t.blocks.length (fun k i wr => ∃ s : Tr, i = .pointer s.pa ∧ s.At wr ∧ srtI s.items ∧ (x ∈ t.items ↔ x ∈ s.items) ∧ s.blocks.length ≤ k ∧ Below W.heap.size W wr)
  case atStart => exact ⟨t, rfl, hAW, hs, Iff.rfl, Nat.le_refl _, Below.refl _ _⟩
  case round =>
    obtain ⟨s, rfl, hA, hss, hiff, hk, hbr⟩ := hrel
    clear hAW
    have hIFF := Lib.hid hiff
    clear hiff
    have hbz := hbr.size
    cases s with
    | nil =>
      rw [show Tr.nil.pa = none from rfl]
      have hd : decide (x ∈ t.items) = false := by
        rw [decide_eq_false_iff_not, hIFF.out]
        intro h; cases h
      have HD := Lib.hid hd
      clear hd
      go_wp2_with fail
      try rw [Exit.noGoto_ret]
      go_ret
      exact ⟨by rw [HD.out]; rfl, hbW.trans (hbr.mono (by omega))⟩
    | node b y l r h e =>
      rw [show (Tr.node b y l r h e).pa = some ⟨b, 0, none⟩ from rfl]
      obtain ⟨hrow, hl, hr⟩ := hA
      have hbb := (Array.getElem?_eq_some_iff.1 hrow).1
      rw [Tr.items_node] at hss
      obtain ⟨hsl, hsr, h3, h4, h5⟩ := srt_app.1 hss
      have hXr := (hbr.block w.heap.size (by omega)).trans hrX
      have d0 : wr.cell? ⟨w.heap.size, 0, none⟩ = some (.int .i64 x.fr) := cell_of_row _ _ 0 _ _ _ hXr
      have d1 : wr.cell? ⟨w.heap.size, 1, none⟩ = some (.int .i64 x.to) := cell_of_row _ _ 1 _ _ _ hXr
      have d2 : wr.cell? ⟨w.heap.size, 2, none⟩ = some (.int .i64 x.id) := cell_of_row _ _ 2 _ _ _ hXr
      have CC := Lib.hid (cmp_any b y x l r h e wr hrow)
      have HROW := Lib.hid hrow
      clear hrow hXr hss
      go_wp2_with fail
      (with_reducible refine CC.out.mono ?_)
      rintro ec V ⟨rfl, hbc⟩
      clear CC d0 d1 d2
      have hsc := hbc.size
      have hXV := (hbc.block b hbb).trans HROW.out
      have c3 : V.cell? ⟨b, 3, none⟩ = some (.pointer l.pa) := cell_of_row _ _ 3 _ _ _ hXV
      have c4 : V.cell? ⟨b, 4, none⟩ = some (.pointer r.pa) := cell_of_row _ _ 4 _ _ _ hXV
      have hlV := hl.below hbc
      have hrV := hr.below hbc
      have hbV := hbr.trans (hbc.mono hbz)
      clear hXV hl hr hbc hbr
      rcases cmpI_cases y x with ⟨cc, k⟩ | ⟨cc, k⟩ | ⟨cc, k⟩
      · rw [cc]
        have HK : Hid (x ∈ t.items ↔ x ∈ r.items) := Lib.hid (by
          rw [hIFF.out, Tr.items_node, List.mem_append, List.mem_cons]
          constructor
          · rintro (h | h | h)
            · exact absurd (ltI_trans (h3 x h) k) (ltI_irrefl x)
            · exact absurd h.symm (ltI_ne k)
            · exact h
          · exact fun h => .inr (.inr h))
        clear cc
        go_wp2_with fail
        go_roundg r.blocks.length
        case measure => simp only [Tr.blocks_node, List.length_cons, List.length_append] at hk; omega
        case rel => exact ⟨r, rfl, hrV, hsr, HK.out, Nat.le_refl _, hbV⟩
      · rw [cc]
        have HK : Hid (x ∈ t.items ↔ x ∈ l.items) := Lib.hid (by
          rw [hIFF.out, Tr.items_node, List.mem_append, List.mem_cons]
          constructor
          · rintro (h | h | h)
            · exact h
            · exact absurd h (ltI_ne k)
            · exact absurd (ltI_trans k (h4 x h)) (ltI_irrefl x)
          · exact fun h => .inl h)
        clear cc
        go_wp2_with fail
        go_roundg l.blocks.length
        case measure => simp only [Tr.blocks_node, List.length_cons, List.length_append] at hk; omega
        case rel => exact ⟨l, rfl, hlV, hsl, HK.out, Nat.le_refl _, hbV⟩
      · rw [cc]
        have hd : decide (x ∈ t.items) = true := by
          rw [decide_eq_true_iff, hIFF.out, Tr.items_node, ← k]
          exact List.mem_append_right _ (List.mem_cons_self ..)
        have HD := Lib.hid hd
        clear hd cc
        go_wp2_with fail
        try rw [Exit.noGoto_ret]
        go_ret
        exact ⟨by rw [HD.out]; rfl, hbW.trans (hbV.mono (by omega))⟩
end Go.Proofs.Ytkocehfapcmiiaa
