/-
  Segments by pointer: nil ones too.
-/
import Derived.Test.YtacjiocffbgkkaaGreatSegZ
import Derived.Test.YtacjiocffbgkkaaGreatSegY
namespace Go.Proofs.YtacjiocffbgkkaaGreat
open Go.RowKit Go.Lib Go.IntWalk Go.Sort Go.Shelf

theorem opn_err {l : List UInt8} (h : (opnF l).2 ≠ 0) : (opnF l).1 = ([], []) := by
  unfold opnF at h ⊢
  by_cases h1 : (nextF l 0).2.2 ≠ 0
  · rw [if_pos h1]
  rw [if_neg h1] at h ⊢
  by_cases h2 : (prsF (nextF l 0).1).2.2 ≠ 0
  · rw [if_pos h2]
  rw [if_neg h2] at h ⊢
  obtain ⟨o, ho⟩ : ∃ o, o = opnL l (prsF (nextF l 0).1).2.1.toNat (nextF l 0).2.1 := ⟨_, rfl⟩
  rw [← ho] at h ⊢
  by_cases h3 : o.2.2 ≠ 0
  · rw [if_pos h3]
  rw [if_neg h3] at h ⊢
  by_cases h4 : o.2.1 < l.length
  · rw [if_pos h4]
  rw [if_neg h4] at h ⊢
  split
  · rfl
  · rename_i h5
    rw [if_neg h5] at h
    exact absurd rfl h
/-- p points to a segment, or is nil -/
def SegP (w : World) (p : Value) (t : List UInt8) (cs : List (List Ver)) : Prop := (p = .pointer none ∧ t = [] ∧ cs = []) ∨ ∃ P, p = .pointer (some ⟨P, 0, none⟩) ∧ SegAt w P t cs
theorem SegP.below {w w' : World} {p : Value} {t : List UInt8} {cs : List (List Ver)} (h : SegP w p t cs) (hb : Below w.heap.size w w') : SegP w' p t cs := by
  rcases h with h | ⟨P, h1, h2⟩
  · exact .inl h
  · exact .inr ⟨P, h1, h2.below hb⟩
set_option maxRecDepth 100000 in
set_option maxHeartbeats 2000000 in
theorem nTable (w : World) : Calls Tryz.prog 17 #[.pointer none] w fun e w' => e = .returned (.string ⟨#[]⟩) ∧ Below w.heap.size w w' := by
  go_enter Tryz.func17, Tryz.ntmps17
  go_wp2_with fail
  go_ret
  exact ⟨rfl, Below.refl _ _⟩
set_option maxRecDepth 100000 in
set_option maxHeartbeats 2000000 in
theorem nBlocks (w : World) : Calls Tryz.prog 15 #[.pointer none] w fun e w' => e = .returned (.int .i64 0) ∧ Below w.heap.size w w' := by
  go_enter Tryz.func15, Tryz.ntmps15
  go_wp2_with fail
  go_ret
  exact ⟨rfl, Below.refl _ _⟩
set_option maxRecDepth 100000 in
set_option maxHeartbeats 2000000 in
theorem nLen (w : World) : Calls Tryz.prog 14 #[.pointer none] w fun e w' => e = .returned (.int .i64 0) ∧ Below w.heap.size w w' := by
  go_enter Tryz.func14, Tryz.ntmps14
  go_wp2_with fail
  go_ret
  exact ⟨rfl, Below.refl _ _⟩
set_option maxRecDepth 100000 in
set_option maxHeartbeats 2000000 in
theorem nVersions (w : World) : Calls Tryz.prog 16 #[.pointer none] w fun e w' => e = .returned (.slice none 0 0) ∧ Below w.heap.size w w' := by
  go_enter Tryz.func16, Tryz.ntmps16
  go_wp2_with fail
  go_ret
  exact ⟨rfl, Below.refl _ _⟩
set_option maxRecDepth 100000 in
set_option maxHeartbeats 2000000 in
theorem nSearch (a b c d : Int) (w : World) : Calls Tryz.prog 11 #[.pointer none, .agg #[.int .i64 a, .int .i64 b, .int .i64 c, .int .i64 d]] w fun e w' => e = .returned (.tuple #[.slice none 0 0, .int .i64 0]) ∧ Below w.heap.size w w' := by
  go_enter Tryz.func11, Tryz.ntmps11
  go_wp2_with fail
  go_ret2
  exact ⟨rfl, Below.of_alloc _⟩
set_option maxRecDepth 100000 in
set_option maxHeartbeats 2000000 in
theorem nBounds (w : World) : Calls Tryz.prog 18 #[.pointer none] w fun e w' => e = .returned (.tuple #[.agg #[.int .i64 0, .int .i64 0, .int .i64 0, .int .i64 0], .bool false]) ∧ Below w.heap.size w w' := by
  obtain ⟨W, hW⟩ : ∃ W, W = w.alloc (.cells #[.int .i64 0, .int .i64 0, .int .i64 0, .int .i64 0] 26) := ⟨_, rfl⟩
  have hbW : Below w.heap.size w W := by rw [hW]; exact Below.of_alloc _
  have hT : W.heap[w.heap.size]? = some (.cells #[.int .i64 0, .int .i64 0, .int .i64 0, .int .i64 0] 26 (0, 0)) := by rw [hW]; exact heap_alloc_new _ _
  have hs : w.heap.size < W.heap.size := by rw [hW]; simp
  have HBW := Lib.hid hbW
  have HT := Lib.hid hT
  have HS := Lib.hid hs
  have KV := nVersions W
  clear hbW hT hs
  go_enter Tryz.func18, Tryz.ntmps18
  go_wp2_with fail
  rw [← hW]
  clear hW
  (with_reducible refine KV.mono ?_)
  rintro _ W1 ⟨rfl, hb⟩
  have HB1 : Hid (Below w.heap.size w W1) := Lib.hid (HBW.out.trans (hb.mono HBW.out.size))
  have HT1 := Lib.hid ((hb.block w.heap.size HS.out).trans HT.out)
  clear hb KV
  have q0 : W1.cell? ⟨w.heap.size, 0, none⟩ = some (.int .i64 0) := cell_of_row W1 _ 0 _ _ _ HT1.out
  have q1 : W1.cell? ⟨w.heap.size, 1, none⟩ = some (.int .i64 0) := cell_of_row W1 _ 1 _ _ _ HT1.out
  have q2 : W1.cell? ⟨w.heap.size, 2, none⟩ = some (.int .i64 0) := cell_of_row W1 _ 2 _ _ _ HT1.out
  have q3 : W1.cell? ⟨w.heap.size, 3, none⟩ = some (.int .i64 0) := cell_of_row W1 _ 3 _ _ _ HT1.out
  have f0 : W1.frozen? ⟨w.heap.size, 0, none⟩ = false := frozen_of_row W1 _ 0 _ _ HT1.out
  have f1 : W1.frozen? ⟨w.heap.size, 1, none⟩ = false := frozen_of_row W1 _ 1 _ _ HT1.out
  have f2 : W1.frozen? ⟨w.heap.size, 2, none⟩ = false := frozen_of_row W1 _ 2 _ _ HT1.out
  have f3 : W1.frozen? ⟨w.heap.size, 3, none⟩ = false := frozen_of_row W1 _ 3 _ _ HT1.out
  have hZ := four_set HT1.out (.int .i64 0) (.int .i64 0) (.int .i64 0) (.int .i64 0)
  have hZb := four_chg W1 w.heap.size (.int .i64 0) (.int .i64 0) (.int .i64 0) (.int .i64 0)
  have HZ9 := Lib.hid hZ
  have HZB := Lib.hid hZb
  clear hZ hZb
  go_wp2_with fail
  generalize ((((W1.setCell ⟨w.heap.size, 0, none⟩ (.int .i64 0)).setCell ⟨w.heap.size, 1, none⟩ (.int .i64 0)).setCell ⟨w.heap.size, 2, none⟩ (.int .i64 0)).setCell ⟨w.heap.size, 3, none⟩ (.int .i64 0)) = Z at *
  have y0 : Z.cell? ⟨w.heap.size, 0, none⟩ = some (.int .i64 0) := cell_of_row Z _ 0 _ _ _ HZ9.out
  have y1 : Z.cell? ⟨w.heap.size, 1, none⟩ = some (.int .i64 0) := cell_of_row Z _ 1 _ _ _ HZ9.out
  have y2 : Z.cell? ⟨w.heap.size, 2, none⟩ = some (.int .i64 0) := cell_of_row Z _ 2 _ _ _ HZ9.out
  have y3 : Z.cell? ⟨w.heap.size, 3, none⟩ = some (.int .i64 0) := cell_of_row Z _ 3 _ _ _ HZ9.out
  exact bodyPost_ret (v := .tuple #[.agg #[.int .i64 0, .int .i64 0, .int .i64 0, .int .i64 0], .bool false]) (by simp [results, Tryz.results18, go_sem, y0, y1, y2, y3]) rfl ⟨rfl, HB1.out.trans (HZB.out.below HB1.out.size (fun i (hi : i = w.heap.size) => by omega))⟩
theorem pTable {p : Value} {t : List UInt8} {cs : List (List Ver)} {w : World} (h : SegP w p t cs) : Calls Tryz.prog 17 #[p] w fun e w' => e = .returned (.string (strB t)) ∧ Below w.heap.size w w' := by
  rcases h with ⟨rfl, rfl, rfl⟩ | ⟨P, rfl, h⟩
  · exact nTable w
  · exact (segTable_any P t cs w h).mono fun e w' ⟨h1, h2⟩ => ⟨h1, h2 ▸ Below.refl _ _⟩
theorem pBlocks {p : Value} {t : List UInt8} {cs : List (List Ver)} {w : World} (h : SegP w p t cs) : Calls Tryz.prog 15 #[p] w fun e w' => e = .returned (.int .i64 (cs.length : Nat)) ∧ Below w.heap.size w w' := by
  rcases h with ⟨rfl, rfl, rfl⟩ | ⟨P, rfl, h⟩
  · exact nBlocks w
  · exact (segBlocks_any P t cs w h).mono fun e w' ⟨h1, h2⟩ => ⟨h1, h2 ▸ Below.refl _ _⟩
theorem pLen {p : Value} {t : List UInt8} {cs : List (List Ver)} {w : World} (h : SegP w p t cs) (hn : cs.flatten.length ≤ 1099511627776) : Calls Tryz.prog 14 #[p] w fun e w' => e = .returned (.int .i64 (cs.flatten.length : Nat)) ∧ Below w.heap.size w w' := by
  rcases h with ⟨rfl, rfl, rfl⟩ | ⟨P, rfl, h⟩
  · exact nLen w
  · exact segLen_any P t cs w h hn
theorem pVersions {p : Value} {t : List UInt8} {cs : List (List Ver)} {w : World} (h : SegP w p t cs) (hn : cs.flatten.length ≤ 1048576) (hr : ∀ c ∈ cs, ∀ x ∈ c, x.row.length ≤ 12) : Calls Tryz.prog 16 #[p] w fun e w' => ∃ u, e = .returned u ∧ VsOut cs.flatten w w' u := by
  rcases h with ⟨rfl, rfl, rfl⟩ | ⟨P, rfl, h⟩
  · exact (nVersions w).mono fun e w' ⟨h1, h2⟩ => ⟨_, h1, [], ⟨Rd.nil _ _ _, fun p hp => by cases hp⟩, rfl, h2⟩
  · exact segVersions_any P t cs w h hn hr
theorem pBounds {p : Value} {t : List UInt8} {cs : List (List Ver)} {w : World} (h : SegP w p t cs) (hn : cs.flatten.length ≤ 1048576) (hr : ∀ c ∈ cs, ∀ x ∈ c, x.row.length ≤ 12) : Calls Tryz.prog 18 #[p] w (BdOut cs.flatten w) := by
  rcases h with ⟨rfl, rfl, rfl⟩ | ⟨P, rfl, h⟩
  · exact nBounds w
  · exact sBounds_any P t cs w h hn hr
end Go.Proofs.YtacjiocffbgkkaaGreat
