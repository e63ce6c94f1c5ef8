/-
  Versions: their cells; cmp.Compare, cmp.Or, compaction.order.
-/
import Derived.Test.YtkhmjlahlcighaaCodec
import Derived.Test.YtkhmjlahlcighaaStabH
namespace Go.Proofs.Ytkhmjlahlcighaa
open Go.RowKit Go.Lib Go.IntWalk Go.Sort Go.Shelf

/-- a version as it lies: 9 cells -/
structure RV where
  id : Int
  sch : Int
  rA : Option Addr
  rn : Nat
  rc : Nat
  vf : Int
  vt : Int
  sf : Int
  st : Int
  by_ : Int
  un : Int
deriving Inhabited
def RV.enc (x : RV) : List Value := [.int .i64 x.id, .int .i64 x.sch, .slice x.rA x.rn x.rc, .int .i64 x.vf, .int .i64 x.vt, .int .i64 x.sf, .int .i64 x.st, .int .i64 x.by_, .int .i64 x.un]
theorem RV.enc_length (x : RV) : x.enc.length = 9 := rfl
theorem RV.enc_one (x : RV) : ∀ v ∈ x.enc, v.oneCell' = true := by
  intro v hv
  simp only [RV.enc, List.mem_cons, List.not_mem_nil, or_false] at hv
  rcases hv with rfl | rfl | rfl | rfl | rfl | rfl | rfl | rfl | rfl <;> rfl

def cmpI (a b : Int) : Int := if a < b then -1 else if b < a then 1 else 0
def or3 (a b c : Int) : Int := if a ≠ 0 then a else if b ≠ 0 then b else c
def cmpV (x y : RV) : Int := or3 (cmpI x.id y.id) (cmpI x.sf y.sf) (cmpI x.vf y.vf)
def lexV (x y : RV) : Prop := x.id < y.id ∨ (x.id = y.id ∧ (x.sf < y.sf ∨ (x.sf = y.sf ∧ x.vf < y.vf)))
theorem cmpV_neg (x y : RV) : cmpV x y < 0 ↔ lexV x y := by
  unfold cmpV or3 cmpI lexV
  constructor
  · intro h; split at h <;> repeat (first | omega | split at h)
  · intro h; repeat (first | omega | split)
theorem cmpV_zero (x y : RV) : cmpV x y = 0 ↔ (x.id = y.id ∧ x.sf = y.sf ∧ x.vf = y.vf) := by
  unfold cmpV or3 cmpI
  constructor
  · intro h; split at h <;> repeat (first | omega | split at h)
  · intro h; repeat (first | omega | split)
theorem ltOf_cmpV (x y : RV) : ltOf cmpV x y = true ↔ lexV x y := by rw [ltOf, decide_eq_true_eq, cmpV_neg]
theorem ltOf_cmpV_no (x y : RV) : ltOf cmpV x y = false ↔ ¬ lexV x y := by rw [ltOf, decide_eq_false_iff_not, cmpV_neg]
theorem swoV : SWO (ltOf cmpV) := by
  refine ⟨fun x => ?_, fun x y z h1 h2 => ?_, fun x y z h1 h2 => ?_⟩
  · rw [ltOf_cmpV_no]; unfold lexV; omega
  · rw [ltOf_cmpV] at *; unfold lexV at *; omega
  · rw [ltOf_cmpV_no] at *; unfold lexV at *; omega

theorem nan_any (n : Int) (w : World) : Calls Try.prog 34 #[.int .i64 n] w fun e w' => e = .returned (.bool false) ∧ w' = w := by
  go_enter Try.func34, Try.ntmps34
  go_wp2
  all_goals
    go_ret
    simp
theorem compare_any (a b : Int) (w : World) : Calls Try.prog 25 #[.int .i64 a, .int .i64 b] w fun e w' => e = .returned (.int .i64 (cmpI a b)) ∧ w' = w := by
  unfold cmpI
  by_cases h1 : a < b
  · rw [if_pos h1]
    go_enter Try.func25, Try.ntmps25
    go_wp2_with fail
    (with_reducible refine (nan_any a _).mono ?_)
    rintro _ _ ⟨rfl, rfl⟩
    go_wp2_with fail
    (with_reducible refine (nan_any b _).mono ?_)
    rintro _ _ ⟨rfl, rfl⟩
    go_wp2_with fail
    all_goals
      go_ret
      exact ⟨rfl, rfl⟩
  · rw [if_neg h1]
    by_cases h2 : b < a
    · rw [if_pos h2]
      go_enter Try.func25, Try.ntmps25
      go_wp2_with fail
      (with_reducible refine (nan_any a _).mono ?_)
      rintro _ _ ⟨rfl, rfl⟩
      go_wp2_with fail
      (with_reducible refine (nan_any b _).mono ?_)
      rintro _ _ ⟨rfl, rfl⟩
      go_wp2_with fail
      all_goals
        go_ret
        exact ⟨rfl, rfl⟩
    · rw [if_neg h2]
      go_enter Try.func25, Try.ntmps25
      go_wp2_with fail
      (with_reducible refine (nan_any a _).mono ?_)
      rintro _ _ ⟨rfl, rfl⟩
      go_wp2_with fail
      (with_reducible refine (nan_any b _).mono ?_)
      rintro _ _ ⟨rfl, rfl⟩
      go_wp2_with fail
      all_goals
        go_ret
        exact ⟨rfl, rfl⟩
set_option maxHeartbeats 2000000 in
theorem or_any (a b c : Int) (bb : Nat) (w : World) (c0 : w.cell? ⟨bb, 0, none⟩ = some (.int .i64 a)) (c1 : w.cell? ⟨bb, 1, none⟩ = some (.int .i64 b)) (c2 : w.cell? ⟨bb, 2, none⟩ = some (.int .i64 c)) :
    Calls Try.prog 24 #[.slice (some ⟨bb, 0, none⟩) 3 3] w fun e w' => e = .returned (.int .i64 (or3 a b c)) ∧ w' = w := by
  go_enter Try.func24, Try.ntmps24
  go_wp2_with fail
  go_loopw [8] (fun vi wr => ∃ i : Nat, vi = .int .i64 (i : Int) ∧ i ≤ 3 ∧ (0 < i → a = 0) ∧ (1 < i → b = 0) ∧ (2 < i → c = 0) ∧ wr = w) (fun vi _ => 3 - (RowKit.intOf vi).toNat)
  case atStart => exact ⟨0, rfl, by omega, by omega, by omega, by omega, rfl⟩
  case round =>
    obtain ⟨i, rfl, hi, q0, q1, q2, rfl⟩ := hrel
    by_cases h3 : i = 3
    · subst h3
      have ha := q0 (by omega)
      have hb := q1 (by omega)
      have hc := q2 (by omega)
      subst ha; subst hb; subst hc
      go_wp2_with fail
      go_ret
      exact ⟨rfl, rfl⟩
    · by_cases h0 : i = 0
      · subst h0
        by_cases hz : a = 0
        · subst hz
          go_wp2_with fail
          go_roundw
          case rel => exact ⟨1, rfl, by omega, by simp, by omega, by omega, by first | rfl | trivial⟩
          case measure => simp [RowKit.intOf]
        · go_wp2_with fail
          all_goals
            go_ret
            refine ⟨?_, rfl⟩
            show Ending.returned (.int .i64 a) = _
            rw [or3, if_pos hz]
      · by_cases h1 : i = 1
        · subst h1
          have ha := q0 (by omega)
          subst ha
          by_cases hz : b = 0
          · subst hz
            go_wp2_with fail
            go_roundw
            case rel => exact ⟨2, rfl, by omega, by simp, by simp, by omega, by first | rfl | trivial⟩
            case measure => simp [RowKit.intOf]
          · go_wp2_with fail
            all_goals
              go_ret
              refine ⟨?_, rfl⟩
              show Ending.returned (.int .i64 b) = _
              rw [or3, if_neg (by simp), if_pos hz]
        · obtain rfl : i = 2 := by omega
          have ha := q0 (by omega)
          have hb := q1 (by omega)
          subst ha; subst hb
          by_cases hz : c = 0
          · subst hz
            go_wp2_with fail
            go_roundw
            case rel => exact ⟨3, rfl, by omega, by simp, by simp, by simp, trivial⟩
            case measure => simp [RowKit.intOf]
          · go_wp2_with fail
            all_goals
              go_ret
              refine ⟨?_, rfl⟩
              show Ending.returned (.int .i64 c) = _
              rw [or3, if_neg (by simp), if_neg (by simp)]

theorem row3 (w : World) (a b c : Int) : (w.alloc (.cells #[.int .i64 a, .int .i64 b, .int .i64 c] 3)).cell? ⟨w.heap.size, 0, none⟩ = some (.int .i64 a) ∧ (w.alloc (.cells #[.int .i64 a, .int .i64 b, .int .i64 c] 3)).cell? ⟨w.heap.size, 1, none⟩ = some (.int .i64 b) ∧ (w.alloc (.cells #[.int .i64 a, .int .i64 b, .int .i64 c] 3)).cell? ⟨w.heap.size, 2, none⟩ = some (.int .i64 c) :=
  ⟨box_cell w _ _ 0 rfl, box_cell w _ _ 1 rfl, box_cell w _ _ 2 rfl⟩
theorem boxCell {w : World} {cs : List Value} {e : TypeId} {W w' : World} (hW : Below (w.heap.size + 1) (w.alloc (.cells cs.toArray e)) W) (hWs : w.heap.size < W.heap.size) (h : Below W.heap.size W w') (j : Nat) (u : Value) (hj : cs[j]? = some u) : w'.cell? ⟨w.heap.size, j, none⟩ = some u := by
  have h1 : W.cell? ⟨w.heap.size, j, none⟩ = (w.alloc (.cells cs.toArray e)).cell? ⟨w.heap.size, j, none⟩ := World.cell?_of_block (hW.block _ (by simp))
  have h2 : w'.cell? ⟨w.heap.size, j, none⟩ = W.cell? ⟨w.heap.size, j, none⟩ := World.cell?_of_block (h.block _ hWs)
  rw [h2, h1]
  exact box_cell w _ _ j (by simpa using hj)
set_option maxRecDepth 1000000 in
set_option maxHeartbeats 4000000 in
theorem order_any : CmpB RV.enc cmpV := by
  rintro ⟨x1, x2, xA, xn, xc, x3, x4, x5, x6, x7, x8⟩ ⟨y1, y2, yA, yn, yc, y3, y4, y5, y6, y7, y8⟩ w
  show Calls Try.prog 17 #[.agg #[.int .i64 x1, .int .i64 x2, .slice xA xn xc, .int .i64 x3, .int .i64 x4, .int .i64 x5, .int .i64 x6, .int .i64 x7, .int .i64 x8], .agg #[.int .i64 y1, .int .i64 y2, .slice yA yn yc, .int .i64 y3, .int .i64 y4, .int .i64 y5, .int .i64 y6, .int .i64 y7, .int .i64 y8]] w _
  show Calls _ _ _ _ (fun e w' => e = .returned (.int .i64 (or3 (cmpI x1 y1) (cmpI x5 y5) (cmpI x3 y3))) ∧ Below w.heap.size w w')
  go_enter Try.func17, Try.ntmps17
  go_wp2_with fail
  obtain ⟨W, hW⟩ : ∃ W, W = (w.alloc (.cells #[.int .i64 x1, .int .i64 x2, .slice xA xn xc, .int .i64 x3, .int .i64 x4, .int .i64 x5, .int .i64 x6, .int .i64 x7, .int .i64 x8] 38)).alloc (.cells #[.int .i64 y1, .int .i64 y2, .slice yA yn yc, .int .i64 y3, .int .i64 y4, .int .i64 y5, .int .i64 y6, .int .i64 y7, .int .i64 y8] 38) := ⟨_, rfl⟩
  have hb : Below w.heap.size w W := by subst hW; exact (Below.of_alloc _).alloc (by simp) _
  have hs : W.heap.size = w.heap.size + 2 := by subst hW; simp
  have CX : Hid (∀ w', Below W.heap.size W w' → ∀ j u, [.int .i64 x1, .int .i64 x2, .slice xA xn xc, .int .i64 x3, .int .i64 x4, .int .i64 x5, .int .i64 x6, .int .i64 x7, .int .i64 x8][j]? = some u → w'.cell? ⟨w.heap.size, j, none⟩ = some u) := Lib.hid (fun w' h j u hj => boxCell (cs := [.int .i64 x1, .int .i64 x2, .slice xA xn xc, .int .i64 x3, .int .i64 x4, .int .i64 x5, .int .i64 x6, .int .i64 x7, .int .i64 x8]) (e := 38) (by subst hW; have := Below.of_alloc (w := w.alloc (.cells #[.int .i64 x1, .int .i64 x2, .slice xA xn xc, .int .i64 x3, .int .i64 x4, .int .i64 x5, .int .i64 x6, .int .i64 x7, .int .i64 x8] 38)) (.cells #[.int .i64 y1, .int .i64 y2, .slice yA yn yc, .int .i64 y3, .int .i64 y4, .int .i64 y5, .int .i64 y6, .int .i64 y7, .int .i64 y8] 38); simpa using this) (by omega) h j u hj)
  have CY : Hid (∀ w', Below W.heap.size W w' → ∀ j u, [.int .i64 y1, .int .i64 y2, .slice yA yn yc, .int .i64 y3, .int .i64 y4, .int .i64 y5, .int .i64 y6, .int .i64 y7, .int .i64 y8][j]? = some u → w'.cell? ⟨w.heap.size + 1, j, none⟩ = some u) := Lib.hid (fun w' h j u hj => by
    have := boxCell (w := w.alloc (.cells #[.int .i64 x1, .int .i64 x2, .slice xA xn xc, .int .i64 x3, .int .i64 x4, .int .i64 x5, .int .i64 x6, .int .i64 x7, .int .i64 x8] 38)) (cs := [.int .i64 y1, .int .i64 y2, .slice yA yn yc, .int .i64 y3, .int .i64 y4, .int .i64 y5, .int .i64 y6, .int .i64 y7, .int .i64 y8]) (e := 38) (W := W) (w' := w') (by subst hW; exact Below.refl _ _) (by simp; omega) h j u hj
    simpa using this)
  rw [← hW]
  clear hW
  refine wp_region_noPanic ?_
  refine wp_region_held_drew (S := (fun w' => Below W.heap.size W w')) (by kernel_rfl) ?_ (fun hHeld => ?_)
  · exact (Below.refl _ _).drew
  refine heldTake 0 (some 5) (v := ?_) rfl rfl (by kernel_rfl) (by kernel_rfl) (by kernel_rfl) (by rfl) hHeld (fun _ _ _ h => h) ?_ ?_
  rotate_left
  · intro w' hSw; (try dsimp only at hSw); go_simp <;> with_reducible rfl
  simp only [Act.put, List.setIfInBounds_toArray, List.set_cons_zero, List.set_cons_succ]
  refine heldTake 1 (some 6) (v := ?_) rfl rfl (by kernel_rfl) (by kernel_rfl) (by kernel_rfl) (by rfl) hHeld (fun _ _ _ h => h) ?_ ?_
  rotate_left
  · intro w' hSw; (try dsimp only at hSw); have q := CX.out w' hSw 0 _ rfl; go_simp <;> with_reducible rfl
  simp only [Act.put, List.setIfInBounds_toArray, List.set_cons_zero, List.set_cons_succ]
  refine heldTake 2 (some 7) (v := ?_) rfl rfl (by kernel_rfl) (by kernel_rfl) (by kernel_rfl) (by rfl) hHeld (fun _ _ _ h => h) ?_ ?_
  rotate_left
  · intro w' hSw; (try dsimp only at hSw); go_simp <;> with_reducible rfl
  simp only [Act.put, List.setIfInBounds_toArray, List.set_cons_zero, List.set_cons_succ]
  refine heldTake 3 (some 8) (v := ?_) rfl rfl (by kernel_rfl) (by kernel_rfl) (by kernel_rfl) (by rfl) hHeld (fun _ _ _ h => h) ?_ ?_
  rotate_left
  · intro w' hSw; (try dsimp only at hSw); have q := CY.out w' hSw 0 _ rfl; go_simp <;> with_reducible rfl
  simp only [Act.put, List.setIfInBounds_toArray, List.set_cons_zero, List.set_cons_succ]
  refine heldTake 5 (some 10) (v := ?_) rfl rfl (by kernel_rfl) (by kernel_rfl) (by kernel_rfl) (by rfl) hHeld (fun _ _ _ h => h) ?_ ?_
  rotate_left
  · intro w' hSw; (try dsimp only at hSw); go_simp <;> with_reducible rfl
  simp only [Act.put, List.setIfInBounds_toArray, List.set_cons_zero, List.set_cons_succ]
  refine heldTake 6 (some 11) (v := ?_) rfl rfl (by kernel_rfl) (by kernel_rfl) (by kernel_rfl) (by rfl) hHeld (fun _ _ _ h => h) ?_ ?_
  rotate_left
  · intro w' hSw; (try dsimp only at hSw); go_simp <;> with_reducible rfl
  simp only [Act.put, List.setIfInBounds_toArray, List.set_cons_zero, List.set_cons_succ]
  refine heldTake 7 (some 12) (v := ?_) rfl rfl (by kernel_rfl) (by kernel_rfl) (by kernel_rfl) (by rfl) hHeld (fun _ _ _ h => h) ?_ ?_
  rotate_left
  · intro w' hSw; (try dsimp only at hSw); have q := CX.out w' hSw 5 _ rfl; go_simp <;> with_reducible rfl
  simp only [Act.put, List.setIfInBounds_toArray, List.set_cons_zero, List.set_cons_succ]
  refine heldTake 8 (some 13) (v := ?_) rfl rfl (by kernel_rfl) (by kernel_rfl) (by kernel_rfl) (by rfl) hHeld (fun _ _ _ h => h) ?_ ?_
  rotate_left
  · intro w' hSw; (try dsimp only at hSw); go_simp <;> with_reducible rfl
  simp only [Act.put, List.setIfInBounds_toArray, List.set_cons_zero, List.set_cons_succ]
  refine heldTake 9 (some 14) (v := ?_) rfl rfl (by kernel_rfl) (by kernel_rfl) (by kernel_rfl) (by rfl) hHeld (fun _ _ _ h => h) ?_ ?_
  rotate_left
  · intro w' hSw; (try dsimp only at hSw); go_simp <;> with_reducible rfl
  simp only [Act.put, List.setIfInBounds_toArray, List.set_cons_zero, List.set_cons_succ]
  refine heldTake 10 (some 15) (v := ?_) rfl rfl (by kernel_rfl) (by kernel_rfl) (by kernel_rfl) (by rfl) hHeld (fun _ _ _ h => h) ?_ ?_
  rotate_left
  · intro w' hSw; (try dsimp only at hSw); have q := CY.out w' hSw 5 _ rfl; go_simp <;> with_reducible rfl
  simp only [Act.put, List.setIfInBounds_toArray, List.set_cons_zero, List.set_cons_succ]
  refine heldTake 12 (some 17) (v := ?_) rfl rfl (by kernel_rfl) (by kernel_rfl) (by kernel_rfl) (by rfl) hHeld (fun _ _ _ h => h) ?_ ?_
  rotate_left
  · intro w' hSw; (try dsimp only at hSw); go_simp <;> with_reducible rfl
  simp only [Act.put, List.setIfInBounds_toArray, List.set_cons_zero, List.set_cons_succ]
  refine heldTake 13 (some 18) (v := ?_) rfl rfl (by kernel_rfl) (by kernel_rfl) (by kernel_rfl) (by rfl) hHeld (fun _ _ _ h => h) ?_ ?_
  rotate_left
  · intro w' hSw; (try dsimp only at hSw); go_simp <;> with_reducible rfl
  simp only [Act.put, List.setIfInBounds_toArray, List.set_cons_zero, List.set_cons_succ]
  refine heldTake 14 (some 19) (v := ?_) rfl rfl (by kernel_rfl) (by kernel_rfl) (by kernel_rfl) (by rfl) hHeld (fun _ _ _ h => h) ?_ ?_
  rotate_left
  · intro w' hSw; (try dsimp only at hSw); have q := CX.out w' hSw 3 _ rfl; go_simp <;> with_reducible rfl
  simp only [Act.put, List.setIfInBounds_toArray, List.set_cons_zero, List.set_cons_succ]
  refine heldTake 15 (some 20) (v := ?_) rfl rfl (by kernel_rfl) (by kernel_rfl) (by kernel_rfl) (by rfl) hHeld (fun _ _ _ h => h) ?_ ?_
  rotate_left
  · intro w' hSw; (try dsimp only at hSw); go_simp <;> with_reducible rfl
  simp only [Act.put, List.setIfInBounds_toArray, List.set_cons_zero, List.set_cons_succ]
  refine heldTake 16 (some 21) (v := ?_) rfl rfl (by kernel_rfl) (by kernel_rfl) (by kernel_rfl) (by rfl) hHeld (fun _ _ _ h => h) ?_ ?_
  rotate_left
  · intro w' hSw; (try dsimp only at hSw); go_simp <;> with_reducible rfl
  simp only [Act.put, List.setIfInBounds_toArray, List.set_cons_zero, List.set_cons_succ]
  refine heldTake 17 (some 22) (v := ?_) rfl rfl (by kernel_rfl) (by kernel_rfl) (by kernel_rfl) (by rfl) hHeld (fun _ _ _ h => h) ?_ ?_
  rotate_left
  · intro w' hSw; (try dsimp only at hSw); have q := CY.out w' hSw 3 _ rfl; go_simp <;> with_reducible rfl
  simp only [Act.put, List.setIfInBounds_toArray, List.set_cons_zero, List.set_cons_succ]
  refine heldCall 4 (some 9) (f := ?_) (args := ?_) rfl rfl (by kernel_rfl) (by rfl) ?_ ?_
  rotate_left 2
  · go_simp <;> first | (constructor <;> with_reducible rfl) | with_reducible rfl
  (with_reducible refine (compare_any x1 y1 _).mono ?_)
  rintro _ _ ⟨rfl, rfl⟩
  refine ⟨_, rfl, keepAnd ?_ (fun hNew => ?_)⟩
  · exact hHeld
  clear hHeld
  have hHeld := hNew
  clear hNew
  simp only [Act.put, List.setIfInBounds_toArray, List.set_cons_zero, List.set_cons_succ]
  refine heldCall 11 (some 16) (f := ?_) (args := ?_) rfl rfl (by kernel_rfl) (by rfl) ?_ ?_
  rotate_left 2
  · go_simp <;> first | (constructor <;> with_reducible rfl) | with_reducible rfl
  (with_reducible refine (compare_any x5 y5 _).mono ?_)
  rintro _ _ ⟨rfl, rfl⟩
  refine ⟨_, rfl, keepAnd ?_ (fun hNew => ?_)⟩
  · exact hHeld
  clear hHeld
  have hHeld := hNew
  clear hNew
  simp only [Act.put, List.setIfInBounds_toArray, List.set_cons_zero, List.set_cons_succ]
  refine heldCall 18 (some 23) (f := ?_) (args := ?_) rfl rfl (by kernel_rfl) (by rfl) ?_ ?_
  rotate_left 2
  · go_simp <;> first | (constructor <;> with_reducible rfl) | with_reducible rfl
  (with_reducible refine (compare_any x3 y3 _).mono ?_)
  rintro _ _ ⟨rfl, rfl⟩
  refine ⟨_, rfl, keepAnd ?_ (fun hNew => ?_)⟩
  · exact hHeld
  clear hHeld
  have hHeld := hNew
  clear hNew
  simp only [Act.put, List.setIfInBounds_toArray, List.set_cons_zero, List.set_cons_succ]
  have hNew : (fun w' => Below W.heap.size W w') ((W.drew.alloc (.cells #[.int .i64 (cmpI x1 y1), .int .i64 (cmpI x5 y5), .int .i64 (cmpI x3 y3)] 3))) := by exact (hHeld.alloc (Nat.le_refl _) _)
  refine heldRun 19 (some 24) (v := .slice (some ⟨W.drew.heap.size, 0, none⟩) 3 3) (w' := (W.drew.alloc (.cells #[.int .i64 (cmpI x1 y1), .int .i64 (cmpI x5 y5), .int .i64 (cmpI x3 y3)] 3))) rfl rfl (by kernel_rfl) (by rfl) ?_ hNew ?_
  · go_simp <;> with_reducible rfl
  clear hHeld
  have hHeld := hNew
  clear hNew
  simp only [Act.put, List.setIfInBounds_toArray, List.set_cons_zero, List.set_cons_succ]
  refine heldCall 20 (some 25) (f := ?_) (args := ?_) rfl rfl (by kernel_rfl) (by rfl) ?_ ?_
  rotate_left 2
  · go_simp <;> first | (constructor <;> with_reducible rfl) | with_reducible rfl
  obtain ⟨k0, k1, k2⟩ := row3 W.drew (cmpI x1 y1) (cmpI x5 y5) (cmpI x3 y3)
  rw [show W.drew.heap.size = w.heap.size + 2 from hs] at k0 k1 k2
  (with_reducible refine (or_any (cmpI x1 y1) (cmpI x5 y5) (cmpI x3 y3) _ _ k0 k1 k2).mono ?_)
  rintro _ _ ⟨rfl, rfl⟩
  refine ⟨_, rfl, keepAnd ?_ (fun hNew => ?_)⟩
  · exact hHeld
  clear hHeld
  have hHeld := hNew
  clear hNew
  simp only [Act.put, List.setIfInBounds_toArray, List.set_cons_zero, List.set_cons_succ]
  refine heldTake 21 (some 4) (v := ?_) rfl rfl (by kernel_rfl) (by kernel_rfl) (by kernel_rfl) (by rfl) hHeld (fun _ _ _ h => h) ?_ ?_
  rotate_left
  · intro w' hSw; (try dsimp only at hSw); go_simp <;> with_reducible rfl
  simp only [Act.put, List.setIfInBounds_toArray, List.set_cons_zero, List.set_cons_succ]
  refine wpAnyH_done (by kernel_rfl) ?_ _
  refine NoPanic.normal ?_
  go_wp2_with fail
  go_ret
  refine ⟨rfl, ?_⟩
  exact hb.trans ((hHeld).mono (by omega))
end Go.Proofs.Ytkhmjlahlcighaa
