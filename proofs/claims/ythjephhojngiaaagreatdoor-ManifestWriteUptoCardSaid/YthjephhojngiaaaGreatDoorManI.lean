/-
  Manifests: the reference's equality.
-/
import Derived.Test.YthjephhojngiaaaGreatDoorManH0
namespace Go.Proofs.YthjephhojngiaaaGreatDoor
open Go.RowKit Go.Lib Go.IntWalk

theorem Man.ext' {a b : Man} (h1 : a.base = b.base) (h2 : a.segs = b.segs) (h3 : a.log = b.log) (h4 : a.tx = b.tx) (h5 : a.nx = b.nx) : a = b := by cases a; cases b; simp_all
instance : DecidableEq Man := fun a b => if h : a.base = b.base ∧ a.segs = b.segs ∧ a.log = b.log ∧ a.tx = b.tx ∧ a.nx = b.nx then .isTrue (Man.ext' h.1 h.2.1 h.2.2.1 h.2.2.2.1 h.2.2.2.2) else .isFalse (fun e => h (by subst e; exact ⟨rfl, rfl, rfl, rfl, rfl⟩))
theorem str_bne {x y : List UInt8} (h : ¬ x = y) : ((strB x).toList != (strB y).toList) = true := by rw [bne, str_ne h]; rfl
theorem str_nel {x y : List UInt8} (h : ¬ x = y) : ¬ (strB x).toList = (strB y).toList := fun e => by have := str_ne h; rw [e] at this; simp at this
theorem str_beq {x y : List UInt8} (h : x = y) : ((strB x).toList != (strB y).toList) = false := by rw [h, bne, str_eq_self]; rfl
theorem stake_eq {a b : List (List UInt8)} {k : Nat} {x y : List UInt8} (h : a.take k = b.take k) (ha : a[k]? = some x) (hb : b[k]? = some y) (e : x = y) : a.take (k + 1) = b.take (k + 1) := by
  rw [take_snoc ha, take_snoc hb, h, e]
set_option maxRecDepth 100000 in
set_option maxHeartbeats 8000000 in
theorem rsame_any (FA FB : Nat → Prop) (As : Option Addr) (cs : Nat) (m : Man) (Bs : Option Addr) (ds : Nat) (n : Man) (w : World) (ha : Rd w FA 1 (.slice As m.segs.length cs) m.segs.length (sv m.segs)) (hb : Rd w FB 1 (.slice Bs n.segs.length ds) n.segs.length (sv n.segs)) (hFA : ∀ b, FA b → b < w.heap.size) (hFB : ∀ b, FB b → b < w.heap.size) :
    Calls Tryz.prog 6 #[manV As cs m, manV Bs ds n] w fun e w' => e = .returned (.bool (decide (m = n))) ∧ Below w.heap.size w w' := by
  obtain ⟨V, hV⟩ : ∃ V, V = (w.alloc (.cells #[.string (strB m.base), .slice As m.segs.length cs, .string (strB m.log), .int .i64 m.tx, .int .i64 m.nx] 25)).alloc (.cells #[.string (strB n.base), .slice Bs n.segs.length ds, .string (strB n.log), .int .i64 n.tx, .int .i64 n.nx] 25) := ⟨_, rfl⟩
  have HBX := Lib.hid (show Below w.heap.size w ((w.alloc (.cells #[.string (strB m.base), .slice As m.segs.length cs, .string (strB m.log), .int .i64 m.tx, .int .i64 m.nx] 25)).alloc (.cells #[.string (strB n.base), .slice Bs n.segs.length ds, .string (strB n.log), .int .i64 n.tx, .int .i64 n.nx] 25)) from (Below.of_alloc _).trans ((Below.of_alloc _).mono (by simp)))
  have hbV : Below w.heap.size w V := by rw [hV]; exact HBX.out
  have hP1 : V.heap[w.heap.size]? = some (.cells #[.string (strB m.base), .slice As m.segs.length cs, .string (strB m.log), .int .i64 m.tx, .int .i64 m.nx] 25 (0, 0)) := by rw [hV, Below.heap_alloc _ _ _ (by simp)]; exact heap_alloc_new w _
  have hP2 : V.heap[w.heap.size + 1]? = some (.cells #[.string (strB n.base), .slice Bs n.segs.length ds, .string (strB n.log), .int .i64 n.tx, .int .i64 n.nx] 25 (0, 0)) := by
    have := heap_alloc_new (w.alloc (.cells #[.string (strB m.base), .slice As m.segs.length cs, .string (strB m.log), .int .i64 m.tx, .int .i64 m.nx] 25)) (.cells #[.string (strB n.base), .slice Bs n.segs.length ds, .string (strB n.log), .int .i64 n.tx, .int .i64 n.nx] 25)
    rw [hV]; simpa using this
  have c1 : V.cell? ⟨w.heap.size, 1, none⟩ = some (.slice As m.segs.length cs) := cell_of_row _ _ 1 _ _ _ hP1
  have e1 : V.cell? ⟨w.heap.size + 1, 1, none⟩ = some (.slice Bs n.segs.length ds) := cell_of_row _ _ 1 _ _ _ hP2
  obtain ⟨_, _, q1, q2, q3, q4⟩ := Rd.open_ ha
  obtain ⟨_, _, r1, r2, r3, r4⟩ := Rd.open_ hb
  injection q1 with q1a q1b q1c
  injection r1 with r1a r1b r1c
  subst q1c; subst r1c
  have HQ4 := Lib.hid q4
  have HR4 := Lib.hid r4
  unfold maxLen at q3 r3
  clear q4 r4 q1a q1b r1a r1b hP1 hP2
  have hra : Rd V FA 1 (.slice As m.segs.length cs) m.segs.length (sv m.segs) := ha.keep fun b h => hbV.block b (hFA b h)
  have hrb : Rd V FB 1 (.slice Bs n.segs.length ds) n.segs.length (sv n.segs) := hb.keep fun b h => hbV.block b (hFB b h)
  clear ha hb hbV
  have HV := Lib.hid hV
  by_cases h1 : m.base = n.base
  case neg =>
    rw [show decide (m = n) = false from decide_eq_false (fun e => h1 (by rw [e]))]
    have b1 := str_bne h1
    have b2 := str_ne h1
    clear hV
    go_enter Tryz.func6, Tryz.ntmps6
    go_wp2_with fail
    go_ret
    exact ⟨rfl, HBX.out⟩
  have H1 := Lib.hid h1
  have p1 : (strB m.base).toList = (strB n.base).toList := by rw [h1]
  clear h1
  by_cases h2 : m.log = n.log
  case neg =>
    rw [show decide (m = n) = false from decide_eq_false (fun e => h2 (by rw [e]))]
    have b1 := str_bne h2
    have b2 := str_ne h2
    have b3 := str_nel h2
    clear hV
    go_enter Tryz.func6, Tryz.ntmps6
    go_wp2_with fail
    go_ret
    exact ⟨rfl, HBX.out⟩
  have H2 := Lib.hid h2
  have p2 : (strB m.log).toList = (strB n.log).toList := by rw [h2]
  clear h2
  by_cases h3 : m.tx = n.tx
  case neg =>
    rw [show decide (m = n) = false from decide_eq_false (fun e => h3 (by rw [e]))]
    have b1 : (m.tx != n.tx) = true := by rw [bne_iff_ne]; exact h3
    clear hV
    go_enter Tryz.func6, Tryz.ntmps6
    go_wp2_with fail
    go_ret
    exact ⟨rfl, HBX.out⟩
  have H3 := Lib.hid h3
  have p3 : (m.tx != n.tx) = false := by rw [bne_eq_false_iff_eq]; exact h3
  clear h3
  by_cases h4 : m.nx = n.nx
  case neg =>
    rw [show decide (m = n) = false from decide_eq_false (fun e => h4 (by rw [e]))]
    have b1 : (m.nx != n.nx) = true := by rw [bne_iff_ne]; exact h4
    clear hV
    go_enter Tryz.func6, Tryz.ntmps6
    go_wp2_with fail
    go_ret
    exact ⟨rfl, HBX.out⟩
  have H4 := Lib.hid h4
  have p4 : (m.nx != n.nx) = false := by rw [bne_eq_false_iff_eq]; exact h4
  clear h4
  by_cases h5 : m.segs.length = n.segs.length
  case neg =>
    rw [show decide (m = n) = false from decide_eq_false (fun e => h5 (by rw [e]))]
    have b1 : ((m.segs.length : Int) != (n.segs.length : Int)) = true := by rw [bne_iff_ne]; omega
    clear hV
    go_enter Tryz.func6, Tryz.ntmps6
    go_wp2_with fail
    go_ret
    exact ⟨rfl, HBX.out⟩
  have H5 := Lib.hid h5
  have p5 : ((m.segs.length : Int) != (n.segs.length : Int)) = false := by rw [bne_eq_false_iff_eq]; omega
  clear h5
  generalize hres : decide (m = n) = res
  have HR := Lib.hid hres
  clear hres
  have c1' := c1
  rw [hV] at c1'
  clear hV
  go_enter Tryz.func6, Tryz.ntmps6
  go_wp2_with fail
  rw [← HV.out]
  clear p1 p2 p3 p4 p5 c1'
  go_loopw [44] (fun i wr => ∃ k : Nat, k ≤ m.segs.length ∧ i = .int .i64 (k : Int) ∧ Hid (m.segs.take k = n.segs.take k) ∧ Below V.heap.size V wr) (fun i _ => m.segs.length - (intOf i).toNat)
  case atStart => exact ⟨0, Nat.zero_le _, rfl, Lib.hid (by simp), Below.refl _ _⟩
  case round =>
    obtain ⟨k, hk, rfl, HT, hbr⟩ := hrel
    have hsr := hbr.size
    have hVs : w.heap.size + 1 < V.heap.size := World.block_lt_of_cell? _ _ e1
    have g1 : wr.cell? ⟨w.heap.size, 1, none⟩ = some (.slice As m.segs.length cs) := (hbr.cell (p := ⟨w.heap.size, 1, none⟩) (show w.heap.size < V.heap.size by omega)).trans c1
    have g2 : wr.cell? ⟨w.heap.size + 1, 1, none⟩ = some (.slice Bs n.segs.length ds) := (hbr.cell (p := ⟨w.heap.size + 1, 1, none⟩) hVs).trans e1
    have g1d : wr.drew.cell? ⟨w.heap.size, 1, none⟩ = some (.slice As m.segs.length cs) := g1
    have g2d : wr.drew.cell? ⟨w.heap.size + 1, 1, none⟩ = some (.slice Bs n.segs.length ds) := g2
    by_cases hlt : k < m.segs.length
    case pos =>
      have h5 := H5.out
      obtain ⟨x, hga⟩ : ∃ x, m.segs[k]? = some x := ⟨_, List.getElem?_eq_getElem hlt⟩
      obtain ⟨y, hgb⟩ : ∃ y, n.segs[k]? = some y := ⟨_, List.getElem?_eq_getElem (show k < n.segs.length by omega)⟩
      have hlra : Rd wr FA 1 (.slice As m.segs.length cs) m.segs.length (sv m.segs) := hra.keep fun b h => hbr.block b (by have := hFA b h; omega)
      have hlrb : Rd wr FB 1 (.slice Bs n.segs.length ds) n.segs.length (sv n.segs) := hrb.keep fun b h => hbr.block b (by have := hFB b h; omega)
      obtain ⟨ba, oa, rfl, _, a0⟩ := RdS.elem hlra hga
      obtain ⟨bb, ob, rfl, _, b0⟩ := RdS.elem hlrb hgb
      have a0d : wr.drew.cell? ⟨ba, oa + k, none⟩ = _ := a0
      have b0d : wr.drew.cell? ⟨bb, ob + k, none⟩ = _ := b0
      have hlt2 : (k : Int) < (n.segs.length : Int) := by omega
      have HGA := Lib.hid hga
      have HGB := Lib.hid hgb
      clear hga hgb hlra hlrb h5
      by_cases hxy : x = y
      · have hp : (strB x).toList = (strB y).toList := by rw [hxy]
        have HN := Lib.hid (stake_eq HT.out HGA.out HGB.out hxy)
        clear hxy
        go_wp2_with fail
        refine wp_region_noPanic ?_
        refine wp_region_held_drew (S := (fun w' => w' = wr.drew)) (by kernel_rfl) ?_ (fun hHeld => ?_)
        · rfl
        refine heldTake 0 (some 47) (v := ?_) rfl rfl (by kernel_rfl) (by kernel_rfl) (by kernel_rfl) (by rfl) hHeld (fun _ _ _ h => h) ?_ ?_
        rotate_left
        · intro w' hSw; (try dsimp only at hSw); subst hSw; go_simp <;> with_reducible rfl
        simp only [Act.put, List.setIfInBounds_toArray, List.set_cons_zero, List.set_cons_succ]
        refine heldTake 1 (some 48) (v := ?_) rfl rfl (by kernel_rfl) (by kernel_rfl) (by kernel_rfl) (by rfl) hHeld (fun _ _ _ h => h) ?_ ?_
        rotate_left
        · intro w' hSw; (try dsimp only at hSw); subst hSw; go_simp <;> with_reducible rfl
        simp only [Act.put, List.setIfInBounds_toArray, List.set_cons_zero, List.set_cons_succ]
        refine heldTake 2 (some 49) (v := ?_) rfl rfl (by kernel_rfl) (by kernel_rfl) (by kernel_rfl) (by rfl) hHeld (fun _ _ _ h => h) ?_ ?_
        rotate_left
        · intro w' hSw; (try dsimp only at hSw); subst hSw; go_simp <;> with_reducible rfl
        simp only [Act.put, List.setIfInBounds_toArray, List.set_cons_zero, List.set_cons_succ]
        refine heldTake 3 (some 50) (v := ?_) rfl rfl (by kernel_rfl) (by kernel_rfl) (by kernel_rfl) (by rfl) hHeld (fun _ _ _ h => h) ?_ ?_
        rotate_left
        · intro w' hSw; (try dsimp only at hSw); subst hSw; go_simp <;> with_reducible rfl
        simp only [Act.put, List.setIfInBounds_toArray, List.set_cons_zero, List.set_cons_succ]
        refine heldTake 4 (some 51) (v := ?_) rfl rfl (by kernel_rfl) (by kernel_rfl) (by kernel_rfl) (by rfl) hHeld (fun _ _ _ h => h) ?_ ?_
        rotate_left
        · intro w' hSw; (try dsimp only at hSw); subst hSw; go_simp <;> with_reducible rfl
        simp only [Act.put, List.setIfInBounds_toArray, List.set_cons_zero, List.set_cons_succ]
        refine heldTake 5 (some 52) (v := ?_) rfl rfl (by kernel_rfl) (by kernel_rfl) (by kernel_rfl) (by rfl) hHeld (fun _ _ _ h => h) ?_ ?_
        rotate_left
        · intro w' hSw; (try dsimp only at hSw); subst hSw; go_simp <;> with_reducible rfl
        simp only [Act.put, List.setIfInBounds_toArray, List.set_cons_zero, List.set_cons_succ]
        refine heldTake 6 (some 53) (v := ?_) rfl rfl (by kernel_rfl) (by kernel_rfl) (by kernel_rfl) (by rfl) hHeld (fun _ _ _ h => h) ?_ ?_
        rotate_left
        · intro w' hSw; (try dsimp only at hSw); subst hSw; go_simp <;> with_reducible rfl
        simp only [Act.put, List.setIfInBounds_toArray, List.set_cons_zero, List.set_cons_succ]
        refine heldTake 7 (some 54) (v := ?_) rfl rfl (by kernel_rfl) (by kernel_rfl) (by kernel_rfl) (by rfl) hHeld (fun _ _ _ h => h) ?_ ?_
        rotate_left
        · intro w' hSw; (try dsimp only at hSw); subst hSw; go_simp <;> with_reducible rfl
        simp only [Act.put, List.setIfInBounds_toArray, List.set_cons_zero, List.set_cons_succ]
        refine heldTake 8 (some 55) (v := ?_) rfl rfl (by kernel_rfl) (by kernel_rfl) (by kernel_rfl) (by rfl) hHeld (fun _ _ _ h => h) ?_ ?_
        rotate_left
        · intro w' hSw; (try dsimp only at hSw); subst hSw; go_simp <;> with_reducible rfl
        simp only [Act.put, List.setIfInBounds_toArray, List.set_cons_zero, List.set_cons_succ]
        refine heldTake 9 (some 56) (v := ?_) rfl rfl (by kernel_rfl) (by kernel_rfl) (by kernel_rfl) (by rfl) hHeld (fun _ _ _ h => h) ?_ ?_
        rotate_left
        · intro w' hSw; (try dsimp only at hSw); subst hSw; go_simp <;> with_reducible rfl
        simp only [Act.put, List.setIfInBounds_toArray, List.set_cons_zero, List.set_cons_succ]
        refine heldTake 10 (some 57) (v := ?_) rfl rfl (by kernel_rfl) (by kernel_rfl) (by kernel_rfl) (by rfl) hHeld (fun _ _ _ h => h) ?_ ?_
        rotate_left
        · intro w' hSw; (try dsimp only at hSw); subst hSw; go_simp <;> with_reducible rfl
        simp only [Act.put, List.setIfInBounds_toArray, List.set_cons_zero, List.set_cons_succ]
        refine wpAnyH_done (by kernel_rfl) ?_ _
        refine NoPanic.normal ?_
        go_wp2_with fail
        go_roundw
        case rel => exact ⟨k + 1, by omega, by go_num, HN, hbr.drew⟩
        case measure => simp [intOf]; omega
      · have hp := str_nel hxy
        have hp2 := str_ne hxy
        have HD := Lib.hid (show res = false by
          rw [← HR.out]
          refine decide_eq_false (fun e => hxy ?_)
          have h1 := HGA.out
          rw [e, HGB.out] at h1
          exact (Option.some.inj h1).symm)
        go_wp2_with fail
        refine wp_region_noPanic ?_
        refine wp_region_held_drew (S := (fun w' => w' = wr.drew)) (by kernel_rfl) ?_ (fun hHeld => ?_)
        · rfl
        refine heldTake 0 (some 47) (v := ?_) rfl rfl (by kernel_rfl) (by kernel_rfl) (by kernel_rfl) (by rfl) hHeld (fun _ _ _ h => h) ?_ ?_
        rotate_left
        · intro w' hSw; (try dsimp only at hSw); subst hSw; go_simp <;> with_reducible rfl
        simp only [Act.put, List.setIfInBounds_toArray, List.set_cons_zero, List.set_cons_succ]
        refine heldTake 1 (some 48) (v := ?_) rfl rfl (by kernel_rfl) (by kernel_rfl) (by kernel_rfl) (by rfl) hHeld (fun _ _ _ h => h) ?_ ?_
        rotate_left
        · intro w' hSw; (try dsimp only at hSw); subst hSw; go_simp <;> with_reducible rfl
        simp only [Act.put, List.setIfInBounds_toArray, List.set_cons_zero, List.set_cons_succ]
        refine heldTake 2 (some 49) (v := ?_) rfl rfl (by kernel_rfl) (by kernel_rfl) (by kernel_rfl) (by rfl) hHeld (fun _ _ _ h => h) ?_ ?_
        rotate_left
        · intro w' hSw; (try dsimp only at hSw); subst hSw; go_simp <;> with_reducible rfl
        simp only [Act.put, List.setIfInBounds_toArray, List.set_cons_zero, List.set_cons_succ]
        refine heldTake 3 (some 50) (v := ?_) rfl rfl (by kernel_rfl) (by kernel_rfl) (by kernel_rfl) (by rfl) hHeld (fun _ _ _ h => h) ?_ ?_
        rotate_left
        · intro w' hSw; (try dsimp only at hSw); subst hSw; go_simp <;> with_reducible rfl
        simp only [Act.put, List.setIfInBounds_toArray, List.set_cons_zero, List.set_cons_succ]
        refine heldTake 4 (some 51) (v := ?_) rfl rfl (by kernel_rfl) (by kernel_rfl) (by kernel_rfl) (by rfl) hHeld (fun _ _ _ h => h) ?_ ?_
        rotate_left
        · intro w' hSw; (try dsimp only at hSw); subst hSw; go_simp <;> with_reducible rfl
        simp only [Act.put, List.setIfInBounds_toArray, List.set_cons_zero, List.set_cons_succ]
        refine heldTake 5 (some 52) (v := ?_) rfl rfl (by kernel_rfl) (by kernel_rfl) (by kernel_rfl) (by rfl) hHeld (fun _ _ _ h => h) ?_ ?_
        rotate_left
        · intro w' hSw; (try dsimp only at hSw); subst hSw; go_simp <;> with_reducible rfl
        simp only [Act.put, List.setIfInBounds_toArray, List.set_cons_zero, List.set_cons_succ]
        refine heldTake 6 (some 53) (v := ?_) rfl rfl (by kernel_rfl) (by kernel_rfl) (by kernel_rfl) (by rfl) hHeld (fun _ _ _ h => h) ?_ ?_
        rotate_left
        · intro w' hSw; (try dsimp only at hSw); subst hSw; go_simp <;> with_reducible rfl
        simp only [Act.put, List.setIfInBounds_toArray, List.set_cons_zero, List.set_cons_succ]
        refine heldTake 7 (some 54) (v := ?_) rfl rfl (by kernel_rfl) (by kernel_rfl) (by kernel_rfl) (by rfl) hHeld (fun _ _ _ h => h) ?_ ?_
        rotate_left
        · intro w' hSw; (try dsimp only at hSw); subst hSw; go_simp <;> with_reducible rfl
        simp only [Act.put, List.setIfInBounds_toArray, List.set_cons_zero, List.set_cons_succ]
        refine heldTake 8 (some 55) (v := ?_) rfl rfl (by kernel_rfl) (by kernel_rfl) (by kernel_rfl) (by rfl) hHeld (fun _ _ _ h => h) ?_ ?_
        rotate_left
        · intro w' hSw; (try dsimp only at hSw); subst hSw; go_simp <;> with_reducible rfl
        simp only [Act.put, List.setIfInBounds_toArray, List.set_cons_zero, List.set_cons_succ]
        refine heldTake 9 (some 56) (v := ?_) rfl rfl (by kernel_rfl) (by kernel_rfl) (by kernel_rfl) (by rfl) hHeld (fun _ _ _ h => h) ?_ ?_
        rotate_left
        · intro w' hSw; (try dsimp only at hSw); subst hSw; go_simp <;> with_reducible rfl
        simp only [Act.put, List.setIfInBounds_toArray, List.set_cons_zero, List.set_cons_succ]
        refine heldTake 10 (some 57) (v := ?_) rfl rfl (by kernel_rfl) (by kernel_rfl) (by kernel_rfl) (by rfl) hHeld (fun _ _ _ h => h) ?_ ?_
        rotate_left
        · intro w' hSw; (try dsimp only at hSw); subst hSw; go_simp <;> with_reducible rfl
        simp only [Act.put, List.setIfInBounds_toArray, List.set_cons_zero, List.set_cons_succ]
        refine wpAnyH_done (by kernel_rfl) ?_ _
        refine NoPanic.normal ?_
        go_wp2_with fail
        go_ret
        exact ⟨by rw [HD.out]; rfl, (show Below w.heap.size w V from by rw [HV.out]; exact HBX.out).trans (hbr.drew.mono (by omega))⟩
    case neg =>
    have HD := Lib.hid (show res = true by
      rw [← HR.out]
      refine decide_eq_true (Man.ext' H1.out ?_ H2.out H3.out H4.out)
      have h5 := H5.out
      have := HT.out
      rwa [List.take_of_length_le (by omega), List.take_of_length_le (by omega)] at this)
    go_wp2_with fail
    go_ret
    exact ⟨by rw [HD.out]; rfl, (show Below w.heap.size w V from by rw [HV.out]; exact HBX.out).trans (hbr.mono (by omega))⟩
end Go.Proofs.YthjephhojngiaaaGreatDoor
