/-
  Manifests: the walk of ManifestUnused.
-/
import Derived.Test.YthjephhojngiaaaGreatDoorManY
namespace Go.Proofs.YthjephhojngiaaaGreatDoor
open Go.RowKit Go.Lib Go.IntWalk

theorem segs_le (m : Man) : m.segs.length ≤ mSize m := by unfold mSize; omega
theorem loadF_word : ∀ {fl : FL} {fm fm' : FM}, loadF fl fm = some fm' → (∀ x, (fm x).isSome = true → wordF x = true) → ∀ x, (fm' x).isSome = true → wordF x = true
  | [], fm, fm', h, hw, x, hx => by
    rw [loadF] at h
    injection h with h
    subst h
    exact hw x hx
  | (k, l) :: r, fm, fm', h, hw, x, hx => by
    rw [loadF] at h
    split at h
    · cases h
    · rename_i hc
      have hk : wordF k = true := by
        rcases hwk : wordF k with _ | _
        · exact absurd (by rw [hwk]; simp) hc
        · rfl
      refine loadF_word h (fun y hy => ?_) x hx
      unfold updG at hy
      split at hy
      · rename_i e; rw [e]; exact hk
      · exact hw y hy
theorem look_some : ∀ {fl : FL} {p : List UInt8 × List UInt8}, p ∈ fl → (lookL fl p.1).isSome = true
  | (k, l) :: r, p, h => by
    rw [lookL]
    split
    · rfl
    · rename_i hne
      rcases List.mem_cons.1 h with rfl | h
      · exact absurd rfl hne
      · exact look_some h
theorem words_ne {fl0 fl : FL} {fm : FM} (h : loadF fl0 (fun _ => none) = some fm) (hI : IsL fm fl) : ∀ p ∈ fl, p.1 ≠ [] := by
  intro p hp e
  have h1 := look_some hp
  rw [hI.2 p.1] at h1
  have := loadF_word h (fun x hx => by cases hx) p.1 h1
  rw [e] at this
  exact absurd this (by decide)
theorem ret_true (b : Bool) (h : b = true) : Ending.returned (.bool b) = .returned (.bool true) := by rw [h]
set_option maxRecDepth 100000 in
set_option maxHeartbeats 8000000 in
theorem lawUnused_any (v : Value) (fl : FL) (As : Option Addr) (cs : Nat) (m : Man) (w : World) (hE : EnvT w) (hv : FlsRd w.heap.size w v fl) (hl : flsum fl + fl.length ≤ 1048576) (hnl : ∀ p ∈ fl, p.1.length ≤ maxLen) (h0 : Rd w (· < w.heap.size) 1 (.slice As m.segs.length cs) m.segs.length (sv m.segs)) (hsm : mSize m ≤ 4194304) :
    Calls Tryz.prog 4 #[v, manV As cs m] w fun e w' => e = .returned (.bool true) ∧ Below w.heap.size w w' := by
  obtain ⟨Av, cv, rfl, a1, a2, a3⟩ := hv.open_
  have HA3 := Lib.hid a3
  unfold maxLen at a2
  clear a3
  obtain ⟨W, hW⟩ : ∃ W, W = w.alloc (.cells (rowM As cs m) 25) := ⟨_, rfl⟩
  have hbW : Below w.heap.size w W := by rw [hW]; exact Below.of_alloc _
  have hsW : W.heap.size = w.heap.size + 1 := by rw [hW]; simp
  have hPW : W.heap[w.heap.size]? = some (.cells (rowM As cs m) 25 (0, 0)) := by rw [hW]; exact heap_alloc_new w _
  have hrW : Rd W (· < w.heap.size) 1 (.slice As m.segs.length cs) m.segs.length (sv m.segs) := h0.keep fun b hb => hbW.block b hb
  obtain ⟨_, _, hce, x1, x2, x3⟩ := Rd.open_ h0
  have HX3 := Lib.hid x3
  unfold maxLen at x2
  have HW := Lib.hid hW
  have hvW : FlsRd w.heap.size W (.slice Av fl.length cv) fl := hv.below (Nat.le_refl _) hbW
  clear hW h0 x3 hce x1 hv
  generalize hH : w.heap.size = H at *
  have HH := Lib.hid hH
  clear hH
  have HEB : Hid (∀ w', Below H w w' → EnvT w') := Lib.hid fun w' hb => hE.below (by rw [HH.out]; exact hb)
  clear hE
  have CL := Lib.hid (dload_any H _ fl W (by omega) hvW (by omega) (by omega) hnl)
  have HNL := Lib.hid hnl
  clear hnl
  generalize hres : loadF fl (fun _ => none) = res at *
  have HRES := Lib.hid hres
  clear hres
  have hnot : ∀ (x : Bool) (w : World), (Op.unary .not (.bool x)).run Tryz.prog w = .ok (.bool (!x)) w := fun _ _ => rfl
  go_enter Tryz.func4, Tryz.ntmps4
  go_wp2_with fail
  rw [← HW.out]
  (with_reducible refine CL.out.mono ?_)
  rintro e1 w1 ⟨hb1, hr1⟩
  rw [HH.out]
  have hs1 := hb1.size
  have hB1 : Below H w w1 := hbW.trans (hb1.mono (by omega))
  have hP1 := (hb1.block H (by omega)).trans hPW
  have hrm1 : Rd w1 (· < H) 1 (.slice As m.segs.length cs) m.segs.length (sv m.segs) := hrW.keep fun b hb => hb1.block b (by omega)
  have hv1 : FlsRd H w1 (.slice Av fl.length cv) fl := hvW.below (by omega) hb1
  have CR := Lib.hid (rload_any H _ fl w1 (by omega) hv1 (by omega) (by omega) HNL.out)
  rw [HRES.out] at CR
  clear CL hPW hrW hvW
  cases res with
  | none =>
    simp only at hr1
    subst hr1
    go_wp2_with fail
    (with_reducible refine CR.out.mono ?_)
    rintro e2 w2 ⟨hb2, hr2⟩
    simp only at hr2
    subst hr2
    have hs2 := hb2.size
    have hbX : Below w1.heap.size w1 (w2.alloc (.cells #[.slice none 0 0, .slice none 0 0] 35)) := hb2.trans ((Below.of_alloc _).mono hs2)
    obtain ⟨X, hX⟩ : ∃ X, X = w2.alloc (.cells #[.slice none 0 0, .slice none 0 0] 35) := ⟨_, rfl⟩
    rw [← hX] at hbX
    have hsX := hbX.size
    have hBX : Below H w X := hB1.trans (hbX.mono (by omega))
    have hPX := (hbX.block H (by omega)).trans hP1
    have hrX : Rd X (· < H) 1 (.slice As m.segs.length cs) m.segs.length (sv m.segs) := hrm1.keep fun b hb => hbX.block b (by omega)
    have CU := Lib.hid (munused_nil (· < H) As cs m X hrX (fun b hb => by omega) (by have := segs_le m; omega))
    have u0 : X.cell? ⟨H, 0, none⟩ = some (.string (strB m.base)) := cell_of_row _ _ 0 _ _ _ hPX
    have u1 : X.cell? ⟨H, 1, none⟩ = some (.slice As m.segs.length cs) := cell_of_row _ _ 1 _ _ _ hPX
    have u2 : X.cell? ⟨H, 2, none⟩ = some (.string (strB m.log)) := cell_of_row _ _ 2 _ _ _ hPX
    have u3 : X.cell? ⟨H, 3, none⟩ = some (.int .i64 m.tx) := cell_of_row _ _ 3 _ _ _ hPX
    have u4 : X.cell? ⟨H, 4, none⟩ = some (.int .i64 m.nx) := cell_of_row _ _ 4 _ _ _ hPX
    rw [hX] at u0 u1 u2 u3 u4
    have HX := Lib.hid hX
    clear hX
    go_wp2_with fail
    rw [← HX.out]
    (with_reducible refine CU.out.mono ?_)
    rintro eu wu ⟨rfl, hbu⟩
    have hsu := hbu.size
    have hBu : Below H w wu := hBX.trans (hbu.mono (by omega))
    clear u0 u1 u2 u3 u4 CU
    go_wp2_with fail
    (with_reducible refine (mworks_any wu (HEB.out _ hBu)).mono ?_)
    rintro ez wz ⟨rfl, hbz⟩
    go_wp2_with fail
    go_ret
    exact ⟨rfl, (hBu).trans (hbz.mono (by omega))⟩
  | some fm =>
    simp only at hr1
    obtain ⟨D, rfl, hDl, hD1⟩ := hr1
    go_wp2_with fail
    (with_reducible refine CR.out.mono ?_)
    rintro e2 w2 ⟨hb2, hr2⟩
    simp only at hr2
    obtain ⟨lv, fl2, rfl, hf2, hI2, hz2⟩ := hr2
    have hs2 := hb2.size
    have hD2 := hD1.below (by omega) hb2
    have hv2 : FlsRd H w2 (.slice Av fl.length cv) fl := hv1.below (by omega) hb2
    have hP2 := (hb2.block H (by omega)).trans hP1
    have hrm2 : Rd w2 (· < H) 1 (.slice As m.segs.length cs) m.segs.length (sv m.segs) := hrm1.keep fun b hb => hb2.block b (by omega)
    have hB2 : Below H w w2 := hB1.trans (hb2.mono (by omega))
    have hne := words_ne HRES.out hI2
    have HNE := Lib.hid (unused_same (m := m) hne)
    have hl2 : fl2.length ≤ 1048576 := by have := hz2.len; simp at this; omega
    obtain ⟨Al, cl, rfl, l1, l2, l3⟩ := hf2.open_
    have HL3 := Lib.hid l3
    unfold maxLen at l2
    obtain ⟨X, hX⟩ : ∃ X, X = w2.alloc (.cells #[.slice Al fl2.length cl, .slice none 0 0] 35) := ⟨_, rfl⟩
    have hbX : Below w2.heap.size w2 X := by rw [hX]; exact Below.of_alloc _
    have hTX : X.heap[w2.heap.size]? = some (.cells #[.slice Al fl2.length cl, .slice none 0 0] 35 (0, 0)) := by rw [hX]; exact heap_alloc_new _ _
    have hsX := hbX.size
    have hsX' : w2.heap.size < X.heap.size := by rw [hX]; simp
    have hDX := hD2.below (by omega) hbX
    have hvX : FlsRd H X (.slice Av fl.length cv) fl := hv2.below (by omega) hbX
    have hfX := hf2.below (by omega) hbX
    have hPX := (hbX.block H (by omega)).trans hP2
    have hrX : Rd X (· < H) 1 (.slice As m.segs.length cs) m.segs.length (sv m.segs) := hrm2.keep fun b hb => hbX.block b (by omega)
    have hBX : Below H w X := hB2.trans (hbX.mono (by omega))
    have CF := Lib.hid (files_any _ fl X (by obtain ⟨ps, q1, q2, q3⟩ := hvX; exact ⟨ps, q1, q2.wide (fun b hb => by rcases hb with hb | ⟨cs, hb⟩; exact .inl (by omega); exact .inr ⟨cs, hb⟩), fun p hp => (q3 p hp).wide (fun b hb => by rcases hb with hb | ⟨cs, fr, hb⟩; exact .inl (by omega); exact .inr ⟨cs, fr, hb⟩)⟩) hl)
    have HX := Lib.hid hX
    clear hX l3 CR hD1 hD2 hv1 hv2 hP1 hP2 hrm1 hrm2 hf2 hne
    go_wp2_with fail
    rw [← HX.out]
    (with_reducible refine CF.out.mono ?_)
    rintro e3 w3 ⟨rfl, hb3⟩
    have hs3 := hb3.size
    have hP3 := (hb3.block H (by omega)).trans hPX
    have hT3 := (hb3.block w2.heap.size (by omega)).trans hTX
    have hr3 : Rd w3 (· < H) 1 (.slice As m.segs.length cs) m.segs.length (sv m.segs) := hrX.keep fun b hb => hb3.block b (by omega)
    have hB3 : Below H w w3 := hBX.trans (hb3.mono (by omega))
    clear CF
    by_cases hsmall : (flsum fl : Int) + fl.length ≤ 4000
    case neg =>
      rw [decide_eq_false hsmall]
      have CU := Lib.hid (munused_nil (· < H) As cs m w3 hr3 (fun b hb => by omega) (by have := segs_le m; omega))
      have u0 : w3.cell? ⟨H, 0, none⟩ = some (.string (strB m.base)) := cell_of_row _ _ 0 _ _ _ hP3
      have u1 : w3.cell? ⟨H, 1, none⟩ = some (.slice As m.segs.length cs) := cell_of_row _ _ 1 _ _ _ hP3
      have u2 : w3.cell? ⟨H, 2, none⟩ = some (.string (strB m.log)) := cell_of_row _ _ 2 _ _ _ hP3
      have u3 : w3.cell? ⟨H, 3, none⟩ = some (.int .i64 m.tx) := cell_of_row _ _ 3 _ _ _ hP3
      have u4 : w3.cell? ⟨H, 4, none⟩ = some (.int .i64 m.nx) := cell_of_row _ _ 4 _ _ _ hP3
      go_wp2_with fail
      (with_reducible refine CU.out.mono ?_)
      rintro eu wu ⟨rfl, hbu⟩
      have hsu := hbu.size
      have hBu : Below H w wu := (hB3).trans (hbu.mono (by omega))
      clear u0 u1 u2 u3 u4 CU
      go_wp2_with fail
      (with_reducible refine (mworks_any wu (HEB.out _ hBu)).mono ?_)
      rintro ez wz ⟨rfl, hbz⟩
      go_wp2_with fail
      go_ret
      exact ⟨rfl, (hBu).trans (hbz.mono (by omega))⟩
    case pos =>
      rw [decide_eq_true hsmall]
      have CG := Lib.hid (large_any (· < H) As cs m w3 hr3 (fun b hb => by omega) hsm)
      have c0 : w3.cell? ⟨H, 0, none⟩ = some (.string (strB m.base)) := cell_of_row _ _ 0 _ _ _ hP3
      have c1 : w3.cell? ⟨H, 1, none⟩ = some (.slice As m.segs.length cs) := cell_of_row _ _ 1 _ _ _ hP3
      have c2 : w3.cell? ⟨H, 2, none⟩ = some (.string (strB m.log)) := cell_of_row _ _ 2 _ _ _ hP3
      have c3 : w3.cell? ⟨H, 3, none⟩ = some (.int .i64 m.tx) := cell_of_row _ _ 3 _ _ _ hP3
      have c4 : w3.cell? ⟨H, 4, none⟩ = some (.int .i64 m.nx) := cell_of_row _ _ 4 _ _ _ hP3
      go_wp2_with fail
      (with_reducible refine CG.out.mono ?_)
      rintro e4 w4 ⟨bl, rfl, hbl, hb4⟩
      have hs4 := hb4.size
      have hP4 := (hb4.block H (by omega)).trans hP3
      have hT4 := (hb4.block w2.heap.size (by omega)).trans hT3
      have hr4 : Rd w4 (· < H) 1 (.slice As m.segs.length cs) m.segs.length (sv m.segs) := hr3.keep fun b hb => hb4.block b (by omega)
      have hB4 : Below H w w4 := hB3.trans (hb4.mono (by omega))
      clear c0 c1 c2 c3 c4 CG
      cases bl with
      | true =>
        have CU := Lib.hid (munused_nil (· < H) As cs m w4 hr4 (fun b hb => by omega) (by have := segs_le m; omega))
        have u0 : w4.cell? ⟨H, 0, none⟩ = some (.string (strB m.base)) := cell_of_row _ _ 0 _ _ _ hP4
        have u1 : w4.cell? ⟨H, 1, none⟩ = some (.slice As m.segs.length cs) := cell_of_row _ _ 1 _ _ _ hP4
        have u2 : w4.cell? ⟨H, 2, none⟩ = some (.string (strB m.log)) := cell_of_row _ _ 2 _ _ _ hP4
        have u3 : w4.cell? ⟨H, 3, none⟩ = some (.int .i64 m.tx) := cell_of_row _ _ 3 _ _ _ hP4
        have u4 : w4.cell? ⟨H, 4, none⟩ = some (.int .i64 m.nx) := cell_of_row _ _ 4 _ _ _ hP4
        go_wp2_with fail
        (with_reducible refine CU.out.mono ?_)
        rintro eu wu ⟨rfl, hbu⟩
        have hsu := hbu.size
        have hBu : Below H w wu := (hB4).trans (hbu.mono (by omega))
        clear u0 u1 u2 u3 u4 CU
        go_wp2_with fail
        (with_reducible refine (mworks_any wu (HEB.out _ hBu)).mono ?_)
        rintro ez wz ⟨rfl, hbz⟩
        go_wp2_with fail
        go_ret
        exact ⟨rfl, (hBu).trans (hbz.mono (by omega))⟩
      | false =>
        have hz := hbl.out rfl
        have hsg := segs_le m
        have hD4 := (hDX.below (by omega) hb3).below (by omega) hb4
        have hf4 := (hfX.below (by omega) hb3).below (by omega) hb4
        have hod : ∀ w', DosRd H w' (.slice none 0 0) [] := fun w' => ⟨[], rfl, Rd.nil _ _ _, fun p hp => by cases hp⟩
        have HOD := Lib.hid hod
        have hl2v : (viewL fl2 []).length ≤ 1048576 := hl2
        have hI2v : IsL (viewF fm []) fl2 := ⟨hI2.1, hI2.2⟩
        clear hod
        have c0 : w4.cell? ⟨H, 0, none⟩ = some (.string (strB m.base)) := cell_of_row _ _ 0 _ _ _ hP4
        have c1 : w4.cell? ⟨H, 1, none⟩ = some (.slice As m.segs.length cs) := cell_of_row _ _ 1 _ _ _ hP4
        have c2 : w4.cell? ⟨H, 2, none⟩ = some (.string (strB m.log)) := cell_of_row _ _ 2 _ _ _ hP4
        have c3 : w4.cell? ⟨H, 3, none⟩ = some (.int .i64 m.tx) := cell_of_row _ _ 3 _ _ _ hP4
        have c4 : w4.cell? ⟨H, 4, none⟩ = some (.int .i64 m.nx) := cell_of_row _ _ 4 _ _ _ hP4
        have t0 : w4.cell? ⟨w2.heap.size, 0, none⟩ = some (.slice Al fl2.length cl) := cell_of_row _ _ 0 _ _ _ hT4
        have t1 : w4.cell? ⟨w2.heap.size, 1, none⟩ = some (.slice none 0 0) := cell_of_row _ _ 1 _ _ _ hT4
        go_wp2_with fail
        refine wp_region_noPanic ?_
        refine wp_region_held_drew (S := (fun w' => Below w4.heap.size w4 w')) (by kernel_rfl) ?_ (fun hHeld => ?_)
        · exact (Below.refl _ _).drew
        refine heldTake 0 (some 46) (v := ?_) rfl rfl (by kernel_rfl) (by kernel_rfl) (by kernel_rfl) (by rfl) hHeld (fun _ _ _ h => h) ?_ ?_
        rotate_left
        · intro w' hSw; (try dsimp only at hSw); go_simp <;> with_reducible rfl
        simp only [Act.put, List.setIfInBounds_toArray, List.set_cons_zero, List.set_cons_succ]
        refine heldTake 1 (some 47) (v := ?_) rfl rfl (by kernel_rfl) (by kernel_rfl) (by kernel_rfl) (by rfl) hHeld (fun _ _ _ h => h) ?_ ?_
        rotate_left
        · intro w' hSw; (try dsimp only at hSw); have q0 := (hSw.cell (p := ⟨H, 0, none⟩) (show H < w4.heap.size by omega)).trans c0; have q1 := (hSw.cell (p := ⟨H, 1, none⟩) (show H < w4.heap.size by omega)).trans c1; have q2 := (hSw.cell (p := ⟨H, 2, none⟩) (show H < w4.heap.size by omega)).trans c2; have q3 := (hSw.cell (p := ⟨H, 3, none⟩) (show H < w4.heap.size by omega)).trans c3; have q4 := (hSw.cell (p := ⟨H, 4, none⟩) (show H < w4.heap.size by omega)).trans c4; go_simp <;> with_reducible rfl
        simp only [Act.put, List.setIfInBounds_toArray, List.set_cons_zero, List.set_cons_succ]
        refine heldTake 3 (some 49) (v := ?_) rfl rfl (by kernel_rfl) (by kernel_rfl) (by kernel_rfl) (by rfl) hHeld (fun _ _ _ h => h) ?_ ?_
        rotate_left
        · intro w' hSw; (try dsimp only at hSw); have q0 := (hSw.cell (p := ⟨w2.heap.size, 0, none⟩) (show w2.heap.size < w4.heap.size by omega)).trans t0; have q1 := (hSw.cell (p := ⟨w2.heap.size, 1, none⟩) (show w2.heap.size < w4.heap.size by omega)).trans t1; go_simp <;> with_reducible rfl
        simp only [Act.put, List.setIfInBounds_toArray, List.set_cons_zero, List.set_cons_succ]
        refine heldTake 4 (some 50) (v := ?_) rfl rfl (by kernel_rfl) (by kernel_rfl) (by kernel_rfl) (by rfl) hHeld (fun _ _ _ h => h) ?_ ?_
        rotate_left
        · intro w' hSw; (try dsimp only at hSw); have q0 := (hSw.cell (p := ⟨H, 0, none⟩) (show H < w4.heap.size by omega)).trans c0; have q1 := (hSw.cell (p := ⟨H, 1, none⟩) (show H < w4.heap.size by omega)).trans c1; have q2 := (hSw.cell (p := ⟨H, 2, none⟩) (show H < w4.heap.size by omega)).trans c2; have q3 := (hSw.cell (p := ⟨H, 3, none⟩) (show H < w4.heap.size by omega)).trans c3; have q4 := (hSw.cell (p := ⟨H, 4, none⟩) (show H < w4.heap.size by omega)).trans c4; go_simp <;> with_reducible rfl
        simp only [Act.put, List.setIfInBounds_toArray, List.set_cons_zero, List.set_cons_succ]
        refine heldCall 2 (some 48) (f := ?_) (args := ?_) rfl rfl (by kernel_rfl) (by rfl) ?_ ?_
        rotate_left 2
        · go_simp <;> first | (constructor <;> with_reducible rfl) | with_reducible rfl
        (with_reducible refine (munused_any H _ D none fm [] (· < H) As cs m fl2 w4.drew ?_ hD4.drew ?_ hI2v hl2 ?_ ?_ ?_).mono ?_)
        · show H ≤ w4.heap.size; omega
        · omega
        · exact hr4.drew
        · intro b hb; show b < w4.heap.size; omega
        · omega
        rintro e5 w5 ⟨A5, k5, rfl, hO5, hb5'⟩
        have hb5 : Below w4.heap.size w4 w5 := Below.undrew hb5'
        have hs5 := hb5.size
        have hr45 : Rd w5 (· < H) 1 (.slice As m.segs.length cs) m.segs.length (sv m.segs) := hr4.keep fun b hb => hb5.block b (by omega)
        rw [← HNE.out] at hO5 ⊢
        refine ⟨_, rfl, keepAnd ?_ (fun hNew => ?_)⟩
        · exact hb5
        clear hHeld
        have hHeld := hNew
        clear hNew
        simp only [Act.put, List.setIfInBounds_toArray, List.set_cons_zero, List.set_cons_succ]
        refine heldCall 5 (some 51) (f := ?_) (args := ?_) rfl rfl (by kernel_rfl) (by rfl) ?_ ?_
        rotate_left 2
        · go_simp <;> first | (constructor <;> with_reducible rfl) | with_reducible rfl
        (with_reducible refine (runused_any H (flsum fl + fl.length) _ _ fl2 [] (· < H) As cs m w5 (by omega) (hf4.below (by omega) hb5) (HOD.out w5) hz2 hl hr45 (fun b hb => by omega) (by omega) hl2v).mono ?_)
        rintro e6 w6 ⟨A6, k6, rfl, hO6, hb6⟩
        have hs6 := hb6.size
        have hb46 : Below w4.heap.size w4 w6 := hb5.trans (hb6.mono (by omega))
        have hO56 := hO5.below hb6
        refine ⟨_, rfl, keepAnd ?_ (fun hNew => ?_)⟩
        · exact hb46
        clear hHeld
        have hHeld := hNew
        clear hNew
        simp only [Act.put, List.setIfInBounds_toArray, List.set_cons_zero, List.set_cons_succ]
        refine heldTake 6 (some 8) (v := ?_) rfl rfl (by kernel_rfl) (by kernel_rfl) (by kernel_rfl) (by rfl) hHeld (fun _ _ _ h => h) ?_ ?_
        rotate_left
        · intro w' hSw; (try dsimp only at hSw); go_simp <;> with_reducible rfl
        simp only [Act.put, List.setIfInBounds_toArray, List.set_cons_zero, List.set_cons_succ]
        refine heldTake 7 (some 9) (v := ?_) rfl rfl (by kernel_rfl) (by kernel_rfl) (by kernel_rfl) (by rfl) hHeld (fun _ _ _ h => h) ?_ ?_
        rotate_left
        · intro w' hSw; (try dsimp only at hSw); go_simp <;> with_reducible rfl
        simp only [Act.put, List.setIfInBounds_toArray, List.set_cons_zero, List.set_cons_succ]
        refine wpAnyH_done (by kernel_rfl) ?_ _
        refine NoPanic.normal ?_
        rw [show viewL fl2 [] = fl2 from rfl] at hO6 ⊢
        have hll : (unusedR m fl2).length ≤ 1048576 := by have := unusedR_len m fl2 fl2.length; rw [List.take_length] at this; omega
        generalize unusedR m fl2 = L at *
        have hR5 := (Rd.of_own hO56)
        have hR6 := (Rd.of_own hO6)
        obtain ⟨_, _, g1, g2, g3, g4⟩ := hO56.open_
        obtain ⟨_, _, f1, f2, f3, f4⟩ := hO6.open_
        injection g1 with ga gb gc
        injection f1 with fa fb fc
        subst gc; subst fc
        have HG4 := Lib.hid g4
        have HF4 := Lib.hid f4
        unfold maxLen at g3 f3
        clear g4 f4 ga gb fa fb c0 c1 c2 c3 c4 t0 t1 hO5 hO6 hO56
        have hB6 : Below H w w6 := hB4.trans (hb46.mono (by omega))
        go_wp2_with fail
        go_loopw [59] (fun i wr => ∃ k : Nat, k ≤ L.length ∧ i = .int .i64 (k : Int) ∧ Below w6.heap.size w6 wr) (fun i _ => L.length - (RowKit.intOf i).toNat)
        case atStart => exact ⟨0, Nat.zero_le _, rfl, Below.refl _ _⟩
        case round =>
          obtain ⟨k, hk, rfl, hbr⟩ := hrel
          have hsr := hbr.size
          by_cases hlt : k < L.length
          case pos =>
            have hr5 : Rd wr (fun b => b < w6.heap.size) 1 (.slice A5 L.length k5) L.length (sv L) := (hR5.wide fun b hb => hb.2).keep fun b hb => hbr.block b hb
            have hr6 : Rd wr (fun b => b < w6.heap.size) 1 (.slice A6 L.length k6) L.length (sv L) := (hR6.wide fun b hb => hb.2).keep fun b hb => hbr.block b hb
            obtain ⟨b5, o5, rfl, _, y5⟩ := RdS.elem hr5 (List.getElem?_eq_getElem hlt)
            obtain ⟨b6, o6, rfl, _, y6⟩ := RdS.elem hr6 (List.getElem?_eq_getElem hlt)
            have y5d : wr.drew.cell? ⟨b5, o5 + k, none⟩ = some (.string (strB L[k])) := y5
            have y6d : wr.drew.cell? ⟨b6, o6 + k, none⟩ = some (.string (strB L[k])) := y6
            have hself : ((strB L[k]).toList != (strB L[k]).toList) = false := str_beq rfl
            generalize L[k] = x at *
            go_wp2_with fail
            refine wp_region_noPanic ?_
            refine wp_region_held_drew (S := (fun w' => w' = wr.drew)) (by kernel_rfl) ?_ (fun hHeld => ?_)
            · rfl
            refine heldTake 0 (some 62) (v := ?_) rfl rfl (by kernel_rfl) (by kernel_rfl) (by kernel_rfl) (by rfl) hHeld (fun _ _ _ h => h) ?_ ?_
            rotate_left
            · intro w' hSw; (try dsimp only at hSw); subst hSw; go_simp <;> with_reducible rfl
            simp only [Act.put, List.setIfInBounds_toArray, List.set_cons_zero, List.set_cons_succ]
            refine heldTake 1 (some 63) (v := ?_) rfl rfl (by kernel_rfl) (by kernel_rfl) (by kernel_rfl) (by rfl) hHeld (fun _ _ _ h => h) ?_ ?_
            rotate_left
            · intro w' hSw; (try dsimp only at hSw); subst hSw; go_simp <;> with_reducible rfl
            simp only [Act.put, List.setIfInBounds_toArray, List.set_cons_zero, List.set_cons_succ]
            refine heldTake 2 (some 64) (v := ?_) rfl rfl (by kernel_rfl) (by kernel_rfl) (by kernel_rfl) (by rfl) hHeld (fun _ _ _ h => h) ?_ ?_
            rotate_left
            · intro w' hSw; (try dsimp only at hSw); subst hSw; go_simp <;> with_reducible rfl
            simp only [Act.put, List.setIfInBounds_toArray, List.set_cons_zero, List.set_cons_succ]
            refine heldTake 3 (some 65) (v := ?_) rfl rfl (by kernel_rfl) (by kernel_rfl) (by kernel_rfl) (by rfl) hHeld (fun _ _ _ h => h) ?_ ?_
            rotate_left
            · intro w' hSw; (try dsimp only at hSw); subst hSw; go_simp <;> with_reducible rfl
            simp only [Act.put, List.setIfInBounds_toArray, List.set_cons_zero, List.set_cons_succ]
            refine heldTake 4 (some 66) (v := ?_) rfl rfl (by kernel_rfl) (by kernel_rfl) (by kernel_rfl) (by rfl) hHeld (fun _ _ _ h => h) ?_ ?_
            rotate_left
            · intro w' hSw; (try dsimp only at hSw); subst hSw; go_simp <;> with_reducible rfl
            simp only [Act.put, List.setIfInBounds_toArray, List.set_cons_zero, List.set_cons_succ]
            refine heldTake 5 (some 67) (v := ?_) rfl rfl (by kernel_rfl) (by kernel_rfl) (by kernel_rfl) (by rfl) hHeld (fun _ _ _ h => h) ?_ ?_
            rotate_left
            · intro w' hSw; (try dsimp only at hSw); subst hSw; go_simp <;> with_reducible rfl
            simp only [Act.put, List.setIfInBounds_toArray, List.set_cons_zero, List.set_cons_succ]
            refine heldTake 6 (some 68) (v := ?_) rfl rfl (by kernel_rfl) (by kernel_rfl) (by kernel_rfl) (by rfl) hHeld (fun _ _ _ h => h) ?_ ?_
            rotate_left
            · intro w' hSw; (try dsimp only at hSw); subst hSw; go_simp <;> with_reducible rfl
            simp only [Act.put, List.setIfInBounds_toArray, List.set_cons_zero, List.set_cons_succ]
            refine heldTake 7 (some 69) (v := ?_) rfl rfl (by kernel_rfl) (by kernel_rfl) (by kernel_rfl) (by rfl) hHeld (fun _ _ _ h => h) ?_ ?_
            rotate_left
            · intro w' hSw; (try dsimp only at hSw); subst hSw; go_simp <;> with_reducible rfl
            simp only [Act.put, List.setIfInBounds_toArray, List.set_cons_zero, List.set_cons_succ]
            refine heldTake 8 (some 70) (v := ?_) rfl rfl (by kernel_rfl) (by kernel_rfl) (by kernel_rfl) (by rfl) hHeld (fun _ _ _ h => h) ?_ ?_
            rotate_left
            · intro w' hSw; (try dsimp only at hSw); subst hSw; go_simp <;> with_reducible rfl
            simp only [Act.put, List.setIfInBounds_toArray, List.set_cons_zero, List.set_cons_succ]
            refine wpAnyH_done (by kernel_rfl) ?_ _
            refine NoPanic.normal ?_
            go_wp2_with fail
            go_roundw
            case rel => exact ⟨k + 1, by omega, by go_num, hbr.drew⟩
            case measure => simp [RowKit.intOf]; omega
          case neg =>
            have hBr : Below H w wr := hB6.trans (hbr.mono (by omega))
            go_wp2_with fail
            (with_reducible refine (mworks_any wr (HEB.out _ hBr)).mono ?_)
            rintro ez wz ⟨rfl, hbz⟩
            go_wp2_with fail
            go_ret
            exact ⟨rfl, (hBr).trans (hbz.mono (by omega))⟩
end Go.Proofs.YthjephhojngiaaaGreatDoor
