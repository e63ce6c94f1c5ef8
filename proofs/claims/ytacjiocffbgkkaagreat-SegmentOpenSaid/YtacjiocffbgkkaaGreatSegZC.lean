/-
  SegmentOpen.
-/
import Derived.Test.YtacjiocffbgkkaaGreatSegZB
namespace Go.Proofs.YtacjiocffbgkkaaGreat
open Go.RowKit Go.Lib Go.IntWalk Go.Sort Go.Shelf

theorem pVersions2 {p : Value} {t : List UInt8} {cs : List (List Ver)} {w : World} (h : SegP w p t cs) (hn : cs.flatten.length ≤ 1048576) (hr : ∀ c ∈ cs, ∀ x ∈ c, x.row.length ≤ 12) : Calls Tryz.prog 16 #[p] w fun e w' => ∃ A n c, e = .returned (.slice A n c) ∧ (∃ Q, RdVs w' (· < w'.heap.size) (.slice A n c) Q ∧ Q.map (·.2) = cs.flatten) ∧ Below w.heap.size w w' := by
  refine (pVersions h hn hr).mono fun e w' ⟨u, q1, Q, q2, q3, q4⟩ => ?_
  obtain ⟨A, c, rfl, _, _, _⟩ := q2.1.open_
  exact ⟨A, _, c, q1, ⟨Q, q2, q3⟩, q4⟩
set_option maxRecDepth 1000000 in
set_option maxHeartbeats 16000000 in
theorem lawOpen_any (v : Value) (b : List UInt8) (w : World) (hv : RdB w (· < w.heap.size) v b) :
    Calls Tryz.prog 4 #[v] w fun e w' => e = .returned (.bool true) ∧ Below w.heap.size w w' := by
  obtain ⟨Av, cv, rfl, y1, y2, y3⟩ := Rd.open_ hv
  unfold maxLen at y2
  have HV := Lib.hid hv
  have KN := nSearch 0 0 0 0 w
  clear hv y3
  go_enter Tryz.func4, Tryz.ntmps4
  go_wp2_with fail
  (with_reducible refine KN.mono ?_)
  rintro _ w1 ⟨rfl, hb1⟩
  have HB1 : Hid (Below w.heap.size w w1) := Lib.hid hb1
  have KN := nLen w1
  clear hb1
  go_wp2_with fail
  (with_reducible refine KN.mono ?_)
  rintro _ w2 ⟨rfl, hb2⟩
  have HB2 : Hid (Below w.heap.size w w2) := Lib.hid (HB1.out.trans (hb2.mono HB1.out.size))
  have KN := nBlocks w2
  clear hb2
  go_wp2_with fail
  (with_reducible refine KN.mono ?_)
  rintro _ w3 ⟨rfl, hb3⟩
  have HB3 : Hid (Below w.heap.size w w3) := Lib.hid (HB2.out.trans (hb3.mono HB2.out.size))
  have KN := nVersions w3
  clear hb3
  go_wp2_with fail
  (with_reducible refine KN.mono ?_)
  rintro _ w4 ⟨rfl, hb4⟩
  have HB4 : Hid (Below w.heap.size w w4) := Lib.hid (HB3.out.trans (hb4.mono HB3.out.size))
  have KN := nTable w4
  clear hb4
  go_wp2_with fail
  (with_reducible refine KN.mono ?_)
  rintro _ w5 ⟨rfl, hb5⟩
  have HB5 : Hid (Below w.heap.size w w5) := Lib.hid (HB4.out.trans (hb5.mono HB4.out.size))
  clear hb5 KN HB1 HB2 HB3 HB4
  by_cases hl : 4000 < b.length
  case pos =>
    have hli : (4000 : Int) < (b.length : Int) := by omega
    go_wp2_with fail
    (with_reducible refine (works_any w5).mono ?_)
    rintro _ w6 ⟨rfl, hb6⟩
    have HB6 : Hid (Below w.heap.size w w6) := Lib.hid (HB5.out.trans (hb6.mono HB5.out.size))
    clear hb6
    go_wp2_with fail
    go_ret
    exact ⟨rfl, HB6.out⟩
  case neg =>
    have hli : ¬ (4000 : Int) < (b.length : Int) := by omega
    have hlm : b.length ≤ 1048576 := by omega
    have KO1 := open_any _ _ w5 (RdB.below HV.out HB5.out) hlm
    have KO2 : ∀ W, Below w5.heap.size w5 W → Calls Tryz.prog 10 #[.slice Av b.length cv] W (ROpnOut (opnF b) W) := fun W hW => by
      rw [← ropn_opn b hlm]
      exact ropen_any _ _ W (RdB.below (RdB.below HV.out HB5.out) hW) hlm
    rcases hO : opnF b with ⟨⟨t, dn⟩, e⟩
    have hz : e ≠ 0 → t = [] ∧ dn = [] := fun h => by
      have := opn_err (l := b) (by rw [hO]; exact h)
      rw [hO] at this
      simp only [Prod.mk.injEq] at this
      exact this
    have hval : (e = 0 → chunks (szF dn) dn.flatten = dn) ∧ dn.flatten.length ≤ 1048576 ∧ ∀ c ∈ dn, ∀ x ∈ c, x.row.length ≤ 12 := by
      by_cases he : e = 0
      · subst he
        obtain ⟨q1, q2, q3, q4⟩ := opn_bld_eq hO hlm
        have q5 := (bld_has q4).1
        exact ⟨fun _ => q2.symm, by omega, fun c hc x hx => (closed_go (q5 x (List.mem_flatten.2 ⟨c, hc, hx⟩))).2⟩
      · obtain ⟨rfl, rfl⟩ := hz he
        exact ⟨fun h => absurd h he, by simp, fun c hc => by cases hc⟩
    rw [hO] at KO1 KO2
    have HZ := Lib.hid hz
    have HVAL := Lib.hid hval
    clear hO hz hval
    go_wp2_with fail
    (with_reducible refine KO1.mono ?_)
    rintro _ w6 ⟨hb6, hor⟩
    obtain ⟨p, rfl, hSP, hpn⟩ : ∃ p, _ = Ending.returned (.tuple #[p, .int .i64 e]) ∧ SegP w6 p t dn ∧ ((e = 0 ∧ ∃ P, p = .pointer (some ⟨P, 0, none⟩)) ∨ (e ≠ 0 ∧ p = .pointer none)) := by
      rcases hor with ⟨h0, h⟩ | ⟨h0, P, h, hS⟩
      · obtain ⟨rfl, rfl⟩ := HZ.out h0
        exact ⟨_, h, .inl ⟨rfl, rfl, rfl⟩, .inr ⟨h0, rfl⟩⟩
      · simp only at h0 hS
        rw [HVAL.out.1 h0] at hS
        subst h0
        exact ⟨_, h, .inr ⟨P, rfl, hS⟩, .inl ⟨rfl, P, rfl⟩⟩
    have HB6 : Hid (Below w.heap.size w w6) := Lib.hid (HB5.out.trans (hb6.mono HB5.out.size))
    have KO2 := KO2 w6 hb6
    have HSP6 := Lib.hid hSP
    have HPN := Lib.hid hpn
    clear hb6 hor hSP hpn KO1 HB5
    go_wp2_with fail
    (with_reducible refine KO2.mono ?_)
    rintro _ w7 ⟨vx, ls, rfl, hL, hM, hb7⟩
    simp only at hM ⊢
    obtain ⟨Al, cl, rfl, _, _, _⟩ := hL.1.open_
    obtain ⟨S, hS⟩ : ∃ S, S = strB t := ⟨_, rfl⟩
    rw [← hS]
    obtain ⟨w8, hw8⟩ : ∃ w8, w8 = w7.alloc (.cells #[.string S, .slice Al ls.length cl] 38) := ⟨_, rfl⟩
    obtain ⟨X, hX⟩ : ∃ X, X = w7.heap.size := ⟨_, rfl⟩
    have hb8 : Below w7.heap.size w7 w8 := by rw [hw8]; exact Below.of_alloc _
    have hXT : w8.heap[X]? = some (.cells #[.string S, .slice Al ls.length cl] 38 (0, 0)) := by rw [hw8, hX]; exact heap_alloc_new _ _
    have HX8 := Lib.hid hXT
    have HX8L : Hid (X < w8.heap.size) := Lib.hid (by rw [hw8, hX]; simp)
    have HL8 := Lib.hid (hL.below hb8)
    have HAL : Hid ((allP ls).map (·.2) = dn.flatten) := Lib.hid (by rw [allP_flat, hM])
    have HLL : Hid (dn.length = ls.length) := Lib.hid (by rw [← hM, List.length_map])
    have HB8 : Hid (Below w.heap.size w w8) := Lib.hid (HB6.out.trans ((hb7.trans (hb8.mono hb7.size)).mono HB6.out.size))
    have HSP8 := Lib.hid ((HSP6.out.below hb7).below hb8)
    have HSt := Lib.hid hS
    have hLn : (allP ls).length = dn.flatten.length := by rw [← HAL.out, List.length_map]
    have HLN := Lib.hid hLn
    clear hb7 hb8 hXT hL hM KO2 HSP6 HB6 hS hLn
    go_upto_region 9 with (fail)
    rw [← hw8, ← hX]
    clear hw8 hX
    have KBD := pBounds HSP8.out HVAL.out.2.1 HVAL.out.2.2
    have KBR := fun V (h : Below w8.heap.size w8 V) => rBounds_any S _ ls V (HL8.out.below h) (by have := HLN.out; have := HVAL.out.2.1; omega)
    rw [HAL.out] at KBR
    obtain ⟨⟨⟨r1, r2, r3, r4⟩, rb⟩, hbd⟩ : ∃ r, r = boundsF dn.flatten := ⟨_, rfl⟩
    have KBD : Calls Tryz.prog 18 #[p] w8 fun e w' => e = .returned (.tuple #[.agg #[.int .i64 r1, .int .i64 r2, .int .i64 r3, .int .i64 r4], .bool rb]) ∧ Below w8.heap.size w8 w' := by
      refine KBD.mono fun e w' h => ?_
      unfold BdOut at h
      rw [← hbd] at h
      exact h
    have KBR : ∀ V, Below w8.heap.size w8 V → Calls Tryz.prog 19 #[.agg #[.string S, .slice Al ls.length cl]] V fun e w' => e = .returned (.tuple #[.agg #[.int .i64 r1, .int .i64 r2, .int .i64 r3, .int .i64 r4], .bool rb]) ∧ Below V.heap.size V w' := fun V hV => by
      refine (KBR V hV).mono fun e w' h => ?_
      unfold BdOut at h
      rw [← hbd] at h
      exact h
    clear hbd
    rcases HPN.out with ⟨he, P, hp⟩ | ⟨he, hp⟩
    case' inl => subst he
    all_goals
      subst hp
      clear HPN
      go_upto_region 11 with (fail)
      go_wp2_with fail
      (with_reducible refine KBD.mono ?_)
      rintro _ w9 ⟨rfl, hb9⟩
      obtain ⟨wa, hwa⟩ : ∃ wa, wa = w9.alloc (.cells #[.int .i64 r1, .int .i64 r2, .int .i64 r3, .int .i64 r4] 26) := ⟨_, rfl⟩
      obtain ⟨R1, hR1⟩ : ∃ R1, R1 = w9.heap.size := ⟨_, rfl⟩
      have hba : Below w9.heap.size w9 wa := by rw [hwa]; exact Below.of_alloc _
      have hRT : wa.heap[R1]? = some (.cells #[.int .i64 r1, .int .i64 r2, .int .i64 r3, .int .i64 r4] 26 (0, 0)) := by rw [hwa, hR1]; exact heap_alloc_new _ _
      have HRT := Lib.hid hRT
      have HRL : Hid (R1 < wa.heap.size) := Lib.hid (by rw [hwa, hR1]; simp)
      have HB8a : Hid (Below w8.heap.size w8 wa) := Lib.hid (hb9.trans (hba.mono hb9.size))
      have hXa := (HB8a.out.block X HX8L.out).trans HX8.out
      have KBR := KBR wa HB8a.out
      clear hb9 hba hRT KBD
      have x0 : wa.cell? ⟨X, 0, none⟩ = some (.string S) := cell_of_row wa _ 0 _ _ _ hXa
      have x1 : wa.cell? ⟨X, 1, none⟩ = some (.slice Al ls.length cl) := cell_of_row wa _ 1 _ _ _ hXa
      go_upto_region 12 with (fail)
      rw [← hwa, ← hR1]
      clear hwa hR1 hXa
      go_wp2_with fail
      (with_reducible refine KBR.mono ?_)
      rintro _ wb ⟨rfl, hbb⟩
      obtain ⟨W, hW⟩ : ∃ W, W = wb.alloc (.cells #[.int .i64 r1, .int .i64 r2, .int .i64 r3, .int .i64 r4] 26) := ⟨_, rfl⟩
      obtain ⟨R2, hR2⟩ : ∃ R2, R2 = wb.heap.size := ⟨_, rfl⟩
      have hbW : Below wb.heap.size wb W := by rw [hW]; exact Below.of_alloc _
      have hRT : W.heap[R2]? = some (.cells #[.int .i64 r1, .int .i64 r2, .int .i64 r3, .int .i64 r4] 26 (0, 0)) := by rw [hW, hR2]; exact heap_alloc_new _ _
      have HR2T := Lib.hid hRT
      have HR2L : Hid (R2 < W.heap.size) := Lib.hid (by rw [hW, hR2]; simp)
      have hbaW : Below wa.heap.size wa W := hbb.trans (hbW.mono hbb.size)
      have HR1T := Lib.hid ((hbaW.block R1 HRL.out).trans HRT.out)
      have HR1L : Hid (R1 < W.heap.size) := Lib.hid (by have := hbaW.size; have := HRL.out; omega)
      have HB8W : Hid (Below w8.heap.size w8 W) := Lib.hid (HB8a.out.trans (hbaW.mono HB8a.out.size))
      have HXT := Lib.hid ((HB8W.out.block X HX8L.out).trans HX8.out)
      have HXL : Hid (X < W.heap.size) := Lib.hid (by have := HB8W.out.size; have := HX8L.out; omega)
      have HSPW := Lib.hid (HSP8.out.below HB8W.out)
      have HLW := Lib.hid (HL8.out.below HB8W.out)
      have HBW : Hid (Below w.heap.size w W) := Lib.hid (HB8.out.trans (HB8W.out.mono HB8.out.size))
      clear hbb hbW hRT hbaW KBR x0 x1
      go_upto_region 13 with (fail)
      rw [← hW, ← hR2]
      clear hW hR2
      obtain ⟨nV, hnV⟩ : ∃ nV, nV = (allP ls).length := ⟨_, rfl⟩
      have hnm : nV ≤ 1048576 := by rw [hnV, HLN.out]; exact HVAL.out.2.1
      have KT := fun V (h : Below W.heap.size W V) => pTable (HSPW.out.below h)
      rw [← HSt.out] at KT
      have KB := fun V (h : Below W.heap.size W V) => pBlocks (HSPW.out.below h)
      rw [HLL.out] at KB
      have KL := fun V (h : Below W.heap.size W V) => pLen (HSPW.out.below h) (by have := HVAL.out.2.1; omega)
      rw [← HLN.out, ← hnV] at KL
      have KV : ∀ V, Below W.heap.size W V → Calls Tryz.prog 20 #[.agg #[.string S, .slice Al ls.length cl]] V fun e w' => ∃ A c, e = .returned (.slice A nV c) ∧ RdVs w' (· < w'.heap.size) (.slice A nV c) (allP ls) ∧ Below V.heap.size V w' := fun V h => by
        refine (rVersions_any S _ ls V (HLW.out.below h) (by rw [← hnV]; omega)).mono fun e w' ⟨u, q1, q2, q3⟩ => ?_
        obtain ⟨A, c, rfl, _, _, _⟩ := q2.1.open_
        rw [← hnV] at q1 q2
        exact ⟨A, c, q1, q2, q3⟩
      have KS := fun V (h : Below W.heap.size W V) => pVersions2 (HSPW.out.below h) HVAL.out.2.1 HVAL.out.2.2
      clear hnV HSP8 HL8 HB8 HB8W HB8a HRT HRL
      refine wp_region_noPanic ?_
      refine wp_region_held_drew (S := (fun w' => Below W.heap.size W w')) (by kernel_rfl) ?_ (fun hHeld => ?_)
      · exact (Below.refl _ _).drew
      refine heldTake 0 (some 74) (v := ?_) rfl rfl (by kernel_rfl) (by kernel_rfl) (by kernel_rfl) (by rfl) hHeld (fun _ _ _ h => h) ?_ ?_
      rotate_left
      · intro w' hSw; (try dsimp only at hSw); go_simp <;> with_reducible rfl
      simp only [Act.put, List.setIfInBounds_toArray, List.set_cons_zero, List.set_cons_succ]
      refine heldTake 2 (some 76) (v := ?_) rfl rfl (by kernel_rfl) (by kernel_rfl) (by kernel_rfl) (by rfl) hHeld (fun _ _ _ h => h) ?_ ?_
      rotate_left
      · intro w' hSw; (try dsimp only at hSw); go_simp <;> with_reducible rfl
      simp only [Act.put, List.setIfInBounds_toArray, List.set_cons_zero, List.set_cons_succ]
      refine heldTake 3 (some 77) (v := ?_) rfl rfl (by kernel_rfl) (by kernel_rfl) (by kernel_rfl) (by rfl) hHeld (fun _ _ _ h => h) ?_ ?_
      rotate_left
      · intro w' hSw; (try dsimp only at hSw); have q0 : w'.cell? ⟨X, 0, none⟩ = some (.string S) := (World.cell?_of_block (hSw.block _ HXL.out)).trans (cell_of_row W X 0 _ _ _ HXT.out); go_simp <;> with_reducible rfl
      simp only [Act.put, List.setIfInBounds_toArray, List.set_cons_zero, List.set_cons_succ]
      refine heldCall 1 (some 75) (f := ?_) (args := ?_) rfl rfl (by kernel_rfl) (by rfl) ?_ ?_
      rotate_left 2
      · go_simp <;> first | (constructor <;> with_reducible rfl) | with_reducible rfl
      (with_reducible refine (KT _ ((Below.refl _ _).drew)).mono ?_)
      rintro _ z1 ⟨rfl, hz1'⟩
      have hz1 : Below W.heap.size W z1 := Below.undrew hz1'
      refine ⟨_, rfl, keepAnd ?_ (fun hNew => ?_)⟩
      · exact hz1
      clear hHeld
      have hHeld := hNew
      clear hNew
      simp only [Act.put, List.setIfInBounds_toArray, List.set_cons_zero, List.set_cons_succ]
      refine heldTake 4 (some 78) (v := ?_) rfl rfl (by kernel_rfl) (by kernel_rfl) (by kernel_rfl) (by rfl) hHeld (fun _ _ _ h => h) ?_ ?_
      rotate_left
      · intro w' hSw; (try dsimp only at hSw); go_simp <;> with_reducible rfl
      simp only [Act.put, List.setIfInBounds_toArray, List.set_cons_zero, List.set_cons_succ]
      refine heldTake 5 (some 79) (v := ?_) rfl rfl (by kernel_rfl) (by kernel_rfl) (by kernel_rfl) (by rfl) hHeld (fun _ _ _ h => h) ?_ ?_
      rotate_left
      · intro w' hSw; (try dsimp only at hSw); go_simp <;> with_reducible rfl
      simp only [Act.put, List.setIfInBounds_toArray, List.set_cons_zero, List.set_cons_succ]
      refine heldTake 6 (some 80) (v := ?_) rfl rfl (by kernel_rfl) (by kernel_rfl) (by kernel_rfl) (by rfl) hHeld (fun _ _ _ h => h) ?_ ?_
      rotate_left
      · intro w' hSw; (try dsimp only at hSw); go_simp <;> with_reducible rfl
      simp only [Act.put, List.setIfInBounds_toArray, List.set_cons_zero, List.set_cons_succ]
      refine heldTake 8 (some 82) (v := ?_) rfl rfl (by kernel_rfl) (by kernel_rfl) (by kernel_rfl) (by rfl) hHeld (fun _ _ _ h => h) ?_ ?_
      rotate_left
      · intro w' hSw; (try dsimp only at hSw); go_simp <;> with_reducible rfl
      simp only [Act.put, List.setIfInBounds_toArray, List.set_cons_zero, List.set_cons_succ]
      refine heldTake 9 (some 83) (v := ?_) rfl rfl (by kernel_rfl) (by kernel_rfl) (by kernel_rfl) (by rfl) hHeld (fun _ _ _ h => h) ?_ ?_
      rotate_left
      · intro w' hSw; (try dsimp only at hSw); have q1 : w'.cell? ⟨X, 1, none⟩ = some (.slice Al ls.length cl) := (World.cell?_of_block (hSw.block _ HXL.out)).trans (cell_of_row W X 1 _ _ _ HXT.out); go_simp <;> with_reducible rfl
      simp only [Act.put, List.setIfInBounds_toArray, List.set_cons_zero, List.set_cons_succ]
      refine heldTake 10 (some 84) (v := ?_) rfl rfl (by kernel_rfl) (by kernel_rfl) (by kernel_rfl) (by rfl) hHeld (fun _ _ _ h => h) ?_ ?_
      rotate_left
      · intro w' hSw; (try dsimp only at hSw); go_simp <;> with_reducible rfl
      simp only [Act.put, List.setIfInBounds_toArray, List.set_cons_zero, List.set_cons_succ]
      refine heldCall 7 (some 81) (f := ?_) (args := ?_) rfl rfl (by kernel_rfl) (by rfl) ?_ ?_
      rotate_left 2
      · go_simp <;> first | (constructor <;> with_reducible rfl) | with_reducible rfl
      (with_reducible refine (KB z1 hz1).mono ?_)
      rintro _ z2 ⟨rfl, hz2'⟩
      have hz2 : Below W.heap.size W z2 := hz1.trans (hz2'.mono hz1.size)
      refine ⟨_, rfl, keepAnd ?_ (fun hNew => ?_)⟩
      · exact hz2
      clear hHeld
      have hHeld := hNew
      clear hNew
      simp only [Act.put, List.setIfInBounds_toArray, List.set_cons_zero, List.set_cons_succ]
      refine heldTake 11 (some 85) (v := ?_) rfl rfl (by kernel_rfl) (by kernel_rfl) (by kernel_rfl) (by rfl) hHeld (fun _ _ _ h => h) ?_ ?_
      rotate_left
      · intro w' hSw; (try dsimp only at hSw); go_simp <;> with_reducible rfl
      simp only [Act.put, List.setIfInBounds_toArray, List.set_cons_zero, List.set_cons_succ]
      refine heldTake 12 (some 86) (v := ?_) rfl rfl (by kernel_rfl) (by kernel_rfl) (by kernel_rfl) (by rfl) hHeld (fun _ _ _ h => h) ?_ ?_
      rotate_left
      · intro w' hSw; (try dsimp only at hSw); go_simp <;> with_reducible rfl
      simp only [Act.put, List.setIfInBounds_toArray, List.set_cons_zero, List.set_cons_succ]
      refine heldTake 13 (some 87) (v := ?_) rfl rfl (by kernel_rfl) (by kernel_rfl) (by kernel_rfl) (by rfl) hHeld (fun _ _ _ h => h) ?_ ?_
      rotate_left
      · intro w' hSw; (try dsimp only at hSw); go_simp <;> with_reducible rfl
      simp only [Act.put, List.setIfInBounds_toArray, List.set_cons_zero, List.set_cons_succ]
      refine heldTake 14 (some 88) (v := ?_) rfl rfl (by kernel_rfl) (by kernel_rfl) (by kernel_rfl) (by rfl) hHeld (fun _ _ _ h => h) ?_ ?_
      rotate_left
      · intro w' hSw; (try dsimp only at hSw); go_simp <;> with_reducible rfl
      simp only [Act.put, List.setIfInBounds_toArray, List.set_cons_zero, List.set_cons_succ]
      refine heldTake 16 (some 90) (v := ?_) rfl rfl (by kernel_rfl) (by kernel_rfl) (by kernel_rfl) (by rfl) hHeld (fun _ _ _ h => h) ?_ ?_
      rotate_left
      · intro w' hSw; (try dsimp only at hSw); have q0 : w'.cell? ⟨X, 0, none⟩ = some (.string S) := (World.cell?_of_block (hSw.block _ HXL.out)).trans (cell_of_row W X 0 _ _ _ HXT.out); have q1 : w'.cell? ⟨X, 1, none⟩ = some (.slice Al ls.length cl) := (World.cell?_of_block (hSw.block _ HXL.out)).trans (cell_of_row W X 1 _ _ _ HXT.out); go_simp <;> with_reducible rfl
      simp only [Act.put, List.setIfInBounds_toArray, List.set_cons_zero, List.set_cons_succ]
      refine heldCall 15 (some 89) (f := ?_) (args := ?_) rfl rfl (by kernel_rfl) (by rfl) ?_ ?_
      rotate_left 2
      · go_simp <;> first | (constructor <;> with_reducible rfl) | with_reducible rfl
      (with_reducible refine (KL z2 hz2).mono ?_)
      rintro _ z3 ⟨rfl, hz3'⟩
      have hz3 : Below W.heap.size W z3 := hz2.trans (hz3'.mono hz2.size)
      refine ⟨_, rfl, keepAnd ?_ (fun hNew => ?_)⟩
      · exact hz3
      clear hHeld
      have hHeld := hNew
      clear hNew
      simp only [Act.put, List.setIfInBounds_toArray, List.set_cons_zero, List.set_cons_succ]
      refine heldCall 17 (some 91) (f := ?_) (args := ?_) rfl rfl (by kernel_rfl) (by rfl) ?_ ?_
      rotate_left 2
      · go_simp <;> first | (constructor <;> with_reducible rfl) | with_reducible rfl
      (with_reducible refine (KV z3 hz3).mono ?_)
      rintro _ z4 ⟨A4, c4, rfl, hv4, hz4'⟩
      have hz4 : Below W.heap.size W z4 := hz3.trans (hz4'.mono hz3.size)
      refine ⟨_, rfl, keepAnd ?_ (fun hNew => ?_)⟩
      · exact hz4
      clear hHeld
      have hHeld := hNew
      clear hNew
      simp only [Act.put, List.setIfInBounds_toArray, List.set_cons_zero, List.set_cons_succ]
      refine heldTake 18 (some 92) (v := ?_) rfl rfl (by kernel_rfl) (by kernel_rfl) (by kernel_rfl) (by rfl) hHeld (fun _ _ _ h => h) ?_ ?_
      rotate_left
      · intro w' hSw; (try dsimp only at hSw); go_simp <;> with_reducible rfl
      simp only [Act.put, List.setIfInBounds_toArray, List.set_cons_zero, List.set_cons_succ]
      refine heldTake 19 (some 93) (v := ?_) rfl rfl (by kernel_rfl) (by kernel_rfl) (by kernel_rfl) (by rfl) hHeld (fun _ _ _ h => h) ?_ ?_
      rotate_left
      · intro w' hSw; (try dsimp only at hSw); go_simp <;> with_reducible rfl
      simp only [Act.put, List.setIfInBounds_toArray, List.set_cons_zero, List.set_cons_succ]
      refine heldTake 20 (some 94) (v := ?_) rfl rfl (by kernel_rfl) (by kernel_rfl) (by kernel_rfl) (by rfl) hHeld (fun _ _ _ h => h) ?_ ?_
      rotate_left
      · intro w' hSw; (try dsimp only at hSw); go_simp <;> with_reducible rfl
      simp only [Act.put, List.setIfInBounds_toArray, List.set_cons_zero, List.set_cons_succ]
      refine heldTake 21 (some 95) (v := ?_) rfl rfl (by kernel_rfl) (by kernel_rfl) (by kernel_rfl) (by rfl) hHeld (fun _ _ _ h => h) ?_ ?_
      rotate_left
      · intro w' hSw; (try dsimp only at hSw); go_simp <;> with_reducible rfl
      simp only [Act.put, List.setIfInBounds_toArray, List.set_cons_zero, List.set_cons_succ]
      refine heldTake 22 (some 96) (v := ?_) rfl rfl (by kernel_rfl) (by kernel_rfl) (by kernel_rfl) (by rfl) hHeld (fun _ _ _ h => h) ?_ ?_
      rotate_left
      · intro w' hSw; (try dsimp only at hSw); go_simp <;> with_reducible rfl
      simp only [Act.put, List.setIfInBounds_toArray, List.set_cons_zero, List.set_cons_succ]
      refine heldTake 24 (some 98) (v := ?_) rfl rfl (by kernel_rfl) (by kernel_rfl) (by kernel_rfl) (by rfl) hHeld (fun _ _ _ h => h) ?_ ?_
      rotate_left
      · intro w' hSw; (try dsimp only at hSw); have q0 : w'.cell? ⟨X, 0, none⟩ = some (.string S) := (World.cell?_of_block (hSw.block _ HXL.out)).trans (cell_of_row W X 0 _ _ _ HXT.out); have q1 : w'.cell? ⟨X, 1, none⟩ = some (.slice Al ls.length cl) := (World.cell?_of_block (hSw.block _ HXL.out)).trans (cell_of_row W X 1 _ _ _ HXT.out); go_simp <;> with_reducible rfl
      simp only [Act.put, List.setIfInBounds_toArray, List.set_cons_zero, List.set_cons_succ]
      refine heldCall 23 (some 97) (f := ?_) (args := ?_) rfl rfl (by kernel_rfl) (by rfl) ?_ ?_
      rotate_left 2
      · go_simp <;> first | (constructor <;> with_reducible rfl) | with_reducible rfl
      (with_reducible refine (KS z4 hz4).mono ?_)
      rintro _ z5 ⟨A5, n5, c5, rfl, ⟨Q5, hq5, hm5⟩, hz5'⟩
      have hz5 : Below W.heap.size W z5 := hz4.trans (hz5'.mono hz4.size)
      refine ⟨_, rfl, keepAnd ?_ (fun hNew => ?_)⟩
      · exact hz5
      clear hHeld
      have hHeld := hNew
      clear hNew
      simp only [Act.put, List.setIfInBounds_toArray, List.set_cons_zero, List.set_cons_succ]
      refine heldCall 25 (some 99) (f := ?_) (args := ?_) rfl rfl (by kernel_rfl) (by rfl) ?_ ?_
      rotate_left 2
      · go_simp <;> first | (constructor <;> with_reducible rfl) | with_reducible rfl
      (with_reducible refine (KV z5 hz5).mono ?_)
      rintro _ z6 ⟨A6, c6, rfl, hv6, hz6'⟩
      have hz6 : Below W.heap.size W z6 := hz5.trans (hz6'.mono hz5.size)
      have KM := sameVersions_any _ _ Q5 (allP ls) z6 (hq5.below hz6') hv6 (by rw [hm5, HAL.out])
      refine ⟨_, rfl, keepAnd ?_ (fun hNew => ?_)⟩
      · exact hz6
      clear hHeld
      have hHeld := hNew
      clear hNew
      simp only [Act.put, List.setIfInBounds_toArray, List.set_cons_zero, List.set_cons_succ]
      refine heldCall 26 (some 100) (f := ?_) (args := ?_) rfl rfl (by kernel_rfl) (by rfl) ?_ ?_
      rotate_left 2
      · go_simp <;> first | (constructor <;> with_reducible rfl) | with_reducible rfl
      (with_reducible refine KM.mono ?_)
      rintro _ z7 ⟨rfl, hz7'⟩
      have hz7 : Below W.heap.size W z7 := hz6.trans (hz7'.mono hz6.size)
      refine ⟨_, rfl, keepAnd ?_ (fun hNew => ?_)⟩
      · exact hz7
      clear hHeld
      have hHeld := hNew
      clear hNew
      simp only [Act.put, List.setIfInBounds_toArray, List.set_cons_zero, List.set_cons_succ]
      refine heldTake 27 (some 101) (v := ?_) rfl rfl (by kernel_rfl) (by kernel_rfl) (by kernel_rfl) (by rfl) hHeld (fun _ _ _ h => h) ?_ ?_
      rotate_left
      · intro w' hSw; (try dsimp only at hSw); go_simp <;> with_reducible rfl
      simp only [Act.put, List.setIfInBounds_toArray, List.set_cons_zero, List.set_cons_succ]
      refine heldTake 28 (some 102) (v := ?_) rfl rfl (by kernel_rfl) (by kernel_rfl) (by kernel_rfl) (by rfl) hHeld (fun _ _ _ h => h) ?_ ?_
      rotate_left
      · intro w' hSw; (try dsimp only at hSw); go_simp <;> with_reducible rfl
      simp only [Act.put, List.setIfInBounds_toArray, List.set_cons_zero, List.set_cons_succ]
      refine heldTake 29 (some 103) (v := ?_) rfl rfl (by kernel_rfl) (by kernel_rfl) (by kernel_rfl) (by rfl) hHeld (fun _ _ _ h => h) ?_ ?_
      rotate_left
      · intro w' hSw; (try dsimp only at hSw); have q0 : w'.cell? ⟨R1, 0, none⟩ = some (.int .i64 r1) := (World.cell?_of_block (hSw.block _ HR1L.out)).trans (cell_of_row W R1 0 _ _ _ HR1T.out); have q1 : w'.cell? ⟨R1, 1, none⟩ = some (.int .i64 r2) := (World.cell?_of_block (hSw.block _ HR1L.out)).trans (cell_of_row W R1 1 _ _ _ HR1T.out); have q2 : w'.cell? ⟨R1, 2, none⟩ = some (.int .i64 r3) := (World.cell?_of_block (hSw.block _ HR1L.out)).trans (cell_of_row W R1 2 _ _ _ HR1T.out); have q3 : w'.cell? ⟨R1, 3, none⟩ = some (.int .i64 r4) := (World.cell?_of_block (hSw.block _ HR1L.out)).trans (cell_of_row W R1 3 _ _ _ HR1T.out); go_simp <;> with_reducible rfl
      simp only [Act.put, List.setIfInBounds_toArray, List.set_cons_zero, List.set_cons_succ]
      refine heldTake 30 (some 104) (v := ?_) rfl rfl (by kernel_rfl) (by kernel_rfl) (by kernel_rfl) (by rfl) hHeld (fun _ _ _ h => h) ?_ ?_
      rotate_left
      · intro w' hSw; (try dsimp only at hSw); have q0 : w'.cell? ⟨R2, 0, none⟩ = some (.int .i64 r1) := (World.cell?_of_block (hSw.block _ HR2L.out)).trans (cell_of_row W R2 0 _ _ _ HR2T.out); have q1 : w'.cell? ⟨R2, 1, none⟩ = some (.int .i64 r2) := (World.cell?_of_block (hSw.block _ HR2L.out)).trans (cell_of_row W R2 1 _ _ _ HR2T.out); have q2 : w'.cell? ⟨R2, 2, none⟩ = some (.int .i64 r3) := (World.cell?_of_block (hSw.block _ HR2L.out)).trans (cell_of_row W R2 2 _ _ _ HR2T.out); have q3 : w'.cell? ⟨R2, 3, none⟩ = some (.int .i64 r4) := (World.cell?_of_block (hSw.block _ HR2L.out)).trans (cell_of_row W R2 3 _ _ _ HR2T.out); go_simp <;> with_reducible rfl
      simp only [Act.put, List.setIfInBounds_toArray, List.set_cons_zero, List.set_cons_succ]
      refine heldTake 31 (some 105) (v := ?_) rfl rfl (by kernel_rfl) (by kernel_rfl) (by kernel_rfl) (by rfl) hHeld (fun _ _ _ h => h) ?_ ?_
      rotate_left
      · intro w' hSw; (try dsimp only at hSw); go_simp <;> with_reducible rfl
      simp only [Act.put, List.setIfInBounds_toArray, List.set_cons_zero, List.set_cons_succ]
      refine heldTake 32 (some 106) (v := ?_) rfl rfl (by kernel_rfl) (by kernel_rfl) (by kernel_rfl) (by rfl) hHeld (fun _ _ _ h => h) ?_ ?_
      rotate_left
      · intro w' hSw; (try dsimp only at hSw); go_simp <;> with_reducible rfl
      simp only [Act.put, List.setIfInBounds_toArray, List.set_cons_zero, List.set_cons_succ]
      refine heldTake 33 (some 107) (v := ?_) rfl rfl (by kernel_rfl) (by kernel_rfl) (by kernel_rfl) (by rfl) hHeld (fun _ _ _ h => h) ?_ ?_
      rotate_left
      · intro w' hSw; (try dsimp only at hSw); go_simp <;> with_reducible rfl
      simp only [Act.put, List.setIfInBounds_toArray, List.set_cons_zero, List.set_cons_succ]
      refine heldTake 34 (some 108) (v := ?_) rfl rfl (by kernel_rfl) (by kernel_rfl) (by kernel_rfl) (by rfl) hHeld (fun _ _ _ h => h) ?_ ?_
      rotate_left
      · intro w' hSw; (try dsimp only at hSw); go_simp <;> with_reducible rfl
      simp only [Act.put, List.setIfInBounds_toArray, List.set_cons_zero, List.set_cons_succ]
      refine heldTake 35 (some 109) (v := ?_) rfl rfl (by kernel_rfl) (by kernel_rfl) (by kernel_rfl) (by rfl) hHeld (fun _ _ _ h => h) ?_ ?_
      rotate_left
      · intro w' hSw; (try dsimp only at hSw); go_simp <;> with_reducible rfl
      simp only [Act.put, List.setIfInBounds_toArray, List.set_cons_zero, List.set_cons_succ]
      refine heldTake 36 (some 110) (v := ?_) rfl rfl (by kernel_rfl) (by kernel_rfl) (by kernel_rfl) (by rfl) hHeld (fun _ _ _ h => h) ?_ ?_
      rotate_left
      · intro w' hSw; (try dsimp only at hSw); go_simp <;> with_reducible rfl
      simp only [Act.put, List.setIfInBounds_toArray, List.set_cons_zero, List.set_cons_succ]
      refine heldTake 37 (some 111) (v := ?_) rfl rfl (by kernel_rfl) (by kernel_rfl) (by kernel_rfl) (by rfl) hHeld (fun _ _ _ h => h) ?_ ?_
      rotate_left
      · intro w' hSw; (try dsimp only at hSw); go_simp <;> with_reducible rfl
      simp only [Act.put, List.setIfInBounds_toArray, List.set_cons_zero, List.set_cons_succ]
      refine heldTake 38 (some 112) (v := ?_) rfl rfl (by kernel_rfl) (by kernel_rfl) (by kernel_rfl) (by rfl) hHeld (fun _ _ _ h => h) ?_ ?_
      rotate_left
      · intro w' hSw; (try dsimp only at hSw); go_simp <;> with_reducible rfl
      simp only [Act.put, List.setIfInBounds_toArray, List.set_cons_zero, List.set_cons_succ]
      refine heldCall 39 (some 113) (f := ?_) (args := ?_) rfl rfl (by kernel_rfl) (by rfl) ?_ ?_
      rotate_left 2
      · go_simp <;> first | (constructor <;> with_reducible rfl) | with_reducible rfl
      (with_reducible refine (works_any z7).mono ?_)
      rintro _ z8 ⟨rfl, hz8'⟩
      have hz8 : Below W.heap.size W z8 := hz7.trans (hz8'.mono hz7.size)
      refine ⟨_, rfl, keepAnd ?_ (fun hNew => ?_)⟩
      · exact hz8
      clear hHeld
      have hHeld := hNew
      clear hNew
      simp only [Act.put, List.setIfInBounds_toArray, List.set_cons_zero, List.set_cons_succ]
      refine heldTake 40 (some 114) (v := ?_) rfl rfl (by kernel_rfl) (by kernel_rfl) (by kernel_rfl) (by rfl) hHeld (fun _ _ _ h => h) ?_ ?_
      rotate_left
      · intro w' hSw; (try dsimp only at hSw); go_simp <;> with_reducible rfl
      simp only [Act.put, List.setIfInBounds_toArray, List.set_cons_zero, List.set_cons_succ]
      refine heldTake 41 (some 2) (v := ?_) rfl rfl (by kernel_rfl) (by kernel_rfl) (by kernel_rfl) (by rfl) hHeld (fun _ _ _ h => h) ?_ ?_
      rotate_left
      · intro w' hSw; (try dsimp only at hSw); go_simp <;> with_reducible rfl
      simp only [Act.put, List.setIfInBounds_toArray, List.set_cons_zero, List.set_cons_succ]
      refine wpAnyH_done (by kernel_rfl) ?_ _
      refine NoPanic.normal ?_
      clear hHeld
      go_wp2_with fail
      go_ret
      exact ⟨rfl, HBW.out.trans (hz8.mono HBW.out.size)⟩
end Go.Proofs.YtacjiocffbgkkaaGreat
