/-
  The walk of WalOpen.
-/
import Derived.Test.YtooojgokkigncaaRtD
import Derived.Test.YtooojgokkigncaaWalF
namespace Go.Proofs.Ytooojgokkigncaa
open Go.RowKit Go.Lib Go.IntWalk

/-- all operations append to one file -/
def AllApp (nm : List UInt8) (os : List DOp) : Prop := ∀ o ∈ os, o.kind = 0 ∧ o.name = nm
theorem view_app {nm : List UInt8} : ∀ {os : List DOp} {fm : FM}, AllApp nm os → ((viewF fm os nm).getD []).length = ((fm nm).getD []).length + dsum os
  | [], fm, _ => by simp [viewF, dsum]
  | o :: r, fm, h => by
    obtain ⟨h0, h1⟩ := h o (List.mem_cons_self ..)
    have ih := view_app (os := r) (fm := applyF fm o) (fun x hx => h x (List.mem_cons_of_mem _ hx))
    have e : viewF fm (o :: r) = viewF (applyF fm o) r := rfl
    have ha : applyF fm o nm = some ((fm nm).getD [] ++ o.data) := by simp [applyF, h0, h1, updG]
    rw [e, ih, ha]
    simp only [Option.getD_some, List.length_append, dsum, List.map_cons, List.sum_cons]
    omega
theorem AllApp.take {nm : List UInt8} {os : List DOp} (h : AllApp nm os) (k : Nat) : AllApp nm (os.take k) := fun o ho => h o (List.mem_of_mem_take ho)
theorem AllApp.crash {nm : List UInt8} {os : List DOp} (h : AllApp nm os) (keep torn : Int) : AllApp nm (crashOps os keep torn) ∧ dsum (crashOps os keep torn) ≤ dsum os := by
  have hd : dsum os = dsum (os.take keep.toNat) + dsum (os.drop keep.toNat) := by
    have e : dsum (os.take keep.toNat ++ os.drop keep.toNat) = dsum (os.take keep.toNat) + dsum (os.drop keep.toNat) := by simp only [dsum, List.map_append, List.sum_append]
    rwa [List.take_append_drop] at e
  cases ho : os[keep.toNat]? with
  | none => rw [crash_none rfl ho]; exact ⟨h.take _, by omega⟩
  | some o =>
    rw [crash_some rfl ho]
    have hm := h o (List.mem_of_getElem? ho)
    have hdd := dsum_drop ho
    have ht := dsum_torn o torn
    refine ⟨fun x hx => ?_, ?_⟩
    · rcases List.mem_append.1 hx with hx | hx
      · exact h.take _ x hx
      · unfold tornOp at hx
        split at hx
        · simp only [List.mem_singleton] at hx; subst hx; exact ⟨rfl, hm.2⟩
        · cases hx
    · have e : dsum (os.take keep.toNat ++ tornOp o torn) = dsum (os.take keep.toNat) + dsum (tornOp o torn) := by simp only [dsum, List.map_append, List.sum_append]
      rw [e]; omega
theorem crash_len {nm : List UInt8} {os : List DOp} {fm : FM} (h : AllApp nm os) (keep torn : Int) : ((viewF fm (crashOps os keep torn) nm).getD []).length ≤ ((viewF fm os nm).getD []).length := by
  rw [view_app h, view_app (h.crash keep torn).1]
  have := (h.crash keep torn).2
  omega
/-- what is read behind Open -/
theorem open_frs (fm : FM) (nm : List UInt8) : (viewF (openD fm [] nm).1 (openD fm [] nm).2 nm).getD [] = frs (scanF ((viewF fm [] nm).getD [])).1 ∧ (∀ r ∈ (scanF ((viewF fm [] nm).getD [])).1, r.length ≤ 1048576) ∧ fsum (scanF ((viewF fm [] nm).getD [])).1 ≤ ((viewF fm [] nm).getD []).length := by
  obtain ⟨i1, i2, i3⟩ := scanF_inv ((viewF fm [] nm).getD [])
  refine ⟨?_, i2, by omega⟩
  have hd : openD fm [] nm = if (scanF ((viewF fm [] nm).getD [])).2 < ((viewF fm [] nm).getD []).length then
    (viewF fm (repOps fm [] nm (((viewF fm [] nm).getD []).take (scanF ((viewF fm [] nm).getD [])).2)), []) else (fm, []) := rfl
  by_cases h : (scanF ((viewF fm [] nm).getD [])).2 < ((viewF fm [] nm).getD []).length
  · rw [if_pos h] at hd
    rw [hd]
    have hv : viewF (viewF fm (repOps fm [] nm (((viewF fm [] nm).getD []).take (scanF ((viewF fm [] nm).getD [])).2))) [] nm = some (((viewF fm [] nm).getD []).take (scanF ((viewF fm [] nm).getD [])).2) := rep_view fm nm _
    simp only
    rw [hv, Option.getD_some, scan_take]
  · rw [if_neg h] at hd
    rw [hd]
    simp only
    have := scan_take ((viewF fm [] nm).getD [])
    rw [List.take_of_length_le (by omega)] at this
    exact this

set_option maxRecDepth 100000 in
set_option maxHeartbeats 8000000 in
theorem lawOpen_any (vf : Value) (fl : FL) (nm : List UInt8) (w : World) (hf : FlsRd w.heap.size w vf fl) (hl : flsum fl + fl.length ≤ 1048576) (hnl : ∀ p ∈ fl, p.1.length ≤ maxLen) (hnm : nm.length ≤ maxLen) :
    Calls Try.prog 10 #[vf, .string (strB nm)] w fun e w' => e = .returned (.bool true) ∧ Below w.heap.size w w' := by
  have hB0 : w.heap.size ≤ w.heap.size := Nat.le_refl _
  generalize hBe : w.heap.size = B at hB0 hf
  have HBE := Lib.hid hBe
  have hB0 : B ≤ w.heap.size := by omega
  clear hBe
  have hl1 : flsum fl ≤ 1099511627776 := by omega
  have hl2 : fl.length ≤ 1099511627776 := by omega
  have C1 := Lib.hid (dload_any B vf fl w hB0 hf hl1 hl2 hnl)
  have HC2 := Lib.hid (fun (w1 : World) (h : Below w.heap.size w w1) => rload_any B vf fl w1 (by have := h.size; omega) (hf.below hB0 h) hl1 hl2 hnl)
  have HCL := Lib.hid (fun (w1 : World) (h : Below w.heap.size w w1) => wlarge_any B vf (.slice none 0 0) fl [] w1 (by have := h.size; omega) (hf.below hB0 h) ⟨[], rfl, Rd.nil _ _ _, fun p hp => by cases hp⟩ (by simp [vosum]; omega))
  clear hnl
  generalize hres : loadF fl (fun _ => none) = res at *
  clear hres
  go_enter Try.func10, Try.ntmps10
  go_wp2_with fail
  (with_reducible refine (nilw_sync w).mono ?_)
  rintro e W' ⟨⟨u, rfl⟩, rfl⟩
  go_wp2_with fail
  (with_reducible refine (nilw_open _ w).mono ?_)
  rintro e W' ⟨rfl, rfl⟩
  go_wp2_with fail
  (with_reducible refine (nilw_append _ w).mono ?_)
  rintro e W' ⟨rfl, rfl⟩
  go_wp2_with fail
  (with_reducible refine (nilw_len w).mono ?_)
  rintro e W' ⟨rfl, rfl⟩
  go_wp2_with fail
  (with_reducible refine (nilw_size w).mono ?_)
  rintro e W' ⟨rfl, rfl⟩
  go_wp2_with fail
  (with_reducible refine (nilw_name w).mono ?_)
  rintro e W' ⟨rfl, rfl⟩
  go_wp2_with fail
  (with_reducible refine C1.out.mono ?_)
  rintro e w1 ⟨hb1, hR1⟩
  clear C1
  have hs1 := hb1.size
  cases res with
  | none =>
    obtain rfl : e = .returned (.pointer none) := hR1
    go_wp2_with fail
    (with_reducible refine (HC2.out w1 hb1).mono ?_)
    rintro e w2 ⟨hb2, hR2⟩
    clear HC2
    have hs2 := hb2.size
    obtain rfl : e = .returned (.tuple #[.agg #[.slice none 0 0, .slice none 0 0], .bool false]) := hR2
    have hb3 : Below w.heap.size w (w2.alloc (.cells #[.slice none 0 0, .slice none 0 0] 49)) := (hb1.trans (hb2.mono hs1)).trans ((Below.of_alloc _).mono (by omega))
    go_wp2_with fail
    (with_reducible refine (wworks_any _).mono ?_)
    rintro e w3 ⟨rfl, hb4⟩
    go_wp2_with fail
    go_ret
    exact ⟨rfl, HBE.out ▸ hb3.trans (hb4.mono hb3.size)⟩
  | some fm =>
  obtain ⟨D, rfl, hDl, hD1⟩ : ∃ D, e = .returned (.pointer (some ⟨D, 0, none⟩)) ∧ w.heap.size ≤ D ∧ DiskAt B (flsum fl + fl.length) w1 D none fm [] := hR1
  have hB1 : B ≤ w1.heap.size := by omega
  go_wp2_with fail
  (with_reducible refine (HC2.out w1 hb1).mono ?_)
  rintro e w2 ⟨hb2, hR2⟩
  clear HC2
  have hs2 := hb2.size
  obtain ⟨lv, fl2, rfl, hF2, hI2, hz2⟩ : ∃ lv fl', e = .returned (.tuple #[.agg #[lv, .slice none 0 0], .bool true]) ∧ FlsRd B w2 lv fl' ∧ IsL fm fl' ∧ RSz (flsum fl + fl.length) fl' [] := hR2
  have hD2 := hD1.below hB1 hb2
  clear hD1
  obtain ⟨Al, cl, rfl, l1, l2, l3⟩ := hF2.open_
  have HL3 := Lib.hid l3
  clear l3
  obtain ⟨W, hW⟩ : ∃ W, W = w2.alloc (.cells #[.slice Al fl2.length cl, .slice none 0 0] 49) := ⟨_, rfl⟩
  have hb3 : Below w2.heap.size w2 W := by rw [hW]; exact Below.of_alloc _
  have hrX : W.heap[w2.heap.size]? = some (.cells #[.slice Al fl2.length cl, .slice none 0 0] 49 (0, 0)) := by rw [hW]; exact heap_alloc_new w2 _
  have hD3 := hD2.below (by omega) hb3
  have hF3 := hF2.below (by omega) hb3
  have hs3 := hb3.size
  have hW3 : Below w.heap.size w W := (hb1.trans (hb2.mono hs1)).trans (hb3.mono (by omega))
  have HW := Lib.hid hW
  clear hW hb3 hb1 hb2 hD2 hF2
  go_wp2_with fail
  rw [← HW.out]
  (with_reducible refine (HCL.out W hW3).mono ?_)
  rintro e w4 ⟨bg, rfl, hbg, hb4⟩
  clear HCL
  have hs4 := hb4.size
  have hW4 : Below B w w4 := (hW3.mono hB0).trans (hb4.mono (by omega))
  have hB4 : B ≤ w4.heap.size := by omega
  have hXl := (Array.getElem?_eq_some_iff.1 hrX).1
  have hX4 := (hb4.block w2.heap.size hXl).trans hrX
  have hD4 := hD3.below (by omega) hb4
  have hF4 := hF3.below (by omega) hb4
  have hBX : B ≤ w2.heap.size := by omega
  generalize w2.heap.size = XB at *
  clear hrX hb4 hW3 hD3 hF3
  have HBG := Lib.hid hbg
  clear hbg
  cases bg with
  | true =>
    go_wp2_with fail
    (with_reducible refine (wworks_any w4).mono ?_)
    rintro e wz ⟨rfl, hbz⟩
    go_wp2_with fail
    go_ret
    exact ⟨rfl, hW4.trans (hbz.mono hB4)⟩
  | false =>
  have hZb : flsum fl + fl.length ≤ 1048576 := hl
  generalize flsum fl + fl.length = Z at *
  have x0 : w4.cell? ⟨XB, 0, none⟩ = some (.slice Al fl2.length cl) := cell_of_row _ _ 0 _ _ _ hX4
  have x1 : w4.cell? ⟨XB, 1, none⟩ = some (.slice none 0 0) := cell_of_row _ _ 1 _ _ _ hX4
  have hfl2 : fl2.length ≤ Z := by have := hz2.len; simp only [List.length_nil] at this; omega
  cases hw : wordF nm with
  | false =>
    go_wp2_with fail
    (with_reducible refine (wopen_bad B Z D none fm [] nm w4 hB4 hD4 hw).mono ?_)
    rintro e w5 ⟨rfl, hD5, hb5⟩
    have hW5 : Below B w w5 := hW4.trans (hb5.mono hB4)
    have hs5 := hb5.size
    have hB5 : B ≤ w5.heap.size := by omega
    have hF5 := hF4.below hB4 hb5
    have y0 := (hb5.cell (p := ⟨XB, 0, none⟩) (show XB < w4.heap.size by omega)).trans x0
    have y1 := (hb5.cell (p := ⟨XB, 1, none⟩) (show XB < w4.heap.size by omega)).trans x1
    clear hD4 hb5 hF4 x0 x1
    have CO := Lib.hid (ropen_bad B _ _ fl2 [] nm w5 hB5 hF5 (DosRd.nil B w5) hnm hw)
    go_wp2_with fail
    (with_reducible refine CO.out.mono ?_)
    rintro e w6 ⟨l6, o6, rfl, hl6, ho6, hb6⟩
    clear CO
    have hs6 := hb6.size
    obtain ⟨A6, c6, rfl, u1, u2, u3⟩ := hl6.open_
    obtain ⟨B6, d6, rfl, t1, t2, t3⟩ := ho6.open_
    have HU3 := Lib.hid u3
    have HT3 := Lib.hid t3
    clear u3 t3
    rw [List.length_nil] at *
    obtain ⟨W7, hW7⟩ : ∃ W, W = (w6.alloc (.cells #[.slice A6 fl2.length c6, .slice B6 0 d6] 49)).alloc (.cells #[.string ⟨#[]⟩] 64) := ⟨_, rfl⟩
    have hb7 : Below w6.heap.size w6 W7 := by rw [hW7]; exact (Below.of_alloc _).trans ((Below.of_alloc _).mono (by simp))
    have hs7 : W7.heap.size = w6.heap.size + 2 := by rw [hW7]; simp
    have hrY : W7.heap[w6.heap.size]? = some (.cells #[.slice A6 fl2.length c6, .slice B6 0 d6] 49 (0, 0)) := by
      rw [hW7, Below.heap_alloc _ _ _ (by simp)]; exact heap_alloc_new w6 _
    have hBo7 : Both B Z W7 D none (.slice A6 fl2.length c6) (.slice B6 0 d6) := ⟨fm, [], fl2, (hD5.below hB5 hb6).below (by omega) hb7, hl6.below (by omega) hb7, ho6.below (by omega) hb7, hI2, trivial, hz2⟩
    have hBW7 : B ≤ W7.heap.size := by omega
    have hWW7 : Below B w W7 := hW5.trans ((hb6.mono hB5).trans (hb7.mono (by omega)))
    have HW7 := Lib.hid hW7
    have k0 : W7.cell? ⟨w6.heap.size, 0, none⟩ = some (.slice A6 fl2.length c6) := cell_of_row _ _ 0 _ _ _ hrY
    have k1 : W7.cell? ⟨w6.heap.size, 1, none⟩ = some (.slice B6 0 d6) := cell_of_row _ _ 1 _ _ _ hrY
    clear hW7 hb7 hb6 hl6 ho6 hD5
    go_wp2_with fail
    rw [← HW7.out]
    (with_reducible refine (lists_any B _ _ [] [] W7 hBW7 (OwnL.nil W7 B).dat (OwnL.nil W7 B).dat).mono ?_)
    rintro e w8 ⟨he, hb8⟩
    rw [show decide (([] : List (List UInt8)) = []) = true from by simp] at he
    subst he
    have hs8 := hb8.size
    have g0 := (hb8.cell (p := ⟨w6.heap.size, 0, none⟩) (show w6.heap.size < W7.heap.size by omega)).trans k0
    have g1 := (hb8.cell (p := ⟨w6.heap.size, 1, none⟩) (show w6.heap.size < W7.heap.size by omega)).trans k1
    have hBo8 := hBo7.below hBW7 hb8
    have hW8 : Below B w w8 := hWW7.trans (hb8.mono hBW7)
    have hB8 : B ≤ w8.heap.size := by omega
    clear hBo7 hb8 k0 k1
    go_wp2_with fail
    (with_reducible refine (dsame36_any B Z D none _ _ w8 hB8 hBo8 (by omega)).mono ?_)
    rintro e w9 ⟨rfl, hb9⟩
    have hW9 : Below B w w9 := hW8.trans (hb9.mono hB8)
    have hB9 : B ≤ w9.heap.size := by have := hb9.size; omega
    go_wp2_with fail
    (with_reducible refine (wworks_any w9).mono ?_)
    rintro e wz ⟨rfl, hbz⟩
    go_wp2_with fail
    go_ret
    exact ⟨rfl, hW9.trans (hbz.mono hB9)⟩
  | true =>
    have hgl : ((viewF fm [] nm).getD []).length ≤ Z := by have := hD4.sz.view.get nm; omega
    have CO := Lib.hid (wopen_fine B Z D none fm [] nm w4 hB4 hD4 hw (by omega))
    have HCR := Lib.hid (fun (w5 : World) (hB5 : B ≤ w5.heap.size) (hv5 : FlsRd B w5 (.slice Al fl2.length cl) fl2) => ropen_ok B Z _ _ fm fl2 [] nm w5 hB5 hv5 (DosRd.nil B w5) hI2 trivial hz2 (by omega) hw)
    have HA1 := (open_again fm nm).1
    generalize ((viewF fm [] nm).getD []).length = bn at *
    generalize (scanF ((viewF fm [] nm).getD [])).1 = recs at *
    generalize openD fm [] nm = od at *
    obtain ⟨fm1, os1⟩ := od
    obtain rfl : os1 = [] := HA1
    go_wp2_with fail
    (with_reducible refine CO.out.mono ?_)
    rintro e w5 ⟨L5, v5, P5, rfl, hL5, hLog5, hR5, hD5, hP5, hC5⟩
    clear CO
    have hP5' : P5 = none := by rcases hP5 with h | h <;> exact h
    subst hP5'
    have hD5 : DiskAt B (Z + bn + 3) w5 D none fm1 [] := hD5
    have hs5 := hC5.size
    have hB5 : B ≤ w5.heap.size := by omega
    have hW5 : Below B w w5 := hW4.trans (hC5.below hB4 (fun i hi => hD4.ge hi))
    have hF5 := hF4.chg hB4 hC5 hD4.br hD4.fr34
    have hX5 := (hC5.block XB (by omega) (hD4.not_log hX4 (by decide) (by decide))).trans hX4
    have y0 : w5.cell? ⟨XB, 0, none⟩ = some (.slice Al fl2.length cl) := cell_of_row _ _ 0 _ _ _ hX5
    have y1 : w5.cell? ⟨XB, 1, none⟩ = some (.slice none 0 0) := cell_of_row _ _ 1 _ _ _ hX5
    obtain ⟨A5, c5, rfl, r1, r2, r3⟩ := hR5.open_
    have HR3 := Lib.hid r3
    clear r3 hD4 hC5 hF4 hX4 x0 x1 hP5
    have CR := Lib.hid (HCR.out w5 hB5 hF5)
    clear HCR
    go_wp2_with fail
    (with_reducible refine CR.out.mono ?_)
    rintro e w6 ⟨l6, o6, v6, fl6, rfl, hl6, ho6, hI6, hK6, hz6, hR6, hb6⟩
    clear CR
    have hs6 := hb6.size
    obtain ⟨A6, c6, rfl, u1, u2, u3⟩ := hl6.open_
    obtain ⟨B6, d6, rfl, t1, t2, t3⟩ := ho6.open_
    obtain ⟨E6, e6, rfl, s1, s2, s3⟩ := hR6.open_
    have HU3 := Lib.hid u3
    have HT3 := Lib.hid t3
    have HS3 := Lib.hid s3
    clear u3 t3 s3
    simp only [List.length_nil] at *
    obtain ⟨W7, hW7⟩ : ∃ W, W = (w6.alloc (.cells #[.slice A6 fl6.length c6, .slice B6 0 d6] 49)).alloc (.cells #[.string (strB nm)] 64) := ⟨_, rfl⟩
    have hb7 : Below w6.heap.size w6 W7 := by rw [hW7]; exact (Below.of_alloc _).trans ((Below.of_alloc _).mono (by simp))
    have hs7 : W7.heap.size = w6.heap.size + 2 := by rw [hW7]; simp
    have hrY : W7.heap[w6.heap.size]? = some (.cells #[.slice A6 fl6.length c6, .slice B6 0 d6] 49 (0, 0)) := by
      rw [hW7, Below.heap_alloc _ _ _ (by simp)]; exact heap_alloc_new w6 _
    have hBo7 : Both B (Z + bn + 3) W7 D none (.slice A6 fl6.length c6) (.slice B6 0 d6) := ⟨fm1, [], fl6, (hD5.below hB5 hb6).below (by omega) hb7, hl6.below (by omega) hb7, ho6.below (by omega) hb7, hI6, hK6, hz6⟩
    have hBW7 : B ≤ W7.heap.size := by omega
    have hWW7 : Below B w W7 := hW5.trans ((hb6.mono hB5).trans (hb7.mono (by omega)))
    have HW7 := Lib.hid hW7
    have k0 : W7.cell? ⟨w6.heap.size, 0, none⟩ = some (.slice A6 fl6.length c6) := cell_of_row _ _ 0 _ _ _ hrY
    have k1 : W7.cell? ⟨w6.heap.size, 1, none⟩ = some (.slice B6 0 d6) := cell_of_row _ _ 1 _ _ _ hrY
    have hRa := (hR5.below hB5 hb6).below (by omega) hb7
    have hRb := hR6.below (by omega) hb7
    have hLog7 := (hLog5.below hb6).below hb7
    clear hW7 hb7 hb6 hl6 ho6 hD5 hR5 hR6 hLog5
    go_wp2_with fail
    rw [← HW7.out]
    (with_reducible refine (lists_any B _ _ recs recs W7 hBW7 hRa hRb).mono ?_)
    rintro e w8 ⟨he, hb8⟩
    rw [show decide (recs = recs) = true from by simp] at he
    subst he
    have hs8 := hb8.size
    have g0 := (hb8.cell (p := ⟨w6.heap.size, 0, none⟩) (show w6.heap.size < W7.heap.size by omega)).trans k0
    have g1 := (hb8.cell (p := ⟨w6.heap.size, 1, none⟩) (show w6.heap.size < W7.heap.size by omega)).trans k1
    have hBo8 := hBo7.below hBW7 hb8
    have hW8 : Below B w w8 := hWW7.trans (hb8.mono hBW7)
    have hB8 : B ≤ w8.heap.size := by omega
    have hLog8 := hLog7.below hb8
    clear hBo7 hb8 k0 k1 hLog7
    go_wp2_with fail
    (with_reducible refine (dsame36_any B (Z + bn + 3) D none _ _ w8 hB8 hBo8 (by omega)).mono ?_)
    rintro e w9 ⟨rfl, hb9⟩
    have hW9 : Below B w w9 := hW8.trans (hb9.mono hB8)
    have hB9 : B ≤ w9.heap.size := by have := hb9.size; omega
    have hLog9 := hLog8.below hb9
    clear hLog8
    generalize recs.length = rn at *
    go_wp2_with fail
    (with_reducible refine (wlen_any L5 D nm _ _ w9 hLog9).mono ?_)
    rintro e w9' ⟨rfl, rfl⟩
    go_wp2_with fail
    (with_reducible refine (wname_any L5 D nm _ _ w9 hLog9).mono ?_)
    rintro e w9' ⟨rfl, rfl⟩
    go_wp2_with fail
    (with_reducible refine (wworks_any w9).mono ?_)
    rintro e wz ⟨rfl, hbz⟩
    go_wp2_with fail
    go_ret
    exact ⟨rfl, hW9.trans (hbz.mono hB9)⟩
end Go.Proofs.Ytooojgokkigncaa
