/-
  The walks of DiskSync and DiskActs.
-/
import Derived.Test.YtooojgokkigncaaRefJ
namespace Go.Proofs.Ytooojgokkigncaa
open Go.RowKit Go.Lib Go.IntWalk

set_option maxRecDepth 100000 in
set_option maxHeartbeats 8000000 in
theorem lawSync_any (vf vo : Value) (fl : FL) (los : List LOp) (keep : Int) (w : World) (hf : FlsRd w.heap.size w vf fl) (ho : InOps w.heap.size w vo los) (hl : flsum fl + fl.length + losum los + los.length ≤ 1048576) (hnl : ∀ p ∈ fl, p.1.length ≤ maxLen) (hno : ∀ o ∈ los, o.name.length ≤ maxLen ∧ o.to.length ≤ maxLen) :
    Calls Try.prog 8 #[vf, vo, .int .i64 keep] w fun e w' => e = .returned (.bool true) ∧ Below w.heap.size w w' := by
  have hB0 : w.heap.size ≤ w.heap.size := Nat.le_refl _
  generalize hBe : w.heap.size = B at hB0 hf ho
  have HBE := Lib.hid hBe
  have hB0 : B ≤ w.heap.size := by omega
  clear hBe
  have hl1 : flsum fl ≤ 1099511627776 := by omega
  have hl2 : fl.length ≤ 1099511627776 := by omega
  have HNO := Lib.hid hno
  have C1 := Lib.hid (dload_any B vf fl w hB0 hf hl1 hl2 hnl)
  have HC2 := Lib.hid (fun (w1 : World) (h : Below w.heap.size w w1) => rload_any B vf fl w1 (by have := h.size; omega) (hf.below hB0 h) hl1 hl2 hnl)
  have HCL := Lib.hid (fun (w1 : World) (h : Below w.heap.size w w1) => dlarge_any B vf vo fl los w1 (by have := h.size; omega) (hf.below hB0 h) (ho.below (h.mono hB0)) (by omega))
  clear hnl hno
  generalize hres : loadF fl (fun _ => none) = res at *
  clear hres
  obtain ⟨Ao, co, rfl, b1, b2, b3⟩ := ho.open_
  have HB3 := Lib.hid b3
  unfold maxLen at b2
  clear b3
  go_enter Try.func8, Try.ntmps8
  go_wp2_with fail
  (with_reducible refine C1.out.mono ?_)
  rintro e w1 ⟨hb1, hR1⟩
  clear C1
  have hs1 := hb1.size
  cases res with
  | none =>
    obtain rfl : e = .returned (.pointer none) := hR1
    go_wp2_with fail
    (with_reducible refine (HC2.out w1 hb1).mono ?_)
    rintro e w2 ⟨hb2, hR2⟩
    clear HC2
    have hs2 := hb2.size
    obtain rfl : e = .returned (.tuple #[.agg #[.slice none 0 0, .slice none 0 0], .bool false]) := hR2
    have hb3 : Below w.heap.size w (w2.alloc (.cells #[.slice none 0 0, .slice none 0 0] 49)) := (hb1.trans (hb2.mono hs1)).trans ((Below.of_alloc _).mono (by omega))
    go_wp2_with fail
    (with_reducible refine (dworks_any _).mono ?_)
    rintro e w3 ⟨rfl, hb4⟩
    go_wp2_with fail
    go_ret
    exact ⟨rfl, HBE.out ▸ hb3.trans (hb4.mono hb3.size)⟩
  | some fm =>
  obtain ⟨D, rfl, hDl, hD1⟩ : ∃ D, e = .returned (.pointer (some ⟨D, 0, none⟩)) ∧ w.heap.size ≤ D ∧ DiskAt B (flsum fl + fl.length) w1 D none fm [] := hR1
  have hB1 : B ≤ w1.heap.size := by omega
  go_wp2_with fail
  (with_reducible refine (HC2.out w1 hb1).mono ?_)
  rintro e w2 ⟨hb2, hR2⟩
  clear HC2
  have hs2 := hb2.size
  obtain ⟨lv, fl2, rfl, hF2, hI2, hz2⟩ : ∃ lv fl', e = .returned (.tuple #[.agg #[lv, .slice none 0 0], .bool true]) ∧ FlsRd B w2 lv fl' ∧ IsL fm fl' ∧ RSz (flsum fl + fl.length) fl' [] := hR2
  have hD2 := hD1.below hB1 hb2
  have hBo2 : Both B (flsum fl + fl.length) w2 D none lv (.slice none 0 0) := ⟨fm, [], fl2, hD2, hF2, DosRd.nil _ _, hI2, trivial, hz2⟩
  clear hD1 hD2 hz2 hI2
  obtain ⟨Al, cl, rfl, l1, l2, l3⟩ := hF2.open_
  have HL3 := Lib.hid l3
  clear l3
  generalize hn2 : fl2.length = n2 at *
  clear hn2 hF2
  obtain ⟨W, hW⟩ : ∃ W, W = w2.alloc (.cells #[.slice Al n2 cl, .slice none 0 0] 49) := ⟨_, rfl⟩
  have hb3 : Below w2.heap.size w2 W := by rw [hW]; exact Below.of_alloc _
  have hrX : W.heap[w2.heap.size]? = some (.cells #[.slice Al n2 cl, .slice none 0 0] 49 (0, 0)) := by rw [hW]; exact heap_alloc_new w2 _
  have hBo3 := hBo2.below (by omega) hb3
  have hs3 := hb3.size
  have hW3 : Below w.heap.size w W := (hb1.trans (hb2.mono hs1)).trans (hb3.mono (by omega))
  have HW := Lib.hid hW
  clear hW hBo2 hb3 hb1 hb2
  go_wp2_with fail
  rw [← HW.out]
  (with_reducible refine (HCL.out W hW3).mono ?_)
  rintro e w4 ⟨bg, rfl, hbg, hb4⟩
  clear HCL
  have hs4 := hb4.size
  have hW4 : Below B w w4 := (hW3.mono hB0).trans (hb4.mono (by omega))
  have hB4 : B ≤ w4.heap.size := by omega
  have hX4 := (hb4.block w2.heap.size (Array.getElem?_eq_some_iff.1 hrX).1).trans hrX
  have hBo4 := hBo3.below (by omega) hb4
  have hBX : B ≤ w2.heap.size := by omega
  generalize w2.heap.size = XB at *
  clear hrX hBo3 hb4 hW3
  have HBG := Lib.hid hbg
  clear hbg
  cases bg with
  | true =>
    go_wp2_with fail
    (with_reducible refine (dworks_any w4).mono ?_)
    rintro e w5 ⟨rfl, hb5⟩
    go_wp2_with fail
    go_ret
    exact ⟨rfl, hW4.trans (hb5.mono hB4)⟩
  | false =>
  have hlo : flsum fl + fl.length + losum los + los.length ≤ 1048576 := by omega
  generalize hZ0 : flsum fl + fl.length = Z0 at *
  clear hZ0 hl
  go_wp2_with fail
  go_loopw [40] (fun i wr => ∃ (j : Nat) (P : Option Nat) (lv ov : Value), j ≤ los.length ∧ i = .int .i64 (j : Int) ∧ wr.heap[XB]? = some (.cells #[lv, ov] 49 (0, 0)) ∧ Both B (Z0 + losum (los.take j) + j) wr D P lv ov ∧ Below B w wr ∧ B ≤ wr.heap.size) (fun i _ => los.length - (intOf i).toNat)
  case atStart => exact ⟨0, none, _, _, Nat.zero_le _, rfl, hX4, hBo4, hW4, hB4⟩
  case round =>
    obtain ⟨j, P, lv, ov, hj, rfl, hXr, hBo, hWr, hBr⟩ := hrel
    clear hX4 hBo4
    obtain ⟨A7, n7, c7, A8, n8, c8, rfl, rfl⟩ := hBo.open_
    have hXl : XB < wr.heap.size := (Array.getElem?_eq_some_iff.1 hXr).1
    by_cases hlt : j < los.length
    · obtain ⟨ba, oa, ua, rfl, g0, g1, g2, g3, g4, g5, da, _⟩ := InOps.elem (ho.below hWr) (List.getElem?_eq_getElem hlt)
      have hqm := HNO.out _ (List.getElem_mem hlt)
      have HFT := Lib.hid (losum_take (List.getElem?_eq_getElem hlt))
      have hle := losum_take_le los (j + 1)
      rw [HFT.out] at hle
      obtain ⟨Xa, xa, rfl, _, _, _⟩ := Rd.open_ da
      generalize los[j] = q at *
      obtain ⟨kd, nm, to, dt, kp, tn⟩ := q
      simp only at *
      have hdt : dt.length ≤ 1048576 := by omega
      have hZb : Z0 + losum (los.take j) + j + dt.length + 1 ≤ 1099511627776 := by omega
      have HZ2 : Hid (Z0 + losum (los.take (j + 1)) + (j + 1) = Z0 + losum (los.take j) + j + dt.length + 1) := Lib.hid (by rw [HFT.out]; omega)
      clear HFT hle
      generalize Z0 + losum (los.take j) + j = Z at *
      obtain ⟨Wa, hWa⟩ : ∃ W, W = wr.alloc (.cells #[.int .i64 kd, .string (strB nm), .string (strB to), .slice Xa dt.length xa, .int .i64 kp, .int .i64 tn] 38) := ⟨_, rfl⟩
      have hba : Below wr.heap.size wr Wa := by rw [hWa]; exact Below.of_alloc _
      have k0 : Wa.cell? ⟨wr.heap.size, 0, none⟩ = some (.int .i64 kd) := by rw [hWa]; exact box_cell wr _ _ 0 rfl
      have k1 : Wa.cell? ⟨wr.heap.size, 1, none⟩ = some (.string (strB nm)) := by rw [hWa]; exact box_cell wr _ _ 1 rfl
      have k2 : Wa.cell? ⟨wr.heap.size, 2, none⟩ = some (.string (strB to)) := by rw [hWa]; exact box_cell wr _ _ 2 rfl
      have k3 : Wa.cell? ⟨wr.heap.size, 3, none⟩ = some (.slice Xa dt.length xa) := by rw [hWa]; exact box_cell wr _ _ 3 rfl
      have k4 : Wa.cell? ⟨wr.heap.size, 4, none⟩ = some (.int .i64 kp) := by rw [hWa]; exact box_cell wr _ _ 4 rfl
      have k5 : Wa.cell? ⟨wr.heap.size, 5, none⟩ = some (.int .i64 tn) := by rw [hWa]; exact box_cell wr _ _ 5 rfl
      have hsa := hba.size
      have hXa := (hba.block XB hXl).trans hXr
      have x0 : Wa.cell? ⟨XB, 0, none⟩ = some (.slice A7 n7 c7) := cell_of_row _ _ 0 _ _ _ hXa
      have x1 : Wa.cell? ⟨XB, 1, none⟩ = some (.slice A8 n8 c8) := cell_of_row _ _ 1 _ _ _ hXa
      have hBoa := hBo.below hBr hba
      have hBa : B ≤ Wa.heap.size := by omega
      have hWa' := hWr.trans (hba.mono hBr)
      have hda := da.below hBr hba
      have CD := Lib.hid (do_any B Z D P (.slice A7 n7 c7) (.slice A8 n8 c8) ⟨kd, nm, to, dt, kp, tn⟩ (.slice Xa dt.length xa) Wa hBa hBoa hda (by omega) (by simp only; omega) hqm.1 hqm.2)
      rw [hWa] at k0 k1 k2 k3 k4 k5 x0 x1
      have HWa := Lib.hid hWa
      clear hWa hBo hba da
      go_wp2_with fail
      rw [← HWa.out]
      clear g0 g1 g2 g3 g4 g5 k0 k1 k2 k3 k4 k5
      (with_reducible refine CD.out.mono ?_)
      rintro e w5 ⟨lv5, ov5, P5, rfl, hBo5, hC5⟩
      clear CD
      have hs5 := hC5.size
      have hX5 := (hC5.block XB (by omega) (hBoa.not_log hXa (by decide) (by decide))).trans hXa
      have hW5 : Below B w w5 := hWa'.trans (hC5.below hBa (fun i hi => hBoa.ge hi))
      have hB5 : B ≤ w5.heap.size := by omega
      have hBo5 : Both B (Z + dt.length + 1) w5 D P5 lv5 ov5 := hBo5
      obtain ⟨A5, n5, c5, A6, n6, c6, rfl, rfl⟩ := hBo5.open_
      clear hBoa hC5 hXa x0 x1 hXr
      obtain ⟨q0, q1, q2, q3, q6, q4, q5, hC6⟩ := two_store w5 XB (.slice A7 n7 c7) (.slice A8 n8 c8) (.slice A5 n5 c5) (.slice A6 n6 c6) _ hX5
      have hBo6 := hBo5.box hB5 hBX hX5 hC6
      have hW6 := hW5.trans (hC6.below (B := B) hB5 (fun i hi => by omega))
      have hs6 := hC6.size
      have hX6 := q6
      have hB6 := Nat.le_trans hB5 hs6
      clear hBo5 hX5 q6
      go_wp2_with fail
      go_roundw
      case rel =>
        refine ⟨j + 1, P5, _, _, by omega, by go_num, hX6, ?_, hW6, hB6⟩
        rw [HZ2.out]
        exact hBo6
      case measure => simp [intOf]; omega
    have hje : j = los.length := by omega
    have hZb : Z0 + losum (los.take j) + j ≤ 1099511627776 := by have := losum_take_le los j; omega
    generalize Z0 + losum (los.take j) + j = Z at *
    obtain ⟨fm7, os7, fl7, hD, _, _, _, _, _⟩ := hBo
    go_wp2_with fail
    (with_reducible refine (dviewl_any B _ D fm7 os7 wr hBr hD.rd hZb).mono ?_)
    rintro e w5 ⟨v5, fl5, rfl, hF5, hI5, hb5⟩
    have hD5 := hD.below hBr hb5
    have hW5 : Below B w w5 := hWr.trans (hb5.mono hBr)
    have hB5 : B ≤ w5.heap.size := by have := hb5.size; omega
    clear hD hb5
    go_wp2_with fail
    (with_reducible refine (dsync_any B _ D fm7 os7 w5 hB5 hD5.rd hZb).mono ?_)
    rintro e w6 ⟨u6, rfl, hD6, hC6⟩
    have hC6' : Chg (fun b => b = D ∨ some b = P) w5 w6 := hC6.mono (fun _ h => .inl h)
    have hF6 := hF5.rd.chg hB5 hC6' hD5.br hD5.fr34
    have hW6 : Below B w w6 := hW5.trans (hC6'.below hB5 (fun i hi => hD5.ge hi))
    have hB6 : B ≤ w6.heap.size := by have := hC6.size; omega
    clear hD5 hC6 hC6' hF5
    generalize viewF fm7 os7 = fv at *
    go_wp2_with fail
    (with_reducible refine (dfiles_any B _ D fv [] w6 hB6 hD6.rd hZb).mono ?_)
    rintro e w7 ⟨v7, fl7', rfl, hF7, hI7, hb7⟩
    obtain rfl : fl7' = fl5 := hI7.unique hI5
    have hD7 := hD6.below hB6 hb7
    have hG7 := hF6.below hB6 hb7
    have hW7 : Below B w w7 := hW6.trans (hb7.mono hB6)
    have hB7 : B ≤ w7.heap.size := by have := hb7.size; omega
    clear hD6 hF6 hb7 hI7
    go_wp2_with fail
    (with_reducible refine (rsame_any B _ _ fl7' fl7' w7 hB7 hF7.rd hG7).mono ?_)
    rintro e w8 ⟨he, hb8⟩
    rw [show decide (fl7' = fl7') = true from by simp] at he
    subst he
    have hD8 := hD7.below hB7 hb8
    have hG8 := hG7.below hB7 hb8
    have hW8 : Below B w w8 := hW7.trans (hb8.mono hB7)
    have hB8 : B ≤ w8.heap.size := by have := hb8.size; omega
    clear hD7 hG7 hb8 hF7
    go_wp2_with fail
    (with_reducible refine (dviewl_any B _ D fv [] w8 hB8 hD8.rd hZb).mono ?_)
    rintro e w9 ⟨v9, fl9, rfl, hF9, hI9, hb9⟩
    obtain rfl : fl9 = fl7' := IsL.unique (fm := fv) hI9 hI5
    have hD9 := hD8.below hB8 hb9
    have hG9 := hG8.below hB8 hb9
    have hW9 : Below B w w9 := hW8.trans (hb9.mono hB8)
    have hB9 : B ≤ w9.heap.size := by have := hb9.size; omega
    clear hD8 hG8 hb9 hI9
    go_wp2_with fail
    (with_reducible refine (rsame_any B _ _ fl9 fl9 w9 hB9 hF9.rd hG9).mono ?_)
    rintro e w10 ⟨he, hb10⟩
    rw [show decide (fl9 = fl9) = true from by simp] at he
    subst he
    have hD10 := hD9.below hB9 hb10
    have hG10 := hG9.below hB9 hb10
    have hW10 : Below B w w10 := hW9.trans (hb10.mono hB9)
    have hB10 : B ≤ w10.heap.size := by have := hb10.size; omega
    clear hD9 hG9 hb10 hF9
    go_wp2_with fail
    (with_reducible refine (dpending_any B _ D none fv [] w10 hD10).mono ?_)
    rintro e w10' ⟨rfl, rfl⟩
    go_wp2_with fail
    (with_reducible refine (dcrash_any B _ D none fv [] keep 3 w10 hB10 hD10 hZb).mono ?_)
    rintro e w11 ⟨u11, rfl, hD11, hC11⟩
    rw [show crashOps [] keep 3 = [] from by simp [crashOps]] at hD11
    have hC11' : Chg (fun b => b = D ∨ some b = none) w10 w11 := hC11.mono (fun _ h => .inl h)
    have hG11 := hG10.chg hB10 hC11' hD10.br hD10.fr34
    have hW11 : Below B w w11 := hW10.trans (hC11'.below hB10 (fun i hi => hD10.ge hi))
    have hB11 : B ≤ w11.heap.size := by have := hC11.size; omega
    have hD11 : DiskAt B Z w11 D none fv [] := hD11
    clear hD10 hG10 hC11 hC11'
    go_wp2_with fail
    (with_reducible refine (dfiles_any B _ D fv [] w11 hB11 hD11.rd hZb).mono ?_)
    rintro e w12 ⟨v12, fl12, rfl, hF12, hI12, hb12⟩
    obtain rfl : fl12 = fl9 := hI12.unique hI5
    have hG12 := hG11.below hB11 hb12
    have hW12 : Below B w w12 := hW11.trans (hb12.mono hB11)
    have hB12 : B ≤ w12.heap.size := by have := hb12.size; omega
    clear hD11 hG11 hb12
    go_wp2_with fail
    (with_reducible refine (rsame_any B _ _ fl12 fl12 w12 hB12 hF12.rd hG12).mono ?_)
    rintro e w13 ⟨he, hb13⟩
    rw [show decide (fl12 = fl12) = true from by simp] at he
    subst he
    have hW13 : Below B w w13 := hW12.trans (hb13.mono hB12)
    have hB13 : B ≤ w13.heap.size := by have := hb13.size; omega
    go_wp2_with fail
    (with_reducible refine (dworks_any w13).mono ?_)
    rintro e w14 ⟨rfl, hb14⟩
    go_wp2_with fail
    go_ret
    exact ⟨rfl, hW13.trans (hb14.mono hB13)⟩

set_option maxRecDepth 100000 in
set_option maxHeartbeats 8000000 in
theorem lawActs_any (vf vo : Value) (fl : FL) (los : List LOp) (w : World) (hf : FlsRd w.heap.size w vf fl) (ho : InOps w.heap.size w vo los) (hl : flsum fl + fl.length + losum los + los.length ≤ 1048576) (hnl : ∀ p ∈ fl, p.1.length ≤ maxLen) (hno : ∀ o ∈ los, o.name.length ≤ maxLen ∧ o.to.length ≤ maxLen) :
    Calls Try.prog 5 #[vf, vo] w fun e w' => e = .returned (.bool true) ∧ Below w.heap.size w w' := by
  have hB0 : w.heap.size ≤ w.heap.size := Nat.le_refl _
  generalize hBe : w.heap.size = B at hB0 hf ho
  have HBE := Lib.hid hBe
  have hB0 : B ≤ w.heap.size := by omega
  clear hBe
  have hl1 : flsum fl ≤ 1099511627776 := by omega
  have hl2 : fl.length ≤ 1099511627776 := by omega
  have HNO := Lib.hid hno
  have C1 := Lib.hid (dload_any B vf fl w hB0 hf hl1 hl2 hnl)
  have HC2 := Lib.hid (fun (w1 : World) (h : Below w.heap.size w w1) => rload_any B vf fl w1 (by have := h.size; omega) (hf.below hB0 h) hl1 hl2 hnl)
  have HCL := Lib.hid (fun (w1 : World) (h : Below w.heap.size w w1) => dlarge_any B vf vo fl los w1 (by have := h.size; omega) (hf.below hB0 h) (ho.below (h.mono hB0)) (by omega))
  clear hnl hno
  generalize hres : loadF fl (fun _ => none) = res at *
  clear hres
  obtain ⟨Ao, co, rfl, b1, b2, b3⟩ := ho.open_
  have HB3 := Lib.hid b3
  unfold maxLen at b2
  clear b3
  go_enter Try.func5, Try.ntmps5
  go_wp2_with fail
  (with_reducible refine C1.out.mono ?_)
  rintro e w1 ⟨hb1, hR1⟩
  clear C1
  have hs1 := hb1.size
  cases res with
  | none =>
    obtain rfl : e = .returned (.pointer none) := hR1
    go_wp2_with fail
    (with_reducible refine (HC2.out w1 hb1).mono ?_)
    rintro e w2 ⟨hb2, hR2⟩
    clear HC2
    have hs2 := hb2.size
    obtain rfl : e = .returned (.tuple #[.agg #[.slice none 0 0, .slice none 0 0], .bool false]) := hR2
    have hb3 : Below w.heap.size w (w2.alloc (.cells #[.slice none 0 0, .slice none 0 0] 49)) := (hb1.trans (hb2.mono hs1)).trans ((Below.of_alloc _).mono (by omega))
    go_wp2_with fail
    (with_reducible refine (dworks_any _).mono ?_)
    rintro e w3 ⟨rfl, hb4⟩
    go_wp2_with fail
    go_ret
    exact ⟨rfl, HBE.out ▸ hb3.trans (hb4.mono hb3.size)⟩
  | some fm =>
  obtain ⟨D, rfl, hDl, hD1⟩ : ∃ D, e = .returned (.pointer (some ⟨D, 0, none⟩)) ∧ w.heap.size ≤ D ∧ DiskAt B (flsum fl + fl.length) w1 D none fm [] := hR1
  have hB1 : B ≤ w1.heap.size := by omega
  go_wp2_with fail
  (with_reducible refine (HC2.out w1 hb1).mono ?_)
  rintro e w2 ⟨hb2, hR2⟩
  clear HC2
  have hs2 := hb2.size
  obtain ⟨lv, fl2, rfl, hF2, hI2, hz2⟩ : ∃ lv fl', e = .returned (.tuple #[.agg #[lv, .slice none 0 0], .bool true]) ∧ FlsRd B w2 lv fl' ∧ IsL fm fl' ∧ RSz (flsum fl + fl.length) fl' [] := hR2
  have hD2 := hD1.below hB1 hb2
  have hBo2 : Both B (flsum fl + fl.length) w2 D none lv (.slice none 0 0) := ⟨fm, [], fl2, hD2, hF2, DosRd.nil _ _, hI2, trivial, hz2⟩
  clear hD1 hD2 hz2 hI2
  obtain ⟨Al, cl, rfl, l1, l2, l3⟩ := hF2.open_
  have HL3 := Lib.hid l3
  clear l3
  generalize hn2 : fl2.length = n2 at *
  clear hn2 hF2
  obtain ⟨W, hW⟩ : ∃ W, W = w2.alloc (.cells #[.slice Al n2 cl, .slice none 0 0] 49) := ⟨_, rfl⟩
  have hb3 : Below w2.heap.size w2 W := by rw [hW]; exact Below.of_alloc _
  have hrX : W.heap[w2.heap.size]? = some (.cells #[.slice Al n2 cl, .slice none 0 0] 49 (0, 0)) := by rw [hW]; exact heap_alloc_new w2 _
  have hBo3 := hBo2.below (by omega) hb3
  have hs3 := hb3.size
  have hW3 : Below w.heap.size w W := (hb1.trans (hb2.mono hs1)).trans (hb3.mono (by omega))
  have HW := Lib.hid hW
  clear hW hBo2 hb3 hb1 hb2
  go_wp2_with fail
  rw [← HW.out]
  (with_reducible refine (HCL.out W hW3).mono ?_)
  rintro e w4 ⟨bg, rfl, hbg, hb4⟩
  clear HCL
  have hs4 := hb4.size
  have hW4 : Below B w w4 := (hW3.mono hB0).trans (hb4.mono (by omega))
  have hB4 : B ≤ w4.heap.size := by omega
  have hX4 := (hb4.block w2.heap.size (Array.getElem?_eq_some_iff.1 hrX).1).trans hrX
  have hBo4 := hBo3.below (by omega) hb4
  have hBX : B ≤ w2.heap.size := by omega
  generalize w2.heap.size = XB at *
  clear hrX hBo3 hb4 hW3
  have HBG := Lib.hid hbg
  clear hbg
  cases bg with
  | true =>
    go_wp2_with fail
    (with_reducible refine (dworks_any w4).mono ?_)
    rintro e w5 ⟨rfl, hb5⟩
    go_wp2_with fail
    go_ret
    exact ⟨rfl, hW4.trans (hb5.mono hB4)⟩
  | false =>
  have hlo : flsum fl + fl.length + losum los + los.length ≤ 1048576 := by omega
  generalize hZ0 : flsum fl + fl.length = Z0 at *
  clear hZ0 hl
  go_wp2_with fail
  go_loopw [39] (fun i wr => ∃ (j : Nat) (P : Option Nat) (lv ov : Value), j ≤ los.length ∧ i = .int .i64 (j : Int) ∧ wr.heap[XB]? = some (.cells #[lv, ov] 49 (0, 0)) ∧ Both B (Z0 + losum (los.take j) + j) wr D P lv ov ∧ Below B w wr ∧ B ≤ wr.heap.size) (fun i _ => los.length - (intOf i).toNat)
  case atStart => exact ⟨0, none, _, _, Nat.zero_le _, rfl, hX4, hBo4, hW4, hB4⟩
  case round =>
    obtain ⟨j, P, lv, ov, hj, rfl, hXr, hBo, hWr, hBr⟩ := hrel
    clear hX4 hBo4
    obtain ⟨A7, n7, c7, A8, n8, c8, rfl, rfl⟩ := hBo.open_
    have hXl : XB < wr.heap.size := (Array.getElem?_eq_some_iff.1 hXr).1
    by_cases hlt : j < los.length
    · obtain ⟨ba, oa, ua, rfl, g0, g1, g2, g3, g4, g5, da, _⟩ := InOps.elem (ho.below hWr) (List.getElem?_eq_getElem hlt)
      have hqm := HNO.out _ (List.getElem_mem hlt)
      have HFT := Lib.hid (losum_take (List.getElem?_eq_getElem hlt))
      have hle := losum_take_le los (j + 1)
      rw [HFT.out] at hle
      obtain ⟨Xa, xa, rfl, _, _, _⟩ := Rd.open_ da
      generalize los[j] = q at *
      obtain ⟨kd, nm, to, dt, kp, tn⟩ := q
      simp only at *
      have hdt : dt.length ≤ 1048576 := by omega
      have hZb : Z0 + losum (los.take j) + j + dt.length + 1 ≤ 1099511627776 := by omega
      have HZ2 : Hid (Z0 + losum (los.take (j + 1)) + (j + 1) = Z0 + losum (los.take j) + j + dt.length + 1) := Lib.hid (by rw [HFT.out]; omega)
      clear HFT hle
      generalize Z0 + losum (los.take j) + j = Z at *
      obtain ⟨Wa, hWa⟩ : ∃ W, W = wr.alloc (.cells #[.int .i64 kd, .string (strB nm), .string (strB to), .slice Xa dt.length xa, .int .i64 kp, .int .i64 tn] 38) := ⟨_, rfl⟩
      have hba : Below wr.heap.size wr Wa := by rw [hWa]; exact Below.of_alloc _
      have k0 : Wa.cell? ⟨wr.heap.size, 0, none⟩ = some (.int .i64 kd) := by rw [hWa]; exact box_cell wr _ _ 0 rfl
      have k1 : Wa.cell? ⟨wr.heap.size, 1, none⟩ = some (.string (strB nm)) := by rw [hWa]; exact box_cell wr _ _ 1 rfl
      have k2 : Wa.cell? ⟨wr.heap.size, 2, none⟩ = some (.string (strB to)) := by rw [hWa]; exact box_cell wr _ _ 2 rfl
      have k3 : Wa.cell? ⟨wr.heap.size, 3, none⟩ = some (.slice Xa dt.length xa) := by rw [hWa]; exact box_cell wr _ _ 3 rfl
      have k4 : Wa.cell? ⟨wr.heap.size, 4, none⟩ = some (.int .i64 kp) := by rw [hWa]; exact box_cell wr _ _ 4 rfl
      have k5 : Wa.cell? ⟨wr.heap.size, 5, none⟩ = some (.int .i64 tn) := by rw [hWa]; exact box_cell wr _ _ 5 rfl
      have hsa := hba.size
      have hXa := (hba.block XB hXl).trans hXr
      have x0 : Wa.cell? ⟨XB, 0, none⟩ = some (.slice A7 n7 c7) := cell_of_row _ _ 0 _ _ _ hXa
      have x1 : Wa.cell? ⟨XB, 1, none⟩ = some (.slice A8 n8 c8) := cell_of_row _ _ 1 _ _ _ hXa
      have hBoa := hBo.below hBr hba
      have hBa : B ≤ Wa.heap.size := by omega
      have hWa' := hWr.trans (hba.mono hBr)
      have hda := da.below hBr hba
      have CD := Lib.hid (do_any B Z D P (.slice A7 n7 c7) (.slice A8 n8 c8) ⟨kd, nm, to, dt, kp, tn⟩ (.slice Xa dt.length xa) Wa hBa hBoa hda (by omega) (by simp only; omega) hqm.1 hqm.2)
      rw [hWa] at k0 k1 k2 k3 k4 k5 x0 x1
      have HWa := Lib.hid hWa
      clear hWa hBo hba da
      go_wp2_with fail
      rw [← HWa.out]
      clear g0 g1 g2 g3 g4 g5 k0 k1 k2 k3 k4 k5
      (with_reducible refine CD.out.mono ?_)
      rintro e w5 ⟨lv5, ov5, P5, rfl, hBo5, hC5⟩
      clear CD
      have hs5 := hC5.size
      have hX5 := (hC5.block XB (by omega) (hBoa.not_log hXa (by decide) (by decide))).trans hXa
      have hW5 : Below B w w5 := hWa'.trans (hC5.below hBa (fun i hi => hBoa.ge hi))
      have hB5 : B ≤ w5.heap.size := by omega
      have hBo5 : Both B (Z + dt.length + 1) w5 D P5 lv5 ov5 := hBo5
      obtain ⟨A5, n5, c5, A6, n6, c6, rfl, rfl⟩ := hBo5.open_
      clear hBoa hC5 hXa x0 x1 hXr
      obtain ⟨W6, hW6e⟩ : ∃ W, W = w5.alloc (.cells #[.slice A5 n5 c5, .slice A6 n6 c6] 49) := ⟨_, rfl⟩
      have hb6 : Below w5.heap.size w5 W6 := by rw [hW6e]; exact Below.of_alloc _
      have y0 : W6.cell? ⟨w5.heap.size, 0, none⟩ = some (.slice A5 n5 c5) := by rw [hW6e]; exact box_cell w5 _ _ 0 rfl
      have y1 : W6.cell? ⟨w5.heap.size, 1, none⟩ = some (.slice A6 n6 c6) := by rw [hW6e]; exact box_cell w5 _ _ 1 rfl
      have hs6 := hb6.size
      have hX6 := (hb6.block XB (by omega)).trans hX5
      have hBo6 := hBo5.below hB5 hb6
      have hB6 : B ≤ W6.heap.size := by omega
      have hW6 := hW5.trans (hb6.mono hB5)
      obtain ⟨q0, q1, q2, q3, q6, q4, q5, hC7⟩ := two_store W6 XB (.slice A7 n7 c7) (.slice A8 n8 c8) (.slice A5 n5 c5) (.slice A6 n6 c6) _ hX6
      have hBo7 := hBo6.box hB6 hBX hX6 hC7
      have hW7 := hW6.trans (hC7.below (B := B) hB6 (fun i hi => by omega))
      have hs7 := hC7.size
      have hB7 := Nat.le_trans hB6 hs7
      have HW6 := Lib.hid hW6e
      rw [hW6e] at q0 q1 q2 q3 y0 y1 q4 q5
      have CS := dsame34_any B (Z + dt.length + 1) D P5 (.slice A5 n5 c5) (.slice A6 n6 c6) _ hB7 hBo7 (by omega)
      rw [hW6e] at CS
      have HCS := Lib.hid CS
      clear hW6e hBo6 hBo5 hX5 hX6 CS
      go_wp2_with fail
      (with_reducible refine HCS.out.mono ?_)
      rintro e w8 ⟨rfl, hb8⟩
      clear HCS
      rw [← HW6.out] at hb8
      have hX8 := (hb8.block XB (by omega)).trans q6
      have hBo8 := hBo7.below hB7 hb8
      have hW8 := hW7.trans (hb8.mono hB7)
      have hB8 := Nat.le_trans hB7 hb8.size
      clear hBo7 hb8 q6
      go_wp2_with fail
      go_roundw
      case rel =>
        refine ⟨j + 1, P5, _, _, by omega, by go_num, hX8, ?_, hW8, hB8⟩
        rw [HZ2.out]
        exact hBo8
      case measure => simp [intOf]; omega
    go_wp2_with fail
    (with_reducible refine (dworks_any wr).mono ?_)
    rintro e w5 ⟨rfl, hb5⟩
    go_wp2_with fail
    go_ret
    exact ⟨rfl, hWr.trans (hb5.mono hBr)⟩
end Go.Proofs.Ytooojgokkigncaa
