/-
  The walk of WalAgain.
-/
import Derived.Test.YtooojgokkigncaaWalF
namespace Go.Proofs.Ytooojgokkigncaa
open Go.RowKit Go.Lib Go.IntWalk

set_option maxRecDepth 100000 in
set_option maxHeartbeats 8000000 in
theorem lawAgain_any (vf : Value) (fl : FL) (nm : List UInt8) (w : World) (hf : FlsRd w.heap.size w vf fl) (hl : flsum fl + fl.length ≤ 1048576) (hnl : ∀ p ∈ fl, p.1.length ≤ maxLen) :
    Calls Try.prog 9 #[vf, .string (strB nm)] w fun e w' => e = .returned (.bool true) ∧ Below w.heap.size w w' := by
  have hB0 : w.heap.size ≤ w.heap.size := Nat.le_refl _
  generalize hBe : w.heap.size = B at hB0 hf
  have HBE := Lib.hid hBe
  have hB0 : B ≤ w.heap.size := by omega
  clear hBe
  have hl1 : flsum fl ≤ 1099511627776 := by omega
  have hl2 : fl.length ≤ 1099511627776 := by omega
  have C1 := Lib.hid (dload_any B vf fl w hB0 hf hl1 hl2 hnl)
  have CL := fun (w1 : World) (h : Below w.heap.size w w1) => wlarge_any B vf (.slice none 0 0) fl [] w1 (by have := h.size; omega) (hf.below hB0 h) ⟨[], rfl, Rd.nil _ _ _, fun p hp => by cases hp⟩ (by simp [vosum]; omega)
  have HCL := Lib.hid CL
  clear CL hnl
  generalize hres : loadF fl (fun _ => none) = res at *
  clear hres
  go_enter Try.func9, Try.ntmps9
  go_wp2_with fail
  (with_reducible refine C1.out.mono ?_)
  rintro e w1 ⟨hb1, hR1⟩
  clear C1
  cases res with
  | none =>
    obtain rfl : e = .returned (.pointer none) := hR1
    go_wp2_with fail
    (with_reducible refine (wworks_any w1).mono ?_)
    rintro e w3 ⟨rfl, hb3⟩
    go_wp2_with fail
    go_ret
    exact ⟨rfl, HBE.out ▸ hb1.trans (hb3.mono (by have := hb1.size; omega))⟩
  | some fm =>
  obtain ⟨D, rfl, hDl, hD1⟩ : ∃ D, e = .returned (.pointer (some ⟨D, 0, none⟩)) ∧ w.heap.size ≤ D ∧ DiskAt B (flsum fl + fl.length) w1 D none fm [] := hR1
  have hB1 : B ≤ w1.heap.size := by have := hb1.size; omega
  go_wp2_with fail
  (with_reducible refine (HCL.out w1 hb1).mono ?_)
  rintro e w3 ⟨bg, rfl, hbg, hb3⟩
  clear HCL
  have HBG := Lib.hid hbg
  clear hbg
  have hW3 : Below B w w3 := (hb1.mono hB0).trans (hb3.mono hB1)
  have hB3 : B ≤ w3.heap.size := by have := hb3.size; omega
  have hD3 := hD1.below hB1 hb3
  clear hD1 hb3 hb1
  cases bg with
  | true =>
    go_wp2_with fail
    (with_reducible refine (wworks_any w3).mono ?_)
    rintro e w4 ⟨rfl, hb4⟩
    go_wp2_with fail
    go_ret
    exact ⟨rfl, hW3.trans (hb4.mono hB3)⟩
  | false =>
  have hZb : flsum fl + fl.length ≤ 1048576 := hl
  generalize flsum fl + fl.length = Z at *
  cases hw : wordF nm with
  | false =>
    go_wp2_with fail
    (with_reducible refine (wopen_bad B Z D none fm [] nm w3 hB3 hD3 hw).mono ?_)
    rintro e w4 ⟨rfl, hD4, hb4⟩
    have hW4 : Below B w w4 := hW3.trans (hb4.mono hB3)
    have hB4 : B ≤ w4.heap.size := by have := hb4.size; omega
    clear hD3 hb4
    go_wp2_with fail
    (with_reducible refine (dviewl_any B _ D fm [] w4 hB4 hD4.rd (by omega)).mono ?_)
    rintro e w5 ⟨v5, fl5, rfl, hF5, hI5, hb5⟩
    have hD5 := hD4.below hB4 hb5
    have hW5 : Below B w w5 := hW4.trans (hb5.mono hB4)
    have hB5 : B ≤ w5.heap.size := by have := hb5.size; omega
    clear hD4 hb5
    go_wp2_with fail
    (with_reducible refine (wopen_bad B Z D none fm [] nm w5 hB5 hD5 hw).mono ?_)
    rintro e w6 ⟨rfl, hD6, hb6⟩
    have hW6 : Below B w w6 := hW5.trans (hb6.mono hB5)
    have hB6 : B ≤ w6.heap.size := by have := hb6.size; omega
    have hF6 := hF5.rd.below hB5 hb6
    clear hD5 hb6 hF5
    go_wp2_with fail
    (with_reducible refine (lists_any B _ _ [] [] w6 hB6 (OwnL.nil w6 B).dat (OwnL.nil w6 B).dat).mono ?_)
    rintro e w7 ⟨he, hb7⟩
    rw [show decide (([] : List (List UInt8)) = []) = true from by simp] at he
    subst he
    have hD7 := hD6.below hB6 hb7
    have hW7 : Below B w w7 := hW6.trans (hb7.mono hB6)
    have hB7 : B ≤ w7.heap.size := by have := hb7.size; omega
    have hF7 := hF6.below hB6 hb7
    clear hD6 hb7 hF6
    go_wp2_with fail
    (with_reducible refine (dviewl_any B _ D fm [] w7 hB7 hD7.rd (by omega)).mono ?_)
    rintro e w8 ⟨v8, fl8, rfl, hF8, hI8, hb8⟩
    obtain rfl : fl8 = fl5 := hI8.unique hI5
    have hD8 := hD7.below hB7 hb8
    have hW8 : Below B w w8 := hW7.trans (hb8.mono hB7)
    have hB8 : B ≤ w8.heap.size := by have := hb8.size; omega
    have hG8 := hF7.below hB7 hb8
    clear hD7 hb8 hF7
    go_wp2_with fail
    (with_reducible refine (rsame_any B _ _ fl8 fl8 w8 hB8 hG8 hF8.rd).mono ?_)
    rintro e w9 ⟨he, hb9⟩
    rw [show decide (fl8 = fl8) = true from by simp] at he
    subst he
    have hD9 := hD8.below hB8 hb9
    have hW9 : Below B w w9 := hW8.trans (hb9.mono hB8)
    have hB9 : B ≤ w9.heap.size := by have := hb9.size; omega
    clear hD8 hG8 hF8
    go_wp2_with fail
    (with_reducible refine (dpending_any B _ D none fm [] w9 hD9).mono ?_)
    rintro e w9' ⟨rfl, rfl⟩
    go_wp2_with fail
    (with_reducible refine (wworks_any w9).mono ?_)
    rintro e w10 ⟨rfl, hb10⟩
    go_wp2_with fail
    go_ret
    exact ⟨rfl, hW9.trans (hb10.mono hB9)⟩
  | true =>
    obtain ⟨HA1, HA2, HA3⟩ := open_again fm nm
    have CO := Lib.hid (wopen_ok B Z D none fm [] nm w3 hB3 hD3 hw (by omega))
    have HA := Lib.hid (And.intro HA2 HA3)
    clear HA2 HA3
    generalize (scanF ((viewF fm [] nm).getD [])).1 = recs at *
    generalize hoD : openD fm [] nm = od at *
    have HOD := Lib.hid hoD
    obtain ⟨fm1, os1⟩ := od
    obtain rfl : os1 = [] := HA1
    clear hoD
    go_wp2_with fail
    (with_reducible refine CO.out.mono ?_)
    rintro e w4 ⟨L4, v4, P4, rfl, hL4, hLog4, hR4, hD4, hP4, hC4⟩
    clear CO
    have hP4' : P4 = none := by rcases hP4 with h | h <;> exact h
    subst hP4'
    have hW4 : Below B w w4 := hW3.trans (hC4.below hB3 (fun i hi => hD3.ge hi))
    have hB4 : B ≤ w4.heap.size := by have := hC4.size; omega
    have hD4 : DiskAt B (2 * Z + 3) w4 D none fm1 [] := hD4
    clear hD3 hC4 hP4 hLog4
    go_wp2_with fail
    (with_reducible refine (dviewl_any B _ D fm1 [] w4 hB4 hD4.rd (by omega)).mono ?_)
    rintro e w5 ⟨v5, fl5, rfl, hF5, hI5, hb5⟩
    have hD5 := hD4.below hB4 hb5
    have hW5 : Below B w w5 := hW4.trans (hb5.mono hB4)
    have hB5 : B ≤ w5.heap.size := by have := hb5.size; omega
    have hR5 := hR4.below hB4 hb5
    have CO := wopen_ok B (2 * Z + 3) D none fm1 [] nm w5 hB5 hD5 hw (by omega)
    rw [show openD fm1 [] nm = (fm1, []) from HA.out.1, show (scanF ((viewF fm1 [] nm).getD [])).1 = recs from HA.out.2] at CO
    have HCO := Lib.hid CO
    clear hD4 hb5 CO hR4
    go_wp2_with fail
    (with_reducible refine HCO.out.mono ?_)
    rintro e w6 ⟨L6, v6, P6, rfl, hL6, hLog6, hR6, hD6, hP6, hC6⟩
    clear HCO
    have hP6' : P6 = none := by rcases hP6 with h | h <;> exact h
    subst hP6'
    have hW6 : Below B w w6 := hW5.trans (hC6.below hB5 (fun i hi => hD5.ge hi))
    have hB6 : B ≤ w6.heap.size := by have := hC6.size; omega
    have hD6 : DiskAt B (2 * (2 * Z + 3) + 3) w6 D none fm1 [] := hD6
    have hF6 := hF5.rd.chg hB5 hC6 hD5.br hD5.fr
    have hR6' := hR5.chg hB5 hC6 hD5.br hD5.lr
    clear hD5 hC6 hP6 hLog6 hR5 hF5
    go_wp2_with fail
    (with_reducible refine (lists_any B _ _ recs recs w6 hB6 hR6' hR6).mono ?_)
    rintro e w7 ⟨he, hb7⟩
    rw [show decide (recs = recs) = true from by simp] at he
    subst he
    have hD7 := hD6.below hB6 hb7
    have hW7 : Below B w w7 := hW6.trans (hb7.mono hB6)
    have hB7 : B ≤ w7.heap.size := by have := hb7.size; omega
    have hF7 := hF6.below hB6 hb7
    clear hD6 hb7 hF6 hR6 hR6'
    go_wp2_with fail
    (with_reducible refine (dviewl_any B _ D fm1 [] w7 hB7 hD7.rd (by omega)).mono ?_)
    rintro e w8 ⟨v8, fl8, rfl, hF8, hI8, hb8⟩
    obtain rfl : fl8 = fl5 := hI8.unique hI5
    have hD8 := hD7.below hB7 hb8
    have hW8 : Below B w w8 := hW7.trans (hb8.mono hB7)
    have hB8 : B ≤ w8.heap.size := by have := hb8.size; omega
    have hG8 := hF7.below hB7 hb8
    clear hD7 hb8 hF7
    go_wp2_with fail
    (with_reducible refine (rsame_any B _ _ fl8 fl8 w8 hB8 hG8 hF8.rd).mono ?_)
    rintro e w9 ⟨he, hb9⟩
    rw [show decide (fl8 = fl8) = true from by simp] at he
    subst he
    have hD9 := hD8.below hB8 hb9
    have hW9 : Below B w w9 := hW8.trans (hb9.mono hB8)
    have hB9 : B ≤ w9.heap.size := by have := hb9.size; omega
    clear hD8 hG8 hF8
    go_wp2_with fail
    (with_reducible refine (dpending_any B _ D none fm1 [] w9 hD9).mono ?_)
    rintro e w9' ⟨rfl, rfl⟩
    go_wp2_with fail
    (with_reducible refine (wworks_any w9).mono ?_)
    rintro e w10 ⟨rfl, hb10⟩
    go_wp2_with fail
    go_ret
    exact ⟨rfl, hW9.trans (hb10.mono hB9)⟩
end Go.Proofs.Ytooojgokkigncaa
