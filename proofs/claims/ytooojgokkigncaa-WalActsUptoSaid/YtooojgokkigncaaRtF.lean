/-
  The walk of WalActs.
-/
import Derived.Test.YtooojgokkigncaaRtE
namespace Go.Proofs.Ytooojgokkigncaa
open Go.RowKit Go.Lib Go.IntWalk

theorem view_push (fm : FM) (os : List DOp) (nm x : List UInt8) : (viewF fm (os ++ [⟨0, nm, [], x⟩]) nm).getD [] = (viewF fm os nm).getD [] ++ x := by
  simp [viewF, List.foldl_append, applyF, updG]
section
variable {B Z D L : Nat} {w : World} {P : Option Nat} {fm : FM} {os : List DOp} {nm : List UInt8} {rec by_ : Int}
theorem three_not (hD : DiskAt B Z w D P fm os) (hL : LogIs w L rec by_ D nm) {b : Nat} {cs : Array Value} {t : TypeId} {fr : Nat × Nat} (hb : w.heap[b]? = some (.cells cs t fr)) (h1 : ¬ t = 80) (h2 : ¬ t = 92) (h3 : ¬ t = 87) : ¬ (b = D ∨ b = L ∨ some b = P) := by
  have h := hD.not_log hb h1 h2
  rintro (e | e | e)
  · exact h (.inl e)
  · subst e
    unfold LogIs at hL
    rw [hb] at hL
    simp only [Option.some.injEq, Obj.cells.injEq] at hL
    exact h3 hL.2.1
  · exact h (.inr e)
theorem three_br (hD : DiskAt B Z w D P fm os) (hL : LogIs w L rec by_ D nm) (hBL : B ≤ L) : ∀ b, BR B w b → ¬ (b = D ∨ b = L ∨ some b = P) := by
  intro b hb
  rintro (e | e | e)
  · exact hD.br b hb (.inl e)
  · subst e; exact NK.br hBL hL.nk hb
  · exact hD.br b hb (.inr e)
theorem three_fr (hD : DiskAt B Z w D P fm os) (hL : LogIs w L rec by_ D nm) (hBL : B ≤ L) : ∀ b, FR B w b → ¬ (b = D ∨ b = L ∨ some b = P) := by
  rintro b (hb | ⟨cs, hb⟩)
  · rintro (e | e | e)
    · have := hD.ge (b := b) (.inl e); omega
    · omega
    · have := hD.ge (b := b) (.inr e); omega
  · exact three_not hD hL hb (by decide) (by decide) (by decide)
theorem three_dor (hD : DiskAt B Z w D P fm os) (hL : LogIs w L rec by_ D nm) (hBL : B ≤ L) : ∀ b, DoR B w b → ¬ (b = D ∨ b = L ∨ some b = P) := by
  rintro b (hb | ⟨cs, hb⟩)
  · rintro (e | e | e)
    · have := hD.ge (b := b) (.inl e); omega
    · omega
    · have := hD.ge (b := b) (.inr e); omega
  · exact three_not hD hL hb (by decide) (by decide) (by decide)
end
/-- the log and the reference beside each other -/
def ActsAt (B Z C D : Nat) (nm : List UInt8) (XB LB L : Nat) (w : World) : Prop :=
  ∃ fm os fl recs P lv ov, w.heap[XB]? = some (.cells #[lv, ov] 49 (0, 0)) ∧ w.heap[LB]? = some (.cells #[.string (strB nm)] 64 (0, 0)) ∧ DiskAt B Z w D P fm os ∧ FlsRd B w lv fl ∧ DosRd B w ov os ∧ IsL fm fl ∧ OkOps fm os ∧ RSz Z fl os ∧
    LogIs w L (recs.length : Int) (fsum recs : Int) D nm ∧ B ≤ L ∧ AllApp nm os ∧ (viewF fm os nm).getD [] = frs recs ∧ (∀ r ∈ recs, r.length ≤ 1048576) ∧ fsum recs ≤ C
theorem ActsAt.below {B Z C D : Nat} {nm : List UInt8} {XB LB L : Nat} {w w' : World} (h : ActsAt B Z C D nm XB LB L w) (hB : B ≤ w.heap.size) (hb : Below w.heap.size w w') : ActsAt B Z C D nm XB LB L w' := by
  obtain ⟨fm, os, fl, recs, P, lv, ov, h1, h2, h3, h4, h5, h6, h7, h8, h9, hr⟩ := h
  exact ⟨fm, os, fl, recs, P, lv, ov, (hb.block _ (Array.getElem?_eq_some_iff.1 h1).1).trans h1, (hb.block _ (Array.getElem?_eq_some_iff.1 h2).1).trans h2, h3.below hB hb, h4.below hB hb, h5.below hB hb, h6, h7, h8, h9.below hb, hr⟩
theorem ActsAt.mono {B Z Z' C C' D : Nat} {nm : List UInt8} {XB LB L : Nat} {w : World} (h : ActsAt B Z C D nm XB LB L w) (hZ : Z ≤ Z') (hC : C ≤ C') : ActsAt B Z' C' D nm XB LB L w := by
  obtain ⟨fm, os, fl, recs, P, lv, ov, h1, h2, h3, h4, h5, h6, h7, h8, h9, h10, h11, h12, h13, h14⟩ := h
  exact ⟨fm, os, fl, recs, P, lv, ov, h1, h2, h3.mono hZ, h4, h5, h6, h7, h8.mono hZ, h9, h10, h11, h12, h13, Nat.le_trans h14 hC⟩
theorem Both.drew {B Z D : Nat} {w : World} {P : Option Nat} {lv ov : Value} (h : Both B Z w D P lv ov) : Both B Z w.drew D P lv ov := h

set_option maxRecDepth 100000 in
set_option maxHeartbeats 16000000 in
theorem lawWActs_any (vf vo : Value) (fl : FL) (nm : List UInt8) (vos : List VOp) (w : World) (hf : FlsRd w.heap.size w vf fl) (ho : InVs w.heap.size w vo vos) (hl : flsum fl + fl.length + vosum vos + vos.length ≤ 1048576) (hnl : ∀ p ∈ fl, p.1.length ≤ maxLen) (hnm : nm.length ≤ maxLen) :
    Calls Try.prog 11 #[vf, .string (strB nm), vo] w fun e w' => e = .returned (.bool true) ∧ Below w.heap.size w w' := by
  have hB0 : w.heap.size ≤ w.heap.size := Nat.le_refl _
  generalize hBe : w.heap.size = B at hB0 hf ho
  have HBE := Lib.hid hBe
  have hB0 : B ≤ w.heap.size := by omega
  clear hBe
  have hl1 : flsum fl ≤ 1099511627776 := by omega
  have hl2 : fl.length ≤ 1099511627776 := by omega
  have C1 := Lib.hid (dload_any B vf fl w hB0 hf hl1 hl2 hnl)
  have HC2 := Lib.hid (fun (w1 : World) (h : Below w.heap.size w w1) => rload_any B vf fl w1 (by have := h.size; omega) (hf.below hB0 h) hl1 hl2 hnl)
  have HCL := Lib.hid (fun (w1 : World) (h : Below w.heap.size w w1) => wlarge_any B vf vo fl vos w1 (by have := h.size; omega) (hf.below hB0 h) (ho.below (h.mono hB0)) (by omega))
  clear hnl
  generalize hres : loadF fl (fun _ => none) = res at *
  clear hres
  obtain ⟨Ao, co, rfl, b1, b2, b3⟩ := ho.open_
  have HB3 := Lib.hid b3
  unfold maxLen at b2
  clear b3
  go_enter Try.func11, Try.ntmps11
  go_wp2_with fail
  (with_reducible refine C1.out.mono ?_)
  rintro e w1 ⟨hb1, hR1⟩
  clear C1
  have hs1 := hb1.size
  cases res with
  | none =>
    obtain rfl : e = .returned (.pointer none) := hR1
    go_wp2_with fail
    (with_reducible refine (HC2.out w1 hb1).mono ?_)
    rintro e w2 ⟨hb2, hR2⟩
    clear HC2
    have hs2 := hb2.size
    obtain rfl : e = .returned (.tuple #[.agg #[.slice none 0 0, .slice none 0 0], .bool false]) := hR2
    have hb3 : Below w.heap.size w (w2.alloc (.cells #[.slice none 0 0, .slice none 0 0] 49)) := (hb1.trans (hb2.mono hs1)).trans ((Below.of_alloc _).mono (by omega))
    go_wp2_with fail
    (with_reducible refine (wworks_any _).mono ?_)
    rintro e w3 ⟨rfl, hb4⟩
    go_wp2_with fail
    go_ret
    exact ⟨rfl, HBE.out ▸ hb3.trans (hb4.mono hb3.size)⟩
  | some fm =>
  obtain ⟨D, rfl, hDl, hD1⟩ : ∃ D, e = .returned (.pointer (some ⟨D, 0, none⟩)) ∧ w.heap.size ≤ D ∧ DiskAt B (flsum fl + fl.length) w1 D none fm [] := hR1
  have hB1 : B ≤ w1.heap.size := by omega
  go_wp2_with fail
  (with_reducible refine (HC2.out w1 hb1).mono ?_)
  rintro e w2 ⟨hb2, hR2⟩
  clear HC2
  have hs2 := hb2.size
  obtain ⟨lv, fl2, rfl, hF2, hI2, hz2⟩ : ∃ lv fl', e = .returned (.tuple #[.agg #[lv, .slice none 0 0], .bool true]) ∧ FlsRd B w2 lv fl' ∧ IsL fm fl' ∧ RSz (flsum fl + fl.length) fl' [] := hR2
  have hD2 := hD1.below hB1 hb2
  clear hD1
  obtain ⟨Al, cl, rfl, l1, l2, l3⟩ := hF2.open_
  have HL3 := Lib.hid l3
  clear l3
  obtain ⟨W, hW⟩ : ∃ W, W = w2.alloc (.cells #[.slice Al fl2.length cl, .slice none 0 0] 49) := ⟨_, rfl⟩
  have hb3 : Below w2.heap.size w2 W := by rw [hW]; exact Below.of_alloc _
  have hrX : W.heap[w2.heap.size]? = some (.cells #[.slice Al fl2.length cl, .slice none 0 0] 49 (0, 0)) := by rw [hW]; exact heap_alloc_new w2 _
  have hD3 := hD2.below (by omega) hb3
  have hF3 := hF2.below (by omega) hb3
  have hs3 := hb3.size
  have hW3 : Below w.heap.size w W := (hb1.trans (hb2.mono hs1)).trans (hb3.mono (by omega))
  have HW := Lib.hid hW
  clear hW hb3 hb1 hb2 hD2 hF2
  go_wp2_with fail
  rw [← HW.out]
  (with_reducible refine (HCL.out W hW3).mono ?_)
  rintro e w4 ⟨bg, rfl, hbg, hb4⟩
  clear HCL
  have hs4 := hb4.size
  have hW4 : Below B w w4 := (hW3.mono hB0).trans (hb4.mono (by omega))
  have hB4 : B ≤ w4.heap.size := by omega
  have hXl := (Array.getElem?_eq_some_iff.1 hrX).1
  have hX4 := (hb4.block w2.heap.size hXl).trans hrX
  have hD4 := hD3.below (by omega) hb4
  have hF4 := hF3.below (by omega) hb4
  have hBX : B ≤ w2.heap.size := by omega
  generalize w2.heap.size = XB at *
  clear hrX hb4 hW3 hD3 hF3
  have HBG := Lib.hid hbg
  clear hbg
  cases bg with
  | true =>
    go_wp2_with fail
    (with_reducible refine (wworks_any w4).mono ?_)
    rintro e wz ⟨rfl, hbz⟩
    go_wp2_with fail
    go_ret
    exact ⟨rfl, hW4.trans (hbz.mono hB4)⟩
  | false =>
  have CN := Lib.hid (rname_any nm w4 hnm)
  cases hw : wordF nm with
  | false =>
    rw [hw] at CN
    go_wp2_with fail
    (with_reducible refine CN.out.mono ?_)
    rintro e W' ⟨rfl, rfl⟩
    go_wp2_with fail
    (with_reducible refine (wworks_any w4).mono ?_)
    rintro e wz ⟨rfl, hbz⟩
    go_wp2_with fail
    go_ret
    exact ⟨rfl, hW4.trans (hbz.mono hB4)⟩
  | true =>
  rw [hw] at CN
  obtain ⟨n20, n40, n2000⟩ := HBG.out rfl
  clear HBG
  have hZb : flsum fl + fl.length ≤ 2020 := by omega
  generalize flsum fl + fl.length = Z at *
  have x0 : w4.cell? ⟨XB, 0, none⟩ = some (.slice Al fl2.length cl) := cell_of_row _ _ 0 _ _ _ hX4
  have x1 : w4.cell? ⟨XB, 1, none⟩ = some (.slice none 0 0) := cell_of_row _ _ 1 _ _ _ hX4
  have hfl2 : fl2.length ≤ Z := by have := hz2.len; simp only [List.length_nil] at this; omega
  have hgl : ((viewF fm [] nm).getD []).length ≤ Z := by have := hD4.sz.view.get nm; omega
  have CO := Lib.hid (wopen_fine B Z D none fm [] nm w4 hB4 hD4 hw (by omega))
  have HCR := Lib.hid (fun (w5 : World) (hB5 : B ≤ w5.heap.size) (hv5 : FlsRd B w5 (.slice Al fl2.length cl) fl2) => ropen_ok B Z _ _ fm fl2 [] nm w5 hB5 hv5 (DosRd.nil B w5) hI2 trivial hz2 (by omega) hw)
  have HA1 := (open_again fm nm).1
  have HOF := Lib.hid (open_frs fm nm)
  generalize ((viewF fm [] nm).getD []).length = bn at *
  generalize (scanF ((viewF fm [] nm).getD [])).1 = recs at *
  generalize openD fm [] nm = od at *
  obtain ⟨fm1, os1⟩ := od
  obtain rfl : os1 = [] := HA1
  go_wp2_with fail
  (with_reducible refine CN.out.mono ?_)
  rintro e W' ⟨rfl, rfl⟩
  clear CN
  go_wp2_with fail
  (with_reducible refine CO.out.mono ?_)
  rintro e w5 ⟨L5, v5, P5, rfl, hL5, hLog5, hR5, hD5, hP5, hC5⟩
  clear CO
  have hP5' : P5 = none := by rcases hP5 with h | h <;> exact h
  subst hP5'
  have hD5 : DiskAt B (Z + bn + 3) w5 D none fm1 [] := hD5
  have hs5 := hC5.size
  have hB5 : B ≤ w5.heap.size := by omega
  have hW5 : Below B w w5 := hW4.trans (hC5.below hB4 (fun i hi => hD4.ge hi))
  have hF5 := hF4.chg hB4 hC5 hD4.br hD4.fr34
  have hX5 := (hC5.block XB (by omega) (hD4.not_log hX4 (by decide) (by decide))).trans hX4
  have y0 : w5.cell? ⟨XB, 0, none⟩ = some (.slice Al fl2.length cl) := cell_of_row _ _ 0 _ _ _ hX5
  have y1 : w5.cell? ⟨XB, 1, none⟩ = some (.slice none 0 0) := cell_of_row _ _ 1 _ _ _ hX5
  obtain ⟨A5, c5, rfl, r1, r2, r3⟩ := hR5.open_
  have HR3 := Lib.hid r3
  clear r3 hD4 hC5 hF4 hX4 x0 x1 hP5
  have CR := Lib.hid (HCR.out w5 hB5 hF5)
  clear HCR
  go_wp2_with fail
  (with_reducible refine CR.out.mono ?_)
  rintro e w6 ⟨l6, o6, v6, fl6, rfl, hl6, ho6, hI6, hK6, hz6, hR6, hb6⟩
  clear CR
  have hs6 := hb6.size
  obtain ⟨A6, c6, rfl, u1, u2, u3⟩ := hl6.open_
  obtain ⟨B6, d6, rfl, t1, t2, t3⟩ := ho6.open_
  obtain ⟨E6, e6, rfl, s1, s2, s3⟩ := hR6.open_
  have HU3 := Lib.hid u3
  have HT3 := Lib.hid t3
  have HS3 := Lib.hid s3
  clear u3 t3 s3
  simp only [List.length_nil] at *
  have hX6 := (hb6.block XB (by have := (Array.getElem?_eq_some_iff.1 hX5).1; omega)).trans hX5
  have hXl6 := (Array.getElem?_eq_some_iff.1 hX6).1
  obtain ⟨q0, q1, q2, q3, q6, q4, q5, hC7⟩ := two_store w6 XB (.slice Al fl2.length cl) (.slice none 0 0) (.slice A6 fl6.length c6) (.slice B6 0 d6) _ hX6
  have hD7 := (hD5.below hB5 hb6).keep (by omega) hC7 (fun b hb => by subst hb; exact ⟨hBX, _, _, _, hX6, by decide, by decide, by decide⟩)
  have hl7 := FlsRd.box hl6 (by omega) hBX hX6 hC7
  have ho7 := DosRd.box ho6 (by omega) hBX hX6 hC7
  have hLog6 := hLog5.below hb6
  have hLog7 := hLog6.chg hC7 (by rintro rfl; unfold LogIs at hLog6; rw [hX6] at hLog6; simp only [Option.some.injEq, Obj.cells.injEq] at hLog6; exact absurd hLog6.2.1 (by decide))
  have hs7 := hC7.size
  have hW7 : Below B w ((w6.setCell ⟨XB, 0, none⟩ (.slice A6 fl6.length c6)).setCell ⟨XB, 1, none⟩ (.slice B6 0 d6)) := (hW5.trans (hb6.mono hB5)).trans (hC7.below (by omega) (fun i hi => by omega))
  obtain ⟨W8, hW8e⟩ : ∃ W, W = ((w6.setCell ⟨XB, 0, none⟩ (.slice A6 fl6.length c6)).setCell ⟨XB, 1, none⟩ (.slice B6 0 d6)).alloc (.cells #[.string (strB nm)] 64) := ⟨_, rfl⟩
  have hb8 : Below ((w6.setCell ⟨XB, 0, none⟩ (.slice A6 fl6.length c6)).setCell ⟨XB, 1, none⟩ (.slice B6 0 d6)).heap.size ((w6.setCell ⟨XB, 0, none⟩ (.slice A6 fl6.length c6)).setCell ⟨XB, 1, none⟩ (.slice B6 0 d6)) W8 := by rw [hW8e]; exact Below.of_alloc _
  have hLB8 : W8.heap[w6.heap.size]? = some (.cells #[.string (strB nm)] 64 (0, 0)) := by
    have := heap_alloc_new ((w6.setCell ⟨XB, 0, none⟩ (.slice A6 fl6.length c6)).setCell ⟨XB, 1, none⟩ (.slice B6 0 d6)) (.cells #[.string (strB nm)] 64)
    rw [hW8e]; simpa [World.setCell] using this
  have hX8 : W8.heap[XB]? = some (.cells #[.slice A6 fl6.length c6, .slice B6 0 d6] 49 (0, 0)) := (hb8.block XB (by omega)).trans q6
  have hB7 : B ≤ ((w6.setCell ⟨XB, 0, none⟩ (.slice A6 fl6.length c6)).setCell ⟨XB, 1, none⟩ (.slice B6 0 d6)).heap.size := by omega
  have hs8 := hb8.size
  have hB8 : B ≤ W8.heap.size := by omega
  have hW8 := hW7.trans (hb8.mono hB7)
  have hBL : B ≤ w6.heap.size := by omega
  have hXL : ¬ XB = w6.heap.size := by omega
  have hAt0 : ActsAt B (Z + bn + 3) Z D nm XB w6.heap.size L5 W8 :=
    ⟨fm1, [], fl6, recs, none, _, _, hX8, hLB8, hD7.below hB7 hb8, hl7.below hB7 hb8, ho7.below hB7 hb8, hI6, hK6, hz6, hLog7.below hb8, by omega, (fun o ho => by cases ho), HOF.out.1, HOF.out.2.1, by have := HOF.out.2.2; omega⟩
  have HW8 := Lib.hid hW8e
  clear hW8e hX8 hLB8 hLog7 hLog6 hLog5 ho7 hl7 hD7 hD5 hl6 ho6 hz6 hK6 hI6 q6 hb8 hC7 hX6 hb6 HOF hR5 hR6 hF5 hX5 hW7
  go_wp2_with fail
  rw [← HW8.out]
  clear HW8 q0 q1 q2 q3 q4 q5 y0 y1
  generalize w6.heap.size = LB at *
  have hZ1 : Z + bn + 3 ≤ 4043 := by omega
  generalize Z + bn + 3 = Z1 at *
  go_loopw [10, 80] (fun lg i wr => ∃ (j L : Nat), j ≤ vos.length ∧ i = .int .i64 (j : Int) ∧ lg = .pointer (some ⟨L, 0, none⟩) ∧ ActsAt B (Z1 + j * 5000) (Z + vosum (vos.take j) + 8 * j) D nm XB LB L wr ∧ Below B w wr ∧ B ≤ wr.heap.size) (fun _ i _ => vos.length - (intOf i).toNat)
  case atStart => exact ⟨0, L5, Nat.zero_le _, rfl, rfl, by simpa [vosum] using hAt0, hW8, hB8⟩
  case round =>
    obtain ⟨j, L, hj, rfl, rfl, hAtr, hWr, hBr⟩ := hrel
    clear hAt0
    by_cases hlt : j < vos.length
    · obtain ⟨ba, oa, ua, rfl, g0, g1, g2, g3, da, _⟩ := InVs.elem (ho.below hWr) (List.getElem?_eq_getElem hlt)
      have HFT := Lib.hid (vosum_take (List.getElem?_eq_getElem hlt))
      have hle := vosum_take_le vos (j + 1)
      rw [HFT.out] at hle
      obtain ⟨Xa, xa, rfl, _, _, _⟩ := Rd.open_ da
      generalize vos[j] = q at *
      obtain ⟨kd, dt, kp, tn⟩ := q
      simp only at *
      have hdt : dt.length ≤ 2000 := by omega
      have hCb : Z + vosum (vos.take j) + 8 * j + dt.length + 8 ≤ 4400 := by omega
      have hZb2 : Z1 + j * 5000 + 5000 ≤ 250000 := by omega
      have HZ2 : Hid (Z1 + (j + 1) * 5000 = Z1 + j * 5000 + 5000) := Lib.hid (by omega)
      have HC2 : Hid (Z + vosum (vos.take (j + 1)) + 8 * (j + 1) = Z + vosum (vos.take j) + 8 * j + dt.length + 8) := Lib.hid (by rw [HFT.out]; omega)
      clear HFT hle
      generalize Z + vosum (vos.take j) + 8 * j = C at *
      generalize Z1 + j * 5000 = Zj at *
      obtain ⟨fm, os, fl3, recs3, P, lv, ov, hX, hLB, hD, hF, hO, hI, hK, hz, hLog, hBL', hA, hVw, hRs, hCs⟩ := hAtr
      have HVW := Lib.hid hVw
      clear hVw
      have hol : os.length ≤ 1099511627776 := by have := hz.len; omega
      have hrl : recs3.length ≤ 4400 := by have := fsum_ge recs3; omega
      obtain ⟨A7, c7, rfl, i1, i2, i3⟩ := hF.open_
      obtain ⟨A8, c8, rfl, k1, k2, k3⟩ := hO.open_
      have HI3 := Lib.hid i3
      have HK3 := Lib.hid k3
      clear i3 k3
      have hXlt := (Array.getElem?_eq_some_iff.1 hX).1
      have hLlt := (Array.getElem?_eq_some_iff.1 hLB).1
      obtain ⟨Wa, hWa⟩ : ∃ W, W = wr.alloc (.cells #[.int .i64 kd, .slice Xa dt.length xa, .int .i64 kp, .int .i64 tn] 70) := ⟨_, rfl⟩
      have hba : Below wr.heap.size wr Wa := by rw [hWa]; exact Below.of_alloc _
      have hrO : Wa.heap[wr.heap.size]? = some (.cells #[.int .i64 kd, .slice Xa dt.length xa, .int .i64 kp, .int .i64 tn] 70 (0, 0)) := by rw [hWa]; exact heap_alloc_new wr _
      have hsa : Wa.heap.size = wr.heap.size + 1 := by rw [hWa]; simp
      have hXa := (hba.block XB hXlt).trans hX
      have hLa := (hba.block LB hLlt).trans hLB
      have k0 : Wa.cell? ⟨wr.heap.size, 0, none⟩ = some (.int .i64 kd) := cell_of_row _ _ 0 _ _ _ hrO
      have k1' : Wa.cell? ⟨wr.heap.size, 1, none⟩ = some (.slice Xa dt.length xa) := cell_of_row _ _ 1 _ _ _ hrO
      have k2' : Wa.cell? ⟨wr.heap.size, 2, none⟩ = some (.int .i64 kp) := cell_of_row _ _ 2 _ _ _ hrO
      have k3' : Wa.cell? ⟨wr.heap.size, 3, none⟩ = some (.int .i64 tn) := cell_of_row _ _ 3 _ _ _ hrO
      have x0 : Wa.cell? ⟨XB, 0, none⟩ = some (.slice A7 fl3.length c7) := cell_of_row _ _ 0 _ _ _ hXa
      have x1 : Wa.cell? ⟨XB, 1, none⟩ = some (.slice A8 os.length c8) := cell_of_row _ _ 1 _ _ _ hXa
      have y0 : Wa.cell? ⟨LB, 0, none⟩ = some (.string (strB nm)) := cell_of_row _ _ 0 _ _ _ hLa
      have hDa := hD.below hBr hba
      have hFa := hF.below hBr hba
      have hOa := hO.below hBr hba
      have hLoga := hLog.below hba
      have hBa : B ≤ Wa.heap.size := by omega
      have hWa' := hWr.trans (hba.mono hBr)
      have hda := da.below hBr hba
      rw [hWa] at k0 k1' k2' k3' x0 x1 y0
      have HWa := Lib.hid hWa
      clear hWa hD hF hO hLog hX hLB da hba
      have hOB : B ≤ wr.heap.size := hBr
      generalize hOBe : wr.heap.size = OB at *
      by_cases hk0 : kd = 0
      · subst hk0
        have CA := Lib.hid (r36append_ok B _ _ fl3 os nm _ dt Wa hBa hFa hOa hw (hda.rd hBa) hol (by omega))
        go_wp2_with fail
        rw [← HWa.out]
        (with_reducible refine CA.out.mono ?_)
        rintro e w5 ⟨l5, o5, rfl, hl5, ho5, hb5⟩
        clear CA
        have hs5 := hb5.size
        obtain ⟨A5, c5, rfl, u1, u2, u3⟩ := hl5.open_
        obtain ⟨B5, d5, rfl, t1, t2, t3⟩ := ho5.open_
        have HU3 := Lib.hid u3
        have HT3 := Lib.hid t3
        clear u3 t3
        generalize hn5 : (os ++ [(⟨0, nm, [], frm dt⟩ : DOp)]).length = n5 at *
        have HN5 := Lib.hid hn5
        clear hn5
        have hD5 := hDa.below hBa hb5
        have hLog5 := hLoga.below hb5
        have hda5 := hda.below hBa hb5
        have hX5 := (hb5.block XB (by omega)).trans hXa
        have hLB5 := (hb5.block LB (by omega)).trans hLa
        have hrO5 := (hb5.block OB (by omega)).trans hrO
        obtain ⟨W6, hW6e⟩ : ∃ W, W = w5.alloc (.cells #[.slice A5 fl3.length c5, .slice B5 n5 d5] 49) := ⟨_, rfl⟩
        have hb6 : Below w5.heap.size w5 W6 := by rw [hW6e]; exact Below.of_alloc _
        have hs6 : W6.heap.size = w5.heap.size + 1 := by rw [hW6e]; simp
        have m0 : W6.cell? ⟨w5.heap.size, 0, none⟩ = some (.slice A5 fl3.length c5) := by rw [hW6e]; exact box_cell w5 _ _ 0 rfl
        have m1 : W6.cell? ⟨w5.heap.size, 1, none⟩ = some (.slice B5 n5 d5) := by rw [hW6e]; exact box_cell w5 _ _ 1 rfl
        have hB5 : B ≤ w5.heap.size := by omega
        have hB6 : B ≤ W6.heap.size := by omega
        have hX6 := (hb6.block XB (by omega)).trans hX5
        have hLB6 := (hb6.block LB (by omega)).trans hLB5
        have hrO6 := (hb6.block OB (by omega)).trans hrO5
        obtain ⟨q0, q1, q2, q3, q6, q4, q5, hC7⟩ := two_store W6 XB (.slice A7 fl3.length c7) (.slice A8 os.length c8) (.slice A5 fl3.length c5) (.slice B5 n5 d5) _ hX6
        have hl7 := FlsRd.box (hl5.below hB5 hb6) hB6 hBX hX6 hC7
        have ho7 := DosRd.box (ho5.below hB5 hb6) hB6 hBX hX6 hC7
        have hD7 := (hD5.below hB5 hb6).keep hB6 hC7 (fun b hb => by subst hb; exact ⟨hBX, _, _, _, hX6, by decide, by decide, by decide⟩)
        have hLog6 := hLog5.below hb6
        have hLog7 := hLog6.chg hC7 (by rintro rfl; unfold LogIs at hLog6; rw [hX6] at hLog6; simp only [Option.some.injEq, Obj.cells.injEq] at hLog6; exact absurd hLog6.2.1 (by decide))
        have hda7 := (hda5.below hB5 hb6).chg hB6 hC7 (fun b hb => BR_not_cells hBX hX6 (by decide) hb)
        have hLB7 := (hC7.block LB (by omega) (by rintro rfl; rw [hX6] at hLB6; simp at hLB6)).trans hLB6
        have hrO7 := (hC7.block OB (by omega) (by rintro rfl; rw [hX6] at hrO6; simp at hrO6)).trans hrO6
        have hs7 := hC7.size
        have hW7 := ((hWa'.trans (hb5.mono hBa)).trans (hb6.mono hB5)).trans (hC7.below hB6 (fun i hi => by omega))
        have HW6 := Lib.hid hW6e
        obtain ⟨w7, hw7⟩ : ∃ w', w' = (W6.setCell ⟨XB, 0, none⟩ (.slice A5 fl3.length c5)).setCell ⟨XB, 1, none⟩ (.slice B5 n5 d5) := ⟨_, rfl⟩
        rw [← hw7] at hl7 ho7 hD7 hLog7 hda7 hLB7 hrO7 hs7 hW7 q6 q4 q5 hC7
        have hB7 : B ≤ w7.heap.size := by omega
        have CW := Lib.hid (wappend_ok B Zj D L P fm os nm _ _ _ dt w7 hB7 hD7 hLog7 hBL' hw (hda7.rd hB7) (by omega) (by omega) (by omega) (by omega) (by omega) (by omega))
        have k9 : w7.cell? ⟨OB, 1, none⟩ = some (.slice Xa dt.length xa) := cell_of_row _ _ 1 _ _ _ hrO7
        rw [hW6e] at q0 q1 q2 q3 m0 m1 hw7
        rw [hw7] at k9
        have HW7 := Lib.hid hw7
        clear hw7 hW6e q4 q5 hb6
        go_wp2_with fail
        rw [← HW7.out]
        (with_reducible refine CW.out.mono ?_)
        rintro e w8 ⟨rfl, P8, hD8, hP8, hLog8, hC8⟩
        clear CW k9 q0 q1 q2 q3 m0 m1
        have hs8 := hC8.size
        have hX8 := (hC8.block XB (by have := (Array.getElem?_eq_some_iff.1 q6).1; omega) (three_not hD7 hLog7 q6 (by decide) (by decide) (by decide))).trans q6
        have hLB8 := (hC8.block LB (by have := (Array.getElem?_eq_some_iff.1 hLB7).1; omega) (three_not hD7 hLog7 hLB7 (by decide) (by decide) (by decide))).trans hLB7
        have hl8 := hl7.chg hB7 hC8 (three_br hD7 hLog7 hBL') (three_fr hD7 hLog7 hBL')
        have ho8 := ho7.chg hB7 hC8 (three_br hD7 hLog7 hBL') (three_dor hD7 hLog7 hBL')
        have hge3 : ∀ i, (i = D ∨ i = L ∨ some i = P) → B ≤ i := by
          rintro i (h | h | h)
          · exact hD7.ge (.inl h)
          · omega
          · exact hD7.ge (.inr h)
        have hW8r : Below B w w8 := hW7.trans (hC8.below hB7 hge3)
        clear hge3
        have hB8r : B ≤ w8.heap.size := by omega
        have hfl8 := frm_len dt
        obtain ⟨Z8, hZ8⟩ : ∃ z, z = Zj + dt.length + 9 := ⟨_, rfl⟩
        have hZ8b : Z8 ≤ 250000 := by omega
        have hAt8 : ActsAt B Z8 (C + dt.length + 8) D nm XB LB L w8 := by
          rw [hZ8]
          refine ⟨fm, os ++ [⟨0, nm, [], frm dt⟩], fl3, recs3 ++ [dt], P8, _, _, hX8, hLB8, hD8, hl8, ho8, hI, hK.snoc (by simp) (by simp), ?_, ?_, hBL', ?_, ?_, ?_, ?_⟩
          · exact (hz.push (o := ⟨0, nm, [], frm dt⟩) (by simp)).mono (by simp only; omega)
          · rw [show ((recs3 ++ [dt]).length : Int) = (recs3.length : Int) + 1 by simp, show ((fsum (recs3 ++ [dt]) : Nat) : Int) = (fsum recs3 : Int) + dt.length + 8 by rw [fsum_append]; simp [fsum]; omega]
            exact hLog8
          · intro o ho
            rcases List.mem_append.1 ho with ho | ho
            · exact hA o ho
            · simp only [List.mem_singleton] at ho; subst ho; exact ⟨rfl, rfl⟩
          · rw [view_push, HVW.out, frs_append]; simp [frs]
          · intro r hr
            rcases List.mem_append.1 hr with hr | hr
            · exact hRs r hr
            · simp only [List.mem_singleton] at hr; subst hr; omega
          · have e1 : fsum [dt] = dt.length + 8 := by simp [fsum]
            rw [fsum_append, e1]; omega
        have hMono : ∀ wk, ActsAt B Z8 (C + dt.length + 8) D nm XB LB L wk → ActsAt B (Zj + 5000) (C + dt.length + 8) D nm XB LB L wk := fun wk h => h.mono (by omega) (by omega)
        have HMONO := Lib.hid hMono
        clear hMono hZ8 hX8 hLB8 hD8 hl8 ho8 hLog8 hC8 hl7 ho7 hD7 hLog7 hda7 hLB7 hrO7 q6 hC7 hfl8 hda5 hrO5 hrO6 hX5 hX6 hLB5 hLB6 hl5 ho5 hb5 hD5 hLog5 hLog6 hP8
        generalize C + dt.length + 8 = C8 at *
        obtain ⟨fm9, os9, fl9, recs9, P9, lv9, ov9, hX9, hLB9, hD9, hF9, hO9, hI9, hK9, hz9, hLog9, hBL9, hA9, hVw9, hRs9, hCs9⟩ := id hAt8
        have HVW9 := Lib.hid hVw9
        clear hVw9 hA9
        obtain ⟨A9, c9, rfl, i9, j9, n9⟩ := hF9.open_
        obtain ⟨B9, d9, rfl, i9', j9', n9'⟩ := hO9.open_
        have HN9 := Lib.hid n9
        have HN9' := Lib.hid n9'
        clear n9 n9'
        have hX9l := (Array.getElem?_eq_some_iff.1 hX9).1
        have hL9l := (Array.getElem?_eq_some_iff.1 hLB9).1
        have p0 : w8.cell? ⟨XB, 0, none⟩ = some (.slice A9 fl9.length c9) := cell_of_row _ _ 0 _ _ _ hX9
        have p1 : w8.cell? ⟨XB, 1, none⟩ = some (.slice B9 os9.length d9) := cell_of_row _ _ 1 _ _ _ hX9
        have p2 : w8.cell? ⟨LB, 0, none⟩ = some (.string (strB nm)) := cell_of_row _ _ 0 _ _ _ hLB9
        have hBo9 : Both B Z8 w8 D P9 (.slice A9 fl9.length c9) (.slice B9 os9.length d9) := ⟨fm9, os9, fl9, hD9, hF9, hO9, hI9, hK9, hz9⟩
        have HIV9 : Hid (lookL (viewL fl9 os9) nm = viewF fm9 os9 nm) := Lib.hid ((hI9.view hK9).2 nm)
        have HLN9 : Hid ((scanF ((lookL (viewL fl9 os9) nm).getD [])).1.length = recs9.length) := Lib.hid (by
          rw [HIV9.out, HVW9.out]
          have := scanF_frames recs9 [] hRs9 (by simp)
          rw [List.append_nil] at this
          rw [this])
        have HSZ9 : Hid (((lookL (viewL fl9 os9) nm).getD []).length = fsum recs9) := Lib.hid (by rw [HIV9.out, HVW9.out, frs_length])
        have hLn9 : ((lookL (viewL fl9 os9) nm).getD []).length ≤ 1099511627776 := by rw [HSZ9.out]; omega
        have CLN := Lib.hid (fun (wk : World) (hb : Below w8.heap.size w8 wk) => r36len_any B Z8 _ _ fl9 os9 nm wk (by have := hb.size; omega) (hF9.below hB8r hb) (hO9.below hB8r hb) hz9 (by omega) hLn9)
        have CSZ := Lib.hid (fun (wk : World) (hb : Below w8.heap.size w8 wk) => r36size_any B Z8 _ _ fl9 os9 nm wk (by have := hb.size; omega) (hF9.below hB8r hb) (hO9.below hB8r hb) hz9 (by omega))
        rw [HLN9.out] at CLN
        rw [HSZ9.out] at CSZ
        have hRl9 : recs9.length ≤ 1099511627776 := by have := fsum_ge recs9; omega
        generalize recs9.length = rn9 at *
        generalize fsum recs9 = fs9 at *
        clear hRs9 HIV9 HLN9 HSZ9 HVW9 hX9 hLB9 hLn9 hF9 hO9 hI9 hK9 hz9 hD9
        go_wp2_with fail
        refine wp_region_noPanic ?_
        refine wp_region_held_drew (S := (fun w' => Below w8.heap.size w8 w')) (by kernel_rfl) ?_ (fun hHeld => ?_)
        · exact (Below.refl _ _).drew
        refine heldTake 0 (some 150) (v := ?_) rfl rfl (by kernel_rfl) (by kernel_rfl) (by kernel_rfl) (by rfl) hHeld (fun _ _ _ h => h) ?_ ?_
        rotate_left
        · intro w' hSw; (try dsimp only at hSw); go_simp <;> with_reducible rfl
        simp only [Act.put, List.setIfInBounds_toArray, List.set_cons_zero, List.set_cons_succ]
        refine heldTake 1 (some 151) (v := ?_) rfl rfl (by kernel_rfl) (by kernel_rfl) (by kernel_rfl) (by rfl) hHeld (fun _ _ _ h => h) ?_ ?_
        rotate_left
        · intro w' hSw; (try dsimp only at hSw); have q0 := (hSw.cell (p := ⟨XB, 0, none⟩) (show XB < w8.heap.size by omega)).trans p0; have q1 := (hSw.cell (p := ⟨XB, 1, none⟩) (show XB < w8.heap.size by omega)).trans p1; go_simp <;> with_reducible rfl
        simp only [Act.put, List.setIfInBounds_toArray, List.set_cons_zero, List.set_cons_succ]
        refine heldCall 2 (some 152) (f := ?_) (args := ?_) rfl rfl (by kernel_rfl) (by rfl) ?_ ?_
        rotate_left 2
        · go_simp <;> first | (constructor <;> with_reducible rfl) | with_reducible rfl
        (with_reducible refine (dsame36_any B Z8 D P9 _ _ w8.drew ?_ ?_ (by omega)).mono ?_)
        · exact hB8r
        · exact hBo9.drew
        rintro e z1 ⟨rfl, hb1⟩
        have hbz1 : Below w8.heap.size w8 z1 := Below.undrew hb1
        have hsz1 := hbz1.size
        refine ⟨_, rfl, keepAnd ?_ (fun hNew => ?_)⟩
        · exact hbz1
        clear hHeld
        have hHeld := hNew
        clear hNew
        simp only [Act.put, List.setIfInBounds_toArray, List.set_cons_zero, List.set_cons_succ]
        refine heldTake 3 (some 153) (v := ?_) rfl rfl (by kernel_rfl) (by kernel_rfl) (by kernel_rfl) (by rfl) hHeld (fun _ _ _ h => h) ?_ ?_
        rotate_left
        · intro w' hSw; (try dsimp only at hSw); go_simp <;> with_reducible rfl
        simp only [Act.put, List.setIfInBounds_toArray, List.set_cons_zero, List.set_cons_succ]
        refine heldTake 4 (some 154) (v := ?_) rfl rfl (by kernel_rfl) (by kernel_rfl) (by kernel_rfl) (by rfl) hHeld (fun _ _ _ h => h) ?_ ?_
        rotate_left
        · intro w' hSw; (try dsimp only at hSw); go_simp <;> with_reducible rfl
        simp only [Act.put, List.setIfInBounds_toArray, List.set_cons_zero, List.set_cons_succ]
        refine heldTake 5 (some 155) (v := ?_) rfl rfl (by kernel_rfl) (by kernel_rfl) (by kernel_rfl) (by rfl) hHeld (fun _ _ _ h => h) ?_ ?_
        rotate_left
        · intro w' hSw; (try dsimp only at hSw); go_simp <;> with_reducible rfl
        simp only [Act.put, List.setIfInBounds_toArray, List.set_cons_zero, List.set_cons_succ]
        refine heldTake 7 (some 157) (v := ?_) rfl rfl (by kernel_rfl) (by kernel_rfl) (by kernel_rfl) (by rfl) hHeld (fun _ _ _ h => h) ?_ ?_
        rotate_left
        · intro w' hSw; (try dsimp only at hSw); have q0 := (hSw.cell (p := ⟨XB, 0, none⟩) (show XB < w8.heap.size by omega)).trans p0; have q1 := (hSw.cell (p := ⟨XB, 1, none⟩) (show XB < w8.heap.size by omega)).trans p1; go_simp <;> with_reducible rfl
        simp only [Act.put, List.setIfInBounds_toArray, List.set_cons_zero, List.set_cons_succ]
        refine heldTake 8 (some 158) (v := ?_) rfl rfl (by kernel_rfl) (by kernel_rfl) (by kernel_rfl) (by rfl) hHeld (fun _ _ _ h => h) ?_ ?_
        rotate_left
        · intro w' hSw; (try dsimp only at hSw); have q0 := (hSw.cell (p := ⟨LB, 0, none⟩) (show LB < w8.heap.size by omega)).trans p2; go_simp <;> with_reducible rfl
        simp only [Act.put, List.setIfInBounds_toArray, List.set_cons_zero, List.set_cons_succ]
        refine heldCall 6 (some 156) (f := ?_) (args := ?_) rfl rfl (by kernel_rfl) (by rfl) ?_ ?_
        rotate_left 2
        · go_simp <;> first | (constructor <;> with_reducible rfl) | with_reducible rfl
        (with_reducible refine (wlen_any L D nm _ _ z1 (hLog9.below hbz1)).mono ?_)
        rintro e z1' ⟨rfl, rfl⟩
        refine ⟨_, rfl, keepAnd ?_ (fun hNew => ?_)⟩
        · exact hbz1
        clear hHeld
        have hHeld := hNew
        clear hNew
        simp only [Act.put, List.setIfInBounds_toArray, List.set_cons_zero, List.set_cons_succ]
        refine heldCall 9 (some 159) (f := ?_) (args := ?_) rfl rfl (by kernel_rfl) (by rfl) ?_ ?_
        rotate_left 2
        · go_simp <;> first | (constructor <;> with_reducible rfl) | with_reducible rfl
        (with_reducible refine (CLN.out z1 hbz1).mono ?_)
        rintro e z2 ⟨rfl, hb2⟩
        have hbz2 : Below w8.heap.size w8 z2 := hbz1.trans (hb2.mono hsz1)
        have hsz2 := hbz2.size
        refine ⟨_, rfl, keepAnd ?_ (fun hNew => ?_)⟩
        · exact hbz2
        clear hHeld
        have hHeld := hNew
        clear hNew
        simp only [Act.put, List.setIfInBounds_toArray, List.set_cons_zero, List.set_cons_succ]
        refine heldTake 10 (some 160) (v := ?_) rfl rfl (by kernel_rfl) (by kernel_rfl) (by kernel_rfl) (by rfl) hHeld (fun _ _ _ h => h) ?_ ?_
        rotate_left
        · intro w' hSw; (try dsimp only at hSw); go_simp <;> with_reducible rfl
        simp only [Act.put, List.setIfInBounds_toArray, List.set_cons_zero, List.set_cons_succ]
        refine heldTake 11 (some 161) (v := ?_) rfl rfl (by kernel_rfl) (by kernel_rfl) (by kernel_rfl) (by rfl) hHeld (fun _ _ _ h => h) ?_ ?_
        rotate_left
        · intro w' hSw; (try dsimp only at hSw); go_simp <;> with_reducible rfl
        simp only [Act.put, List.setIfInBounds_toArray, List.set_cons_zero, List.set_cons_succ]
        refine heldTake 12 (some 162) (v := ?_) rfl rfl (by kernel_rfl) (by kernel_rfl) (by kernel_rfl) (by rfl) hHeld (fun _ _ _ h => h) ?_ ?_
        rotate_left
        · intro w' hSw; (try dsimp only at hSw); go_simp <;> with_reducible rfl
        simp only [Act.put, List.setIfInBounds_toArray, List.set_cons_zero, List.set_cons_succ]
        refine heldTake 13 (some 163) (v := ?_) rfl rfl (by kernel_rfl) (by kernel_rfl) (by kernel_rfl) (by rfl) hHeld (fun _ _ _ h => h) ?_ ?_
        rotate_left
        · intro w' hSw; (try dsimp only at hSw); go_simp <;> with_reducible rfl
        simp only [Act.put, List.setIfInBounds_toArray, List.set_cons_zero, List.set_cons_succ]
        refine heldTake 15 (some 165) (v := ?_) rfl rfl (by kernel_rfl) (by kernel_rfl) (by kernel_rfl) (by rfl) hHeld (fun _ _ _ h => h) ?_ ?_
        rotate_left
        · intro w' hSw; (try dsimp only at hSw); have q0 := (hSw.cell (p := ⟨XB, 0, none⟩) (show XB < w8.heap.size by omega)).trans p0; have q1 := (hSw.cell (p := ⟨XB, 1, none⟩) (show XB < w8.heap.size by omega)).trans p1; go_simp <;> with_reducible rfl
        simp only [Act.put, List.setIfInBounds_toArray, List.set_cons_zero, List.set_cons_succ]
        refine heldTake 16 (some 166) (v := ?_) rfl rfl (by kernel_rfl) (by kernel_rfl) (by kernel_rfl) (by rfl) hHeld (fun _ _ _ h => h) ?_ ?_
        rotate_left
        · intro w' hSw; (try dsimp only at hSw); have q0 := (hSw.cell (p := ⟨LB, 0, none⟩) (show LB < w8.heap.size by omega)).trans p2; go_simp <;> with_reducible rfl
        simp only [Act.put, List.setIfInBounds_toArray, List.set_cons_zero, List.set_cons_succ]
        refine heldCall 14 (some 164) (f := ?_) (args := ?_) rfl rfl (by kernel_rfl) (by rfl) ?_ ?_
        rotate_left 2
        · go_simp <;> first | (constructor <;> with_reducible rfl) | with_reducible rfl
        (with_reducible refine (wsize_any L D nm _ _ z2 (hLog9.below hbz2)).mono ?_)
        rintro e z2' ⟨rfl, rfl⟩
        refine ⟨_, rfl, keepAnd ?_ (fun hNew => ?_)⟩
        · exact hbz2
        clear hHeld
        have hHeld := hNew
        clear hNew
        simp only [Act.put, List.setIfInBounds_toArray, List.set_cons_zero, List.set_cons_succ]
        refine heldCall 17 (some 167) (f := ?_) (args := ?_) rfl rfl (by kernel_rfl) (by rfl) ?_ ?_
        rotate_left 2
        · go_simp <;> first | (constructor <;> with_reducible rfl) | with_reducible rfl
        (with_reducible refine (CSZ.out z2 hbz2).mono ?_)
        rintro e z3 ⟨rfl, hb3⟩
        have hbz3 : Below w8.heap.size w8 z3 := hbz2.trans (hb3.mono hsz2)
        have hsz3 := hbz3.size
        refine ⟨_, rfl, keepAnd ?_ (fun hNew => ?_)⟩
        · exact hbz3
        clear hHeld
        have hHeld := hNew
        clear hNew
        simp only [Act.put, List.setIfInBounds_toArray, List.set_cons_zero, List.set_cons_succ]
        refine heldTake 18 (some 168) (v := ?_) rfl rfl (by kernel_rfl) (by kernel_rfl) (by kernel_rfl) (by rfl) hHeld (fun _ _ _ h => h) ?_ ?_
        rotate_left
        · intro w' hSw; (try dsimp only at hSw); go_simp <;> with_reducible rfl
        simp only [Act.put, List.setIfInBounds_toArray, List.set_cons_zero, List.set_cons_succ]
        refine heldTake 19 (some 169) (v := ?_) rfl rfl (by kernel_rfl) (by kernel_rfl) (by kernel_rfl) (by rfl) hHeld (fun _ _ _ h => h) ?_ ?_
        rotate_left
        · intro w' hSw; (try dsimp only at hSw); go_simp <;> with_reducible rfl
        simp only [Act.put, List.setIfInBounds_toArray, List.set_cons_zero, List.set_cons_succ]
        refine heldTake 20 (some 170) (v := ?_) rfl rfl (by kernel_rfl) (by kernel_rfl) (by kernel_rfl) (by rfl) hHeld (fun _ _ _ h => h) ?_ ?_
        rotate_left
        · intro w' hSw; (try dsimp only at hSw); go_simp <;> with_reducible rfl
        simp only [Act.put, List.setIfInBounds_toArray, List.set_cons_zero, List.set_cons_succ]
        refine heldTake 21 (some 171) (v := ?_) rfl rfl (by kernel_rfl) (by kernel_rfl) (by kernel_rfl) (by rfl) hHeld (fun _ _ _ h => h) ?_ ?_
        rotate_left
        · intro w' hSw; (try dsimp only at hSw); go_simp <;> with_reducible rfl
        simp only [Act.put, List.setIfInBounds_toArray, List.set_cons_zero, List.set_cons_succ]
        refine heldTake 23 (some 173) (v := ?_) rfl rfl (by kernel_rfl) (by kernel_rfl) (by kernel_rfl) (by rfl) hHeld (fun _ _ _ h => h) ?_ ?_
        rotate_left
        · intro w' hSw; (try dsimp only at hSw); go_simp <;> with_reducible rfl
        simp only [Act.put, List.setIfInBounds_toArray, List.set_cons_zero, List.set_cons_succ]
        refine heldCall 22 (some 172) (f := ?_) (args := ?_) rfl rfl (by kernel_rfl) (by rfl) ?_ ?_
        rotate_left 2
        · go_simp <;> first | (constructor <;> with_reducible rfl) | with_reducible rfl
        (with_reducible refine (wname_any L D nm _ _ z3 (hLog9.below hbz3)).mono ?_)
        rintro e z3' ⟨rfl, rfl⟩
        refine ⟨_, rfl, keepAnd ?_ (fun hNew => ?_)⟩
        · exact hbz3
        clear hHeld
        have hHeld := hNew
        clear hNew
        simp only [Act.put, List.setIfInBounds_toArray, List.set_cons_zero, List.set_cons_succ]
        refine heldTake 24 (some 174) (v := ?_) rfl rfl (by kernel_rfl) (by kernel_rfl) (by kernel_rfl) (by rfl) hHeld (fun _ _ _ h => h) ?_ ?_
        rotate_left
        · intro w' hSw; (try dsimp only at hSw); go_simp <;> with_reducible rfl
        simp only [Act.put, List.setIfInBounds_toArray, List.set_cons_zero, List.set_cons_succ]
        refine heldTake 25 (some 175) (v := ?_) rfl rfl (by kernel_rfl) (by kernel_rfl) (by kernel_rfl) (by rfl) hHeld (fun _ _ _ h => h) ?_ ?_
        rotate_left
        · intro w' hSw; (try dsimp only at hSw); go_simp <;> with_reducible rfl
        simp only [Act.put, List.setIfInBounds_toArray, List.set_cons_zero, List.set_cons_succ]
        refine wpAnyH_done (by kernel_rfl) ?_ _
        refine NoPanic.normal ?_
        go_wp2_with fail
        go_roundw
        case rel =>
          refine ⟨j + 1, L, by omega, by go_num, rfl, ?_, hW8r.trans (hbz3.mono hB8r), by omega⟩
          rw [HZ2.out, HC2.out]
          have := hAt8.below hB8r hbz3
          exact HMONO.out _ this
        case measure => simp [intOf]; omega
      by_cases hk1 : kd = 1
      · subst hk1
        have CSY := Lib.hid (wsync_any B Zj D L P fm os nm _ _ Wa hBa hDa hLoga (by omega))
        go_wp2_with fail
        rw [← HWa.out]
        (with_reducible refine CSY.out.mono ?_)
        rintro e w5 ⟨u5, rfl, hD5, hC5⟩
        clear CSY
        have hs5 := hC5.size
        have hB5 : B ≤ w5.heap.size := by omega
        have hC5' : Chg (fun b => b = D ∨ some b = P) Wa w5 := hC5.mono (fun _ h => .inl h)
        have hF5 := hFa.chg hBa hC5' hDa.br hDa.fr34
        have hO5 := hOa.chg hBa hC5' hDa.br hDa.dor
        have hX5 := (hC5'.block XB (by omega) (hDa.not_log hXa (by decide) (by decide))).trans hXa
        have hLB5 := (hC5'.block LB (by omega) (hDa.not_log hLa (by decide) (by decide))).trans hLa
        have hLog5 := hLoga.chg hC5' (hDa.not_log hLoga (by decide) (by decide))
        have hW5 := hWa'.trans (hC5'.below hBa (fun i hi => hDa.ge hi))
        have z0 : w5.cell? ⟨XB, 0, none⟩ = some (.slice A7 fl3.length c7) := cell_of_row _ _ 0 _ _ _ hX5
        have z1' : w5.cell? ⟨XB, 1, none⟩ = some (.slice A8 os.length c8) := cell_of_row _ _ 1 _ _ _ hX5
        have CRS := Lib.hid (rsync_any B Zj _ _ fl3 os w5 hB5 hF5 hO5 hz (by omega))
        go_wp2_with fail
        (with_reducible refine CRS.out.mono ?_)
        rintro e w6 ⟨l6, o6, rfl, hl6, ho6, hb6⟩
        clear CRS
        have hs6 := hb6.size
        have hB6 : B ≤ w6.heap.size := by omega
        obtain ⟨A6, c6, rfl, u1, u2, u3⟩ := hl6.open_
        obtain ⟨B6, d6, rfl, t1, t2, t3⟩ := ho6.open_
        have HU3 := Lib.hid u3
        have HT3 := Lib.hid t3
        clear u3 t3
        rw [List.length_nil] at *
        have hX6 := (hb6.block XB (by have := (Array.getElem?_eq_some_iff.1 hX5).1; omega)).trans hX5
        have hLB6 := (hb6.block LB (by have := (Array.getElem?_eq_some_iff.1 hLB5).1; omega)).trans hLB5
        obtain ⟨q0, q1, q2, q3, q6, q4, q5, hC7⟩ := two_store w6 XB (.slice A7 fl3.length c7) (.slice A8 os.length c8) (.slice A6 (viewL fl3 os).length c6) (.slice B6 0 d6) _ hX6
        have hl7 := FlsRd.box hl6 hB6 hBX hX6 hC7
        have ho7 := DosRd.box ho6 hB6 hBX hX6 hC7
        have hD7 := (hD5.below hB5 hb6).keep hB6 hC7 (fun b hb => by subst hb; exact ⟨hBX, _, _, _, hX6, by decide, by decide, by decide⟩)
        have hLog6 := hLog5.below hb6
        have hLog7 := hLog6.chg hC7 (by rintro rfl; unfold LogIs at hLog6; rw [hX6] at hLog6; simp only [Option.some.injEq, Obj.cells.injEq] at hLog6; exact absurd hLog6.2.1 (by decide))
        have hLB7 := (hC7.block LB (by have := (Array.getElem?_eq_some_iff.1 hLB6).1; omega) (by rintro rfl; rw [hX6] at hLB6; simp at hLB6)).trans hLB6
        have hs7 := hC7.size
        have hW8r := (hW5.trans (hb6.mono hB5)).trans (hC7.below hB6 (fun i hi => by omega))
        obtain ⟨w8, hw8⟩ : ∃ w', w' = (w6.setCell ⟨XB, 0, none⟩ (.slice A6 (viewL fl3 os).length c6)).setCell ⟨XB, 1, none⟩ (.slice B6 0 d6) := ⟨_, rfl⟩
        rw [← hw8] at hl7 ho7 hD7 hLog7 hLB7 hs7 hW8r q6 hC7
        have hB8r : B ≤ w8.heap.size := by omega
        obtain ⟨Z8, hZ8⟩ : ∃ z, z = Zj := ⟨_, rfl⟩
        have hZ8b : Z8 ≤ 250000 := by omega
        have hAt8 : ActsAt B Z8 C D nm XB LB L w8 := by
          rw [hZ8]
          exact ⟨viewF fm os, [], viewL fl3 os, recs3, none, _, _, q6, hLB7, hD7, hl7, ho7, hI.view hK, trivial, hz.view, hLog7, hBL', (fun o ho => by cases ho), HVW.out, hRs, hCs⟩
        have hMono : ∀ wk, ActsAt B Z8 C D nm XB LB L wk → ActsAt B (Zj + 5000) (C + dt.length + 8) D nm XB LB L wk := fun wk h => h.mono (by omega) (by omega)
        have HMONO := Lib.hid hMono
        have HW8 := Lib.hid hw8
        rw [hw8] at hAt8 hW8r hB8r
        clear hMono hZ8 hw8 hl7 ho7 hD7 hLog7 hLB7 q6 hC7 hX5 hX6 hLB5 hLB6 hb6 hD5 hLog5 hLog6 hC5' hC5 hF5 hO5 hl6 ho6 q4 q5
        go_wp2_with fail
        rw [← HW8.out] at hAt8 hW8r hB8r ⊢
        clear q0 q1 q2 q3 z0 z1'
        obtain ⟨fm9, os9, fl9, recs9, P9, lv9, ov9, hX9, hLB9, hD9, hF9, hO9, hI9, hK9, hz9, hLog9, hBL9, hA9, hVw9, hRs9, hCs9⟩ := id hAt8
        have HVW9 := Lib.hid hVw9
        clear hVw9 hA9
        obtain ⟨A9, c9, rfl, i9, j9, n9⟩ := hF9.open_
        obtain ⟨B9, d9, rfl, i9', j9', n9'⟩ := hO9.open_
        have HN9 := Lib.hid n9
        have HN9' := Lib.hid n9'
        clear n9 n9'
        have hX9l := (Array.getElem?_eq_some_iff.1 hX9).1
        have hL9l := (Array.getElem?_eq_some_iff.1 hLB9).1
        have p0 : w8.cell? ⟨XB, 0, none⟩ = some (.slice A9 fl9.length c9) := cell_of_row _ _ 0 _ _ _ hX9
        have p1 : w8.cell? ⟨XB, 1, none⟩ = some (.slice B9 os9.length d9) := cell_of_row _ _ 1 _ _ _ hX9
        have p2 : w8.cell? ⟨LB, 0, none⟩ = some (.string (strB nm)) := cell_of_row _ _ 0 _ _ _ hLB9
        have hBo9 : Both B Z8 w8 D P9 (.slice A9 fl9.length c9) (.slice B9 os9.length d9) := ⟨fm9, os9, fl9, hD9, hF9, hO9, hI9, hK9, hz9⟩
        have HIV9 : Hid (lookL (viewL fl9 os9) nm = viewF fm9 os9 nm) := Lib.hid ((hI9.view hK9).2 nm)
        have HLN9 : Hid ((scanF ((lookL (viewL fl9 os9) nm).getD [])).1.length = recs9.length) := Lib.hid (by
          rw [HIV9.out, HVW9.out]
          have := scanF_frames recs9 [] hRs9 (by simp)
          rw [List.append_nil] at this
          rw [this])
        have HSZ9 : Hid (((lookL (viewL fl9 os9) nm).getD []).length = fsum recs9) := Lib.hid (by rw [HIV9.out, HVW9.out, frs_length])
        have hLn9 : ((lookL (viewL fl9 os9) nm).getD []).length ≤ 1099511627776 := by rw [HSZ9.out]; omega
        have CLN := Lib.hid (fun (wk : World) (hb : Below w8.heap.size w8 wk) => r36len_any B Z8 _ _ fl9 os9 nm wk (by have := hb.size; omega) (hF9.below hB8r hb) (hO9.below hB8r hb) hz9 (by omega) hLn9)
        have CSZ := Lib.hid (fun (wk : World) (hb : Below w8.heap.size w8 wk) => r36size_any B Z8 _ _ fl9 os9 nm wk (by have := hb.size; omega) (hF9.below hB8r hb) (hO9.below hB8r hb) hz9 (by omega))
        rw [HLN9.out] at CLN
        rw [HSZ9.out] at CSZ
        have hRl9 : recs9.length ≤ 1099511627776 := by have := fsum_ge recs9; omega
        generalize recs9.length = rn9 at *
        generalize fsum recs9 = fs9 at *
        clear hRs9 HIV9 HLN9 HSZ9 HVW9 hX9 hLB9 hLn9 hF9 hO9 hI9 hK9 hz9 hD9
        go_wp2_with fail
        refine wp_region_noPanic ?_
        refine wp_region_held_drew (S := (fun w' => Below w8.heap.size w8 w')) (by kernel_rfl) ?_ (fun hHeld => ?_)
        · exact (Below.refl _ _).drew
        refine heldTake 0 (some 150) (v := ?_) rfl rfl (by kernel_rfl) (by kernel_rfl) (by kernel_rfl) (by rfl) hHeld (fun _ _ _ h => h) ?_ ?_
        rotate_left
        · intro w' hSw; (try dsimp only at hSw); go_simp <;> with_reducible rfl
        simp only [Act.put, List.setIfInBounds_toArray, List.set_cons_zero, List.set_cons_succ]
        refine heldTake 1 (some 151) (v := ?_) rfl rfl (by kernel_rfl) (by kernel_rfl) (by kernel_rfl) (by rfl) hHeld (fun _ _ _ h => h) ?_ ?_
        rotate_left
        · intro w' hSw; (try dsimp only at hSw); have q0 := (hSw.cell (p := ⟨XB, 0, none⟩) (show XB < w8.heap.size by omega)).trans p0; have q1 := (hSw.cell (p := ⟨XB, 1, none⟩) (show XB < w8.heap.size by omega)).trans p1; go_simp <;> with_reducible rfl
        simp only [Act.put, List.setIfInBounds_toArray, List.set_cons_zero, List.set_cons_succ]
        refine heldCall 2 (some 152) (f := ?_) (args := ?_) rfl rfl (by kernel_rfl) (by rfl) ?_ ?_
        rotate_left 2
        · go_simp <;> first | (constructor <;> with_reducible rfl) | with_reducible rfl
        (with_reducible refine (dsame36_any B Z8 D P9 _ _ w8.drew ?_ ?_ (by omega)).mono ?_)
        · exact hB8r
        · exact hBo9.drew
        rintro e z1 ⟨rfl, hb1⟩
        have hbz1 : Below w8.heap.size w8 z1 := Below.undrew hb1
        have hsz1 := hbz1.size
        refine ⟨_, rfl, keepAnd ?_ (fun hNew => ?_)⟩
        · exact hbz1
        clear hHeld
        have hHeld := hNew
        clear hNew
        simp only [Act.put, List.setIfInBounds_toArray, List.set_cons_zero, List.set_cons_succ]
        refine heldTake 3 (some 153) (v := ?_) rfl rfl (by kernel_rfl) (by kernel_rfl) (by kernel_rfl) (by rfl) hHeld (fun _ _ _ h => h) ?_ ?_
        rotate_left
        · intro w' hSw; (try dsimp only at hSw); go_simp <;> with_reducible rfl
        simp only [Act.put, List.setIfInBounds_toArray, List.set_cons_zero, List.set_cons_succ]
        refine heldTake 4 (some 154) (v := ?_) rfl rfl (by kernel_rfl) (by kernel_rfl) (by kernel_rfl) (by rfl) hHeld (fun _ _ _ h => h) ?_ ?_
        rotate_left
        · intro w' hSw; (try dsimp only at hSw); go_simp <;> with_reducible rfl
        simp only [Act.put, List.setIfInBounds_toArray, List.set_cons_zero, List.set_cons_succ]
        refine heldTake 5 (some 155) (v := ?_) rfl rfl (by kernel_rfl) (by kernel_rfl) (by kernel_rfl) (by rfl) hHeld (fun _ _ _ h => h) ?_ ?_
        rotate_left
        · intro w' hSw; (try dsimp only at hSw); go_simp <;> with_reducible rfl
        simp only [Act.put, List.setIfInBounds_toArray, List.set_cons_zero, List.set_cons_succ]
        refine heldTake 7 (some 157) (v := ?_) rfl rfl (by kernel_rfl) (by kernel_rfl) (by kernel_rfl) (by rfl) hHeld (fun _ _ _ h => h) ?_ ?_
        rotate_left
        · intro w' hSw; (try dsimp only at hSw); have q0 := (hSw.cell (p := ⟨XB, 0, none⟩) (show XB < w8.heap.size by omega)).trans p0; have q1 := (hSw.cell (p := ⟨XB, 1, none⟩) (show XB < w8.heap.size by omega)).trans p1; go_simp <;> with_reducible rfl
        simp only [Act.put, List.setIfInBounds_toArray, List.set_cons_zero, List.set_cons_succ]
        refine heldTake 8 (some 158) (v := ?_) rfl rfl (by kernel_rfl) (by kernel_rfl) (by kernel_rfl) (by rfl) hHeld (fun _ _ _ h => h) ?_ ?_
        rotate_left
        · intro w' hSw; (try dsimp only at hSw); have q0 := (hSw.cell (p := ⟨LB, 0, none⟩) (show LB < w8.heap.size by omega)).trans p2; go_simp <;> with_reducible rfl
        simp only [Act.put, List.setIfInBounds_toArray, List.set_cons_zero, List.set_cons_succ]
        refine heldCall 6 (some 156) (f := ?_) (args := ?_) rfl rfl (by kernel_rfl) (by rfl) ?_ ?_
        rotate_left 2
        · go_simp <;> first | (constructor <;> with_reducible rfl) | with_reducible rfl
        (with_reducible refine (wlen_any L D nm _ _ z1 (hLog9.below hbz1)).mono ?_)
        rintro e z1' ⟨rfl, rfl⟩
        refine ⟨_, rfl, keepAnd ?_ (fun hNew => ?_)⟩
        · exact hbz1
        clear hHeld
        have hHeld := hNew
        clear hNew
        simp only [Act.put, List.setIfInBounds_toArray, List.set_cons_zero, List.set_cons_succ]
        refine heldCall 9 (some 159) (f := ?_) (args := ?_) rfl rfl (by kernel_rfl) (by rfl) ?_ ?_
        rotate_left 2
        · go_simp <;> first | (constructor <;> with_reducible rfl) | with_reducible rfl
        (with_reducible refine (CLN.out z1 hbz1).mono ?_)
        rintro e z2 ⟨rfl, hb2⟩
        have hbz2 : Below w8.heap.size w8 z2 := hbz1.trans (hb2.mono hsz1)
        have hsz2 := hbz2.size
        refine ⟨_, rfl, keepAnd ?_ (fun hNew => ?_)⟩
        · exact hbz2
        clear hHeld
        have hHeld := hNew
        clear hNew
        simp only [Act.put, List.setIfInBounds_toArray, List.set_cons_zero, List.set_cons_succ]
        refine heldTake 10 (some 160) (v := ?_) rfl rfl (by kernel_rfl) (by kernel_rfl) (by kernel_rfl) (by rfl) hHeld (fun _ _ _ h => h) ?_ ?_
        rotate_left
        · intro w' hSw; (try dsimp only at hSw); go_simp <;> with_reducible rfl
        simp only [Act.put, List.setIfInBounds_toArray, List.set_cons_zero, List.set_cons_succ]
        refine heldTake 11 (some 161) (v := ?_) rfl rfl (by kernel_rfl) (by kernel_rfl) (by kernel_rfl) (by rfl) hHeld (fun _ _ _ h => h) ?_ ?_
        rotate_left
        · intro w' hSw; (try dsimp only at hSw); go_simp <;> with_reducible rfl
        simp only [Act.put, List.setIfInBounds_toArray, List.set_cons_zero, List.set_cons_succ]
        refine heldTake 12 (some 162) (v := ?_) rfl rfl (by kernel_rfl) (by kernel_rfl) (by kernel_rfl) (by rfl) hHeld (fun _ _ _ h => h) ?_ ?_
        rotate_left
        · intro w' hSw; (try dsimp only at hSw); go_simp <;> with_reducible rfl
        simp only [Act.put, List.setIfInBounds_toArray, List.set_cons_zero, List.set_cons_succ]
        refine heldTake 13 (some 163) (v := ?_) rfl rfl (by kernel_rfl) (by kernel_rfl) (by kernel_rfl) (by rfl) hHeld (fun _ _ _ h => h) ?_ ?_
        rotate_left
        · intro w' hSw; (try dsimp only at hSw); go_simp <;> with_reducible rfl
        simp only [Act.put, List.setIfInBounds_toArray, List.set_cons_zero, List.set_cons_succ]
        refine heldTake 15 (some 165) (v := ?_) rfl rfl (by kernel_rfl) (by kernel_rfl) (by kernel_rfl) (by rfl) hHeld (fun _ _ _ h => h) ?_ ?_
        rotate_left
        · intro w' hSw; (try dsimp only at hSw); have q0 := (hSw.cell (p := ⟨XB, 0, none⟩) (show XB < w8.heap.size by omega)).trans p0; have q1 := (hSw.cell (p := ⟨XB, 1, none⟩) (show XB < w8.heap.size by omega)).trans p1; go_simp <;> with_reducible rfl
        simp only [Act.put, List.setIfInBounds_toArray, List.set_cons_zero, List.set_cons_succ]
        refine heldTake 16 (some 166) (v := ?_) rfl rfl (by kernel_rfl) (by kernel_rfl) (by kernel_rfl) (by rfl) hHeld (fun _ _ _ h => h) ?_ ?_
        rotate_left
        · intro w' hSw; (try dsimp only at hSw); have q0 := (hSw.cell (p := ⟨LB, 0, none⟩) (show LB < w8.heap.size by omega)).trans p2; go_simp <;> with_reducible rfl
        simp only [Act.put, List.setIfInBounds_toArray, List.set_cons_zero, List.set_cons_succ]
        refine heldCall 14 (some 164) (f := ?_) (args := ?_) rfl rfl (by kernel_rfl) (by rfl) ?_ ?_
        rotate_left 2
        · go_simp <;> first | (constructor <;> with_reducible rfl) | with_reducible rfl
        (with_reducible refine (wsize_any L D nm _ _ z2 (hLog9.below hbz2)).mono ?_)
        rintro e z2' ⟨rfl, rfl⟩
        refine ⟨_, rfl, keepAnd ?_ (fun hNew => ?_)⟩
        · exact hbz2
        clear hHeld
        have hHeld := hNew
        clear hNew
        simp only [Act.put, List.setIfInBounds_toArray, List.set_cons_zero, List.set_cons_succ]
        refine heldCall 17 (some 167) (f := ?_) (args := ?_) rfl rfl (by kernel_rfl) (by rfl) ?_ ?_
        rotate_left 2
        · go_simp <;> first | (constructor <;> with_reducible rfl) | with_reducible rfl
        (with_reducible refine (CSZ.out z2 hbz2).mono ?_)
        rintro e z3 ⟨rfl, hb3⟩
        have hbz3 : Below w8.heap.size w8 z3 := hbz2.trans (hb3.mono hsz2)
        have hsz3 := hbz3.size
        refine ⟨_, rfl, keepAnd ?_ (fun hNew => ?_)⟩
        · exact hbz3
        clear hHeld
        have hHeld := hNew
        clear hNew
        simp only [Act.put, List.setIfInBounds_toArray, List.set_cons_zero, List.set_cons_succ]
        refine heldTake 18 (some 168) (v := ?_) rfl rfl (by kernel_rfl) (by kernel_rfl) (by kernel_rfl) (by rfl) hHeld (fun _ _ _ h => h) ?_ ?_
        rotate_left
        · intro w' hSw; (try dsimp only at hSw); go_simp <;> with_reducible rfl
        simp only [Act.put, List.setIfInBounds_toArray, List.set_cons_zero, List.set_cons_succ]
        refine heldTake 19 (some 169) (v := ?_) rfl rfl (by kernel_rfl) (by kernel_rfl) (by kernel_rfl) (by rfl) hHeld (fun _ _ _ h => h) ?_ ?_
        rotate_left
        · intro w' hSw; (try dsimp only at hSw); go_simp <;> with_reducible rfl
        simp only [Act.put, List.setIfInBounds_toArray, List.set_cons_zero, List.set_cons_succ]
        refine heldTake 20 (some 170) (v := ?_) rfl rfl (by kernel_rfl) (by kernel_rfl) (by kernel_rfl) (by rfl) hHeld (fun _ _ _ h => h) ?_ ?_
        rotate_left
        · intro w' hSw; (try dsimp only at hSw); go_simp <;> with_reducible rfl
        simp only [Act.put, List.setIfInBounds_toArray, List.set_cons_zero, List.set_cons_succ]
        refine heldTake 21 (some 171) (v := ?_) rfl rfl (by kernel_rfl) (by kernel_rfl) (by kernel_rfl) (by rfl) hHeld (fun _ _ _ h => h) ?_ ?_
        rotate_left
        · intro w' hSw; (try dsimp only at hSw); go_simp <;> with_reducible rfl
        simp only [Act.put, List.setIfInBounds_toArray, List.set_cons_zero, List.set_cons_succ]
        refine heldTake 23 (some 173) (v := ?_) rfl rfl (by kernel_rfl) (by kernel_rfl) (by kernel_rfl) (by rfl) hHeld (fun _ _ _ h => h) ?_ ?_
        rotate_left
        · intro w' hSw; (try dsimp only at hSw); go_simp <;> with_reducible rfl
        simp only [Act.put, List.setIfInBounds_toArray, List.set_cons_zero, List.set_cons_succ]
        refine heldCall 22 (some 172) (f := ?_) (args := ?_) rfl rfl (by kernel_rfl) (by rfl) ?_ ?_
        rotate_left 2
        · go_simp <;> first | (constructor <;> with_reducible rfl) | with_reducible rfl
        (with_reducible refine (wname_any L D nm _ _ z3 (hLog9.below hbz3)).mono ?_)
        rintro e z3' ⟨rfl, rfl⟩
        refine ⟨_, rfl, keepAnd ?_ (fun hNew => ?_)⟩
        · exact hbz3
        clear hHeld
        have hHeld := hNew
        clear hNew
        simp only [Act.put, List.setIfInBounds_toArray, List.set_cons_zero, List.set_cons_succ]
        refine heldTake 24 (some 174) (v := ?_) rfl rfl (by kernel_rfl) (by kernel_rfl) (by kernel_rfl) (by rfl) hHeld (fun _ _ _ h => h) ?_ ?_
        rotate_left
        · intro w' hSw; (try dsimp only at hSw); go_simp <;> with_reducible rfl
        simp only [Act.put, List.setIfInBounds_toArray, List.set_cons_zero, List.set_cons_succ]
        refine heldTake 25 (some 175) (v := ?_) rfl rfl (by kernel_rfl) (by kernel_rfl) (by kernel_rfl) (by rfl) hHeld (fun _ _ _ h => h) ?_ ?_
        rotate_left
        · intro w' hSw; (try dsimp only at hSw); go_simp <;> with_reducible rfl
        simp only [Act.put, List.setIfInBounds_toArray, List.set_cons_zero, List.set_cons_succ]
        refine wpAnyH_done (by kernel_rfl) ?_ _
        refine NoPanic.normal ?_
        go_wp2_with fail
        go_roundw
        case rel =>
          refine ⟨j + 1, L, by omega, by go_num, rfl, ?_, hW8r.trans (hbz3.mono hB8r), by omega⟩
          rw [HZ2.out, HC2.out]
          have := hAt8.below hB8r hbz3
          exact HMONO.out _ this
        case measure => simp [intOf]; omega
      have ka : (kd == 0) = false := by simp; omega
      have kb : (kd == 1) = false := by simp; omega
      have CC := Lib.hid (dcrash_any B Zj D P fm os kp tn Wa hBa hDa (by omega))
      go_wp2_with fail
      rw [← HWa.out]
      (with_reducible refine CC.out.mono ?_)
      rintro e w5 ⟨u5, rfl, hD5, hC5⟩
      clear CC
      have hs5 := hC5.size
      have hB5 : B ≤ w5.heap.size := by omega
      have hC5' : Chg (fun b => b = D ∨ some b = P) Wa w5 := hC5.mono (fun _ h => .inl h)
      have hF5 := hFa.chg hBa hC5' hDa.br hDa.fr34
      have hO5 := hOa.chg hBa hC5' hDa.br hDa.dor
      have hX5 := (hC5'.block XB (by omega) (hDa.not_log hXa (by decide) (by decide))).trans hXa
      have hLB5 := (hC5'.block LB (by omega) (hDa.not_log hLa (by decide) (by decide))).trans hLa
      have hrO5 := (hC5'.block OB (by omega) (hDa.not_log hrO (by decide) (by decide))).trans hrO
      have hW5 := hWa'.trans (hC5'.below hBa (fun i hi => hDa.ge hi))
      have hcl : ((viewF (viewF fm (crashOps os kp tn)) [] nm).getD []).length ≤ C := by
        have h1 := crash_len (fm := fm) hA kp tn
        rw [HVW.out, frs_length] at h1
        exact Nat.le_trans h1 hCs
      have HIC := Lib.hid (hI.view (hK.crash kp tn))
      have hzc := (hz.crash kp tn).view
      have HCRC := Lib.hid (fun (wk : World) (h1 : B ≤ wk.heap.size) (h2 : FlsRd B wk (.slice A7 fl3.length c7) fl3) (h3 : DosRd B wk (.slice A8 os.length c8) os) => rcrash_any B Zj _ _ fl3 os kp tn wk h1 h2 h3 hz (by omega))
      have CO := Lib.hid (wopen_fine B Zj D none (viewF fm (crashOps os kp tn)) [] nm w5 hB5 hD5 hw (by omega))
      have HA1 := (open_again (viewF fm (crashOps os kp tn)) nm).1
      have HOF := Lib.hid (open_frs (viewF fm (crashOps os kp tn)) nm)
      have HCRO := Lib.hid (fun (wk : World) (lv ov : Value) (h1 : B ≤ wk.heap.size) (h2 : FlsRd B wk lv (viewL fl3 (crashOps os kp tn))) (h3 : DosRd B wk ov []) => ropen_ok B Zj lv ov _ _ [] nm wk h1 h2 h3 HIC.out trivial hzc (by omega) hw)
      generalize viewL fl3 (crashOps os kp tn) = flc at *
      generalize viewF fm (crashOps os kp tn) = fmc at *
      generalize ((viewF fmc [] nm).getD []).length = bn' at *
      generalize (scanF ((viewF fmc [] nm).getD [])).1 = recs6 at *
      generalize openD fmc [] nm = od at *
      obtain ⟨fm6, os6⟩ := od
      obtain rfl : os6 = [] := HA1
      clear HVW hRs hA
      go_wp2_with fail
      (with_reducible refine CO.out.mono ?_)
      rintro e w6 ⟨L6, v6, P6, rfl, hL6, hLog6, hR6, hD6, hP6, hC6⟩
      clear CO
      have hP6' : P6 = none := by rcases hP6 with h | h <;> exact h
      subst hP6'
      have hD6 : DiskAt B (Zj + bn' + 3) w6 D none fm6 [] := hD6
      have hs6 := hC6.size
      have hB6 : B ≤ w6.heap.size := by omega
      have hW6 : Below B w w6 := hW5.trans (hC6.below hB5 (fun i hi => hD5.ge hi))
      have hF6 := hF5.chg hB5 hC6 hD5.br hD5.fr34
      have hO6 := hO5.chg hB5 hC6 hD5.br hD5.dor
      have hX6 := (hC6.block XB (by have := (Array.getElem?_eq_some_iff.1 hX5).1; omega) (hD5.not_log hX5 (by decide) (by decide))).trans hX5
      have hLB6 := (hC6.block LB (by have := (Array.getElem?_eq_some_iff.1 hLB5).1; omega) (hD5.not_log hLB5 (by decide) (by decide))).trans hLB5
      have hrO6 := (hC6.block OB (by have := (Array.getElem?_eq_some_iff.1 hrO5).1; omega) (hD5.not_log hrO5 (by decide) (by decide))).trans hrO5
      have y0' : w6.cell? ⟨XB, 0, none⟩ = some (.slice A7 fl3.length c7) := cell_of_row _ _ 0 _ _ _ hX6
      have y1' : w6.cell? ⟨XB, 1, none⟩ = some (.slice A8 os.length c8) := cell_of_row _ _ 1 _ _ _ hX6
      have y2' : w6.cell? ⟨OB, 2, none⟩ = some (.int .i64 kp) := cell_of_row _ _ 2 _ _ _ hrO6
      have y3' : w6.cell? ⟨OB, 3, none⟩ = some (.int .i64 tn) := cell_of_row _ _ 3 _ _ _ hrO6
      obtain ⟨A6, c6, rfl, r1, r2, r3⟩ := hR6.open_
      have HR3' := Lib.hid r3
      clear r3 hD5 hC6 hC5 hC5' hF5 hO5 hX5 hLB5 hrO5 hP6
      have CRC := Lib.hid (HCRC.out w6 hB6 hF6 hO6)
      clear HCRC hF6 hO6
      go_wp2_with fail
      (with_reducible refine CRC.out.mono ?_)
      rintro e w7 ⟨l7, o7, rfl, hl7, ho7, hb7⟩
      clear CRC
      have hs7 := hb7.size
      have hB7 : B ≤ w7.heap.size := by omega
      obtain ⟨A7', c7', rfl, p1, p2, p3⟩ := hl7.open_
      obtain ⟨B7', d7', rfl, q1, q2, q3⟩ := ho7.open_
      have HP3' := Lib.hid p3
      have HQ3' := Lib.hid q3
      clear p3 q3
      simp only [List.length_nil] at *
      have CRO := Lib.hid (HCRO.out w7 _ _ hB7 hl7 ho7)
      clear HCRO
      go_wp2_with fail
      (with_reducible refine CRO.out.mono ?_)
      rintro e w9 ⟨l9, o9, v9, fl9', rfl, hl9, ho9, hI9', hK9', hz9', hR9, hb9⟩
      clear CRO
      have hs9 := hb9.size
      have hB9 : B ≤ w9.heap.size := by omega
      obtain ⟨A9', c9', rfl, u1, u2, u3⟩ := hl9.open_
      obtain ⟨B9', d9', rfl, t1, t2, t3⟩ := ho9.open_
      obtain ⟨E9, e9, rfl, s1', s2', s3'⟩ := hR9.open_
      have HU3 := Lib.hid u3
      have HT3 := Lib.hid t3
      have HS3' := Lib.hid s3'
      clear u3 t3 s3'
      simp only [List.length_nil] at *
      have hb79 : Below w6.heap.size w6 w9 := hb7.trans (hb9.mono hs7)
      have hX9' := (hb79.block XB (by have := (Array.getElem?_eq_some_iff.1 hX6).1; omega)).trans hX6
      have hLB9' := (hb79.block LB (by have := (Array.getElem?_eq_some_iff.1 hLB6).1; omega)).trans hLB6
      have hD9' := hD6.below hB6 hb79
      have hLog9' := hLog6.below hb79
      have hR69 := hR6.below hB6 hb79
      obtain ⟨W9, hW9e⟩ : ∃ W, W = (w9.alloc (.cells #[.slice A9' fl9'.length c9', .slice B9' 0 d9'] 49)).alloc (.cells #[.string (strB nm)] 64) := ⟨_, rfl⟩
      have hbW9 : Below w9.heap.size w9 W9 := by rw [hW9e]; exact (Below.of_alloc _).trans ((Below.of_alloc _).mono (by simp))
      have hsW9 : W9.heap.size = w9.heap.size + 2 := by rw [hW9e]; simp
      have hrY : W9.heap[w9.heap.size]? = some (.cells #[.slice A9' fl9'.length c9', .slice B9' 0 d9'] 49 (0, 0)) := by
        rw [hW9e, Below.heap_alloc _ _ _ (by simp)]; exact heap_alloc_new w9 _
      have hrM : W9.heap[w9.heap.size + 1]? = some (.cells #[.string (strB nm)] 64 (0, 0)) := by
        have := heap_alloc_new (w9.alloc (.cells #[.slice A9' fl9'.length c9', .slice B9' 0 d9'] 49)) (.cells #[.string (strB nm)] 64)
        rw [hW9e]; simpa using this
      obtain ⟨V, hV⟩ : ∃ V, V = W9.drew := ⟨_, rfl⟩
      have hbV : Below w9.heap.size w9 V := by rw [hV]; exact hbW9.drew
      have hsV : V.heap.size = w9.heap.size + 2 := by rw [hV]; exact hsW9
      have f0 : V.cell? ⟨w9.heap.size, 0, none⟩ = some (.slice A9' fl9'.length c9') := by rw [hV]; exact cell_of_row W9 _ 0 _ _ _ hrY
      have f1 : V.cell? ⟨w9.heap.size, 1, none⟩ = some (.slice B9' 0 d9') := by rw [hV]; exact cell_of_row W9 _ 1 _ _ _ hrY
      have f2 : V.cell? ⟨w9.heap.size + 1, 0, none⟩ = some (.string (strB nm)) := by rw [hV]; exact cell_of_row W9 _ 0 _ _ _ hrM
      have hXV := (hbV.block XB (by have := (Array.getElem?_eq_some_iff.1 hX9').1; omega)).trans hX9'
      have hLBV := (hbV.block LB (by have := (Array.getElem?_eq_some_iff.1 hLB9').1; omega)).trans hLB9'
      have hXl9 := (Array.getElem?_eq_some_iff.1 hX9').1
      have hLl9 := (Array.getElem?_eq_some_iff.1 hLB9').1
      have hBV : B ≤ V.heap.size := by omega
      obtain ⟨q0, q1, q2, q3, q6, q4, q5, hCV1⟩ := two_store V XB (.slice A7 fl3.length c7) (.slice A8 os.length c8) (.slice A9' fl9'.length c9') (.slice B9' 0 d9') _ hXV
      have hLBV1 := (hCV1.block LB (by omega) (by rintro rfl; rw [hXV] at hLBV; simp at hLBV)).trans hLBV
      obtain ⟨m0, m1, m2, m3, hCV2⟩ := one_store ((V.setCell ⟨XB, 0, none⟩ (.slice A9' fl9'.length c9')).setCell ⟨XB, 1, none⟩ (.slice B9' 0 d9')) LB (.string (strB nm)) (.string (strB nm)) _ hLBV1
      have hsV1 := hCV1.size
      have hsV2 := hCV2.size
      have hXV2 := (hCV2.block XB (by omega) (by rintro rfl; rw [hLBV1] at q6; simp at q6)).trans q6
      have hDV := hD9'.below hB9 hbV
      have hDV1 := hDV.keep hBV hCV1 (fun b hb => by subst hb; exact ⟨hBX, _, _, _, hXV, by decide, by decide, by decide⟩)
      have hDV2 := hDV1.keep (by omega) hCV2 (fun b hb => by subst hb; exact ⟨hBL, _, _, _, hLBV1, by decide, by decide, by decide⟩)
      have hlV := ((hl9.below hB9 hbV).box hBV hBX hXV hCV1).boxL (by omega) hBL hLBV1 hCV2
      have hoV := ((ho9.below hB9 hbV).box hBV hBX hXV hCV1).boxL (by omega) hBL hLBV1 hCV2
      have hRV := ((hR9.below hB9 hbV).box hBV hBX hXV (by decide) (by decide) hCV1).box (by omega) hBL hLBV1 (by decide) (by decide) hCV2
      have hRW := ((hR69.below hB9 hbV).box hBV hBX hXV (by decide) (by decide) hCV1).box (by omega) hBL hLBV1 (by decide) (by decide) hCV2
      have hLogV := hLog9'.below hbV
      have hLogV1 := hLogV.chg hCV1 (by rintro rfl; unfold LogIs at hLogV; rw [hXV] at hLogV; simp only [Option.some.injEq, Obj.cells.injEq] at hLogV; exact absurd hLogV.2.1 (by decide))
      have hLogV2 := hLogV1.chg hCV2 (by rintro rfl; unfold LogIs at hLogV1; rw [hLBV1] at hLogV1; simp only [Option.some.injEq, Obj.cells.injEq] at hLogV1; exact absurd hLogV1.2.1 (by decide))
      have hWV : Below B w (((V.setCell ⟨XB, 0, none⟩ (.slice A9' fl9'.length c9')).setCell ⟨XB, 1, none⟩ (.slice B9' 0 d9')).setCell ⟨LB, 0, none⟩ (.string (strB nm))) := (((hW6.trans (hb79.mono hB6)).trans (hbV.mono hB9)).trans (hCV1.below hBV (fun i hi => by omega))).trans (hCV2.below (by omega) (fun i hi => by omega))
      have HW9 := Lib.hid hW9e
      have hBV2 : B ≤ (((V.setCell ⟨XB, 0, none⟩ (.slice A9' fl9'.length c9')).setCell ⟨XB, 1, none⟩ (.slice B9' 0 d9')).setCell ⟨LB, 0, none⟩ (.string (strB nm))).heap.size := by omega
      clear hW9e
      obtain ⟨Z8, hZ8⟩ : ∃ z, z = Zj + bn' + 3 := ⟨_, rfl⟩
      have hZ8b : Z8 ≤ 250000 := by omega
      have hAtV : ActsAt B Z8 C D nm XB LB L6 (((V.setCell ⟨XB, 0, none⟩ (.slice A9' fl9'.length c9')).setCell ⟨XB, 1, none⟩ (.slice B9' 0 d9')).setCell ⟨LB, 0, none⟩ (.string (strB nm))) := by
        rw [hZ8]
        exact ⟨fm6, [], fl9', recs6, none, _, _, hXV2, m3, hDV2, hlV, hoV, hI9', hK9', hz9', hLogV2, by omega, (fun o ho => by cases ho), HOF.out.1, HOF.out.2.1, by have := HOF.out.2.2; omega⟩
      have hMono : ∀ wk, ActsAt B Z8 C D nm XB LB L6 wk → ActsAt B (Zj + 5000) (C + dt.length + 8) D nm XB LB L6 wk := fun wk h => h.mono (by omega) (by omega)
      have HMONO := Lib.hid hMono
      clear hMono hZ8 hLogV2 hLogV1 hLogV hoV hlV hDV2 hDV1 hDV hXV2 m3 HOF hD9' hLog9' hR69 hl9 ho9 hR9 hl7 ho7 hD6 hLog6 hR6 hb79 hb7 hb9 hX6 hLB6 hrO6 hX9' hLB9' hbW9 q6 q4 q5 m2 y0' y1' y2' y3' hzc HIC hI9' hK9' hz9'
      go_wp2_with fail
      rw [← HW9.out]
      refine wp_region_noPanic ?_
      refine beginT (S := (fun w' => w'.heap[w9.heap.size]? = V.heap[w9.heap.size]? ∧ w'.heap[w9.heap.size + 1]? = V.heap[w9.heap.size + 1]?)) 5 (by kernel_rfl) ?_ (fun hHeld => ?_)
      · exact ⟨by rw [hV], by rw [hV]⟩
      rw [← hV] at hHeld ⊢
      clear hV
      refine takeT 0 (some 112) (v := ?_) rfl rfl (by kernel_rfl) (by kernel_rfl) (by kernel_rfl) (by kernel_rfl) (by rfl) hHeld (fun _ _ _ h => h) ?_ ?_
      rotate_left
      · intro w' hSw; (try dsimp only at hSw); have q0 := (World.cell?_of_block (w := V) (a := ⟨w9.heap.size, 0, none⟩) hSw.1).trans f0; have q1 := (World.cell?_of_block (w := V) (a := ⟨w9.heap.size, 1, none⟩) hSw.1).trans f1; go_simp <;> with_reducible rfl
      simp only [Act.put, List.setIfInBounds_toArray, List.set_cons_zero, List.set_cons_succ]
      refine takeT 1 (some 113) (v := ?_) rfl rfl (by kernel_rfl) (by kernel_rfl) (by kernel_rfl) (by kernel_rfl) (by rfl) hHeld (fun _ _ _ h => h) ?_ ?_
      rotate_left
      · intro w' hSw; (try dsimp only at hSw); have q0 := (World.cell?_of_block (w := V) (a := ⟨w9.heap.size + 1, 0, none⟩) hSw.2).trans f2; go_simp <;> with_reducible rfl
      simp only [Act.put, List.setIfInBounds_toArray, List.set_cons_zero, List.set_cons_succ]
      refine takeT 2 (some 114) (v := ?_) rfl rfl (by kernel_rfl) (by kernel_rfl) (by kernel_rfl) (by kernel_rfl) (by rfl) hHeld (fun _ _ _ h => h) ?_ ?_
      rotate_left
      · intro w' hSw; (try dsimp only at hSw); go_simp <;> with_reducible rfl
      simp only [Act.put, List.setIfInBounds_toArray, List.set_cons_zero, List.set_cons_succ]
      have hNew : (fun w' => w'.heap[w9.heap.size]? = V.heap[w9.heap.size]? ∧ w'.heap[w9.heap.size + 1]? = V.heap[w9.heap.size + 1]?) (((V.setCell ⟨XB, 0, none⟩ (.slice A9' fl9'.length c9')).setCell ⟨XB, 1, none⟩ (.slice B9' 0 d9'))) := by exact ⟨hCV1.block _ (by omega) (by omega), hCV1.block _ (by omega) (by omega)⟩
      refine skipRunT 3 none (w' := ((V.setCell ⟨XB, 0, none⟩ (.slice A9' fl9'.length c9')).setCell ⟨XB, 1, none⟩ (.slice B9' 0 d9'))) rfl rfl (by kernel_rfl) (by rfl) ?_ (fun _ => hNew) ?_
      · go_simp <;> with_reducible rfl
      clear hHeld
      have hHeld := hNew
      clear hNew
      simp only [Act.put]
      have hNew : (fun w' => w'.heap[w9.heap.size]? = V.heap[w9.heap.size]? ∧ w'.heap[w9.heap.size + 1]? = V.heap[w9.heap.size + 1]?) ((((V.setCell ⟨XB, 0, none⟩ (.slice A9' fl9'.length c9')).setCell ⟨XB, 1, none⟩ (.slice B9' 0 d9')).setCell ⟨LB, 0, none⟩ (.string (strB nm)))) := by exact ⟨(hCV2.block _ (by omega) (by omega)).trans (hCV1.block _ (by omega) (by omega)), (hCV2.block _ (by omega) (by omega)).trans (hCV1.block _ (by omega) (by omega))⟩
      refine skipRunT 4 none (w' := (((V.setCell ⟨XB, 0, none⟩ (.slice A9' fl9'.length c9')).setCell ⟨XB, 1, none⟩ (.slice B9' 0 d9')).setCell ⟨LB, 0, none⟩ (.string (strB nm)))) rfl rfl (by kernel_rfl) (by rfl) ?_ (fun _ => hNew) ?_
      · go_simp <;> with_reducible rfl
      clear hHeld
      have hHeld := hNew
      clear hNew
      simp only [Act.put]
      refine runT 5 (some 10) (v := ?_) (w' := _) rfl rfl (by kernel_rfl) (by rfl) ?_ (fun _ => hHeld) ?_
      rotate_left
      · go_simp <;> with_reducible rfl
      simp only [Act.put, List.setIfInBounds_toArray, List.set_cons_zero, List.set_cons_succ]
      refine doneT (by kernel_rfl) ?_ _
      refine NoPanic.normal ?_
      obtain ⟨V2, hV2⟩ : ∃ W, W = (((V.setCell ⟨XB, 0, none⟩ (.slice A9' fl9'.length c9')).setCell ⟨XB, 1, none⟩ (.slice B9' 0 d9')).setCell ⟨LB, 0, none⟩ (.string (strB nm))) := ⟨_, rfl⟩
      rw [← hV2] at hAtV hWV hBV2 hRV hRW
      have HV2 := Lib.hid hV2
      clear hV2
      go_wp2_with fail
      rw [← HV2.out]
      (with_reducible refine (lists_any B _ _ recs6 recs6 V2 hBV2 hRW hRV).mono ?_)
      rintro e w8 ⟨he, hb8⟩
      rw [show decide (recs6 = recs6) = true from by simp] at he
      subst he
      have hAt8 := hAtV.below hBV2 hb8
      have hW8r := hWV.trans (hb8.mono hBV2)
      have hB8r : B ≤ w8.heap.size := by have := hb8.size; omega
      clear hRV hRW hAtV q0 q1 q2 q3 m0 m1 f0 f1 f2
      obtain ⟨fm9, os9, fl9, recs9, P9, lv9, ov9, hX9, hLB9, hD9, hF9, hO9, hI9, hK9, hz9, hLog9, hBL9, hA9, hVw9, hRs9, hCs9⟩ := id hAt8
      have HVW9 := Lib.hid hVw9
      clear hVw9 hA9
      obtain ⟨A9, c9, rfl, i9, j9, n9⟩ := hF9.open_
      obtain ⟨B9, d9, rfl, i9', j9', n9'⟩ := hO9.open_
      have HN9 := Lib.hid n9
      have HN9' := Lib.hid n9'
      clear n9 n9'
      have hX9l := (Array.getElem?_eq_some_iff.1 hX9).1
      have hL9l := (Array.getElem?_eq_some_iff.1 hLB9).1
      have p0 : w8.cell? ⟨XB, 0, none⟩ = some (.slice A9 fl9.length c9) := cell_of_row _ _ 0 _ _ _ hX9
      have p1 : w8.cell? ⟨XB, 1, none⟩ = some (.slice B9 os9.length d9) := cell_of_row _ _ 1 _ _ _ hX9
      have p2 : w8.cell? ⟨LB, 0, none⟩ = some (.string (strB nm)) := cell_of_row _ _ 0 _ _ _ hLB9
      have hBo9 : Both B Z8 w8 D P9 (.slice A9 fl9.length c9) (.slice B9 os9.length d9) := ⟨fm9, os9, fl9, hD9, hF9, hO9, hI9, hK9, hz9⟩
      have HIV9 : Hid (lookL (viewL fl9 os9) nm = viewF fm9 os9 nm) := Lib.hid ((hI9.view hK9).2 nm)
      have HLN9 : Hid ((scanF ((lookL (viewL fl9 os9) nm).getD [])).1.length = recs9.length) := Lib.hid (by
        rw [HIV9.out, HVW9.out]
        have := scanF_frames recs9 [] hRs9 (by simp)
        rw [List.append_nil] at this
        rw [this])
      have HSZ9 : Hid (((lookL (viewL fl9 os9) nm).getD []).length = fsum recs9) := Lib.hid (by rw [HIV9.out, HVW9.out, frs_length])
      have hLn9 : ((lookL (viewL fl9 os9) nm).getD []).length ≤ 1099511627776 := by rw [HSZ9.out]; omega
      have CLN := Lib.hid (fun (wk : World) (hb : Below w8.heap.size w8 wk) => r36len_any B Z8 _ _ fl9 os9 nm wk (by have := hb.size; omega) (hF9.below hB8r hb) (hO9.below hB8r hb) hz9 (by omega) hLn9)
      have CSZ := Lib.hid (fun (wk : World) (hb : Below w8.heap.size w8 wk) => r36size_any B Z8 _ _ fl9 os9 nm wk (by have := hb.size; omega) (hF9.below hB8r hb) (hO9.below hB8r hb) hz9 (by omega))
      rw [HLN9.out] at CLN
      rw [HSZ9.out] at CSZ
      have hRl9 : recs9.length ≤ 1099511627776 := by have := fsum_ge recs9; omega
      generalize recs9.length = rn9 at *
      generalize fsum recs9 = fs9 at *
      clear hRs9 HIV9 HLN9 HSZ9 HVW9 hX9 hLB9 hLn9 hF9 hO9 hI9 hK9 hz9 hD9
      go_wp2_with fail
      refine wp_region_noPanic ?_
      refine wp_region_held_drew (S := (fun w' => Below w8.heap.size w8 w')) (by kernel_rfl) ?_ (fun hHeld => ?_)
      · exact (Below.refl _ _).drew
      refine heldTake 0 (some 150) (v := ?_) rfl rfl (by kernel_rfl) (by kernel_rfl) (by kernel_rfl) (by rfl) hHeld (fun _ _ _ h => h) ?_ ?_
      rotate_left
      · intro w' hSw; (try dsimp only at hSw); go_simp <;> with_reducible rfl
      simp only [Act.put, List.setIfInBounds_toArray, List.set_cons_zero, List.set_cons_succ]
      refine heldTake 1 (some 151) (v := ?_) rfl rfl (by kernel_rfl) (by kernel_rfl) (by kernel_rfl) (by rfl) hHeld (fun _ _ _ h => h) ?_ ?_
      rotate_left
      · intro w' hSw; (try dsimp only at hSw); have q0 := (hSw.cell (p := ⟨XB, 0, none⟩) (show XB < w8.heap.size by omega)).trans p0; have q1 := (hSw.cell (p := ⟨XB, 1, none⟩) (show XB < w8.heap.size by omega)).trans p1; go_simp <;> with_reducible rfl
      simp only [Act.put, List.setIfInBounds_toArray, List.set_cons_zero, List.set_cons_succ]
      refine heldCall 2 (some 152) (f := ?_) (args := ?_) rfl rfl (by kernel_rfl) (by rfl) ?_ ?_
      rotate_left 2
      · go_simp <;> first | (constructor <;> with_reducible rfl) | with_reducible rfl
      (with_reducible refine (dsame36_any B Z8 D P9 _ _ w8.drew ?_ ?_ (by omega)).mono ?_)
      · exact hB8r
      · exact hBo9.drew
      rintro e z1 ⟨rfl, hb1⟩
      have hbz1 : Below w8.heap.size w8 z1 := Below.undrew hb1
      have hsz1 := hbz1.size
      refine ⟨_, rfl, keepAnd ?_ (fun hNew => ?_)⟩
      · exact hbz1
      clear hHeld
      have hHeld := hNew
      clear hNew
      simp only [Act.put, List.setIfInBounds_toArray, List.set_cons_zero, List.set_cons_succ]
      refine heldTake 3 (some 153) (v := ?_) rfl rfl (by kernel_rfl) (by kernel_rfl) (by kernel_rfl) (by rfl) hHeld (fun _ _ _ h => h) ?_ ?_
      rotate_left
      · intro w' hSw; (try dsimp only at hSw); go_simp <;> with_reducible rfl
      simp only [Act.put, List.setIfInBounds_toArray, List.set_cons_zero, List.set_cons_succ]
      refine heldTake 4 (some 154) (v := ?_) rfl rfl (by kernel_rfl) (by kernel_rfl) (by kernel_rfl) (by rfl) hHeld (fun _ _ _ h => h) ?_ ?_
      rotate_left
      · intro w' hSw; (try dsimp only at hSw); go_simp <;> with_reducible rfl
      simp only [Act.put, List.setIfInBounds_toArray, List.set_cons_zero, List.set_cons_succ]
      refine heldTake 5 (some 155) (v := ?_) rfl rfl (by kernel_rfl) (by kernel_rfl) (by kernel_rfl) (by rfl) hHeld (fun _ _ _ h => h) ?_ ?_
      rotate_left
      · intro w' hSw; (try dsimp only at hSw); go_simp <;> with_reducible rfl
      simp only [Act.put, List.setIfInBounds_toArray, List.set_cons_zero, List.set_cons_succ]
      refine heldTake 7 (some 157) (v := ?_) rfl rfl (by kernel_rfl) (by kernel_rfl) (by kernel_rfl) (by rfl) hHeld (fun _ _ _ h => h) ?_ ?_
      rotate_left
      · intro w' hSw; (try dsimp only at hSw); have q0 := (hSw.cell (p := ⟨XB, 0, none⟩) (show XB < w8.heap.size by omega)).trans p0; have q1 := (hSw.cell (p := ⟨XB, 1, none⟩) (show XB < w8.heap.size by omega)).trans p1; go_simp <;> with_reducible rfl
      simp only [Act.put, List.setIfInBounds_toArray, List.set_cons_zero, List.set_cons_succ]
      refine heldTake 8 (some 158) (v := ?_) rfl rfl (by kernel_rfl) (by kernel_rfl) (by kernel_rfl) (by rfl) hHeld (fun _ _ _ h => h) ?_ ?_
      rotate_left
      · intro w' hSw; (try dsimp only at hSw); have q0 := (hSw.cell (p := ⟨LB, 0, none⟩) (show LB < w8.heap.size by omega)).trans p2; go_simp <;> with_reducible rfl
      simp only [Act.put, List.setIfInBounds_toArray, List.set_cons_zero, List.set_cons_succ]
      refine heldCall 6 (some 156) (f := ?_) (args := ?_) rfl rfl (by kernel_rfl) (by rfl) ?_ ?_
      rotate_left 2
      · go_simp <;> first | (constructor <;> with_reducible rfl) | with_reducible rfl
      (with_reducible refine (wlen_any L6 D nm _ _ z1 (hLog9.below hbz1)).mono ?_)
      rintro e z1' ⟨rfl, rfl⟩
      refine ⟨_, rfl, keepAnd ?_ (fun hNew => ?_)⟩
      · exact hbz1
      clear hHeld
      have hHeld := hNew
      clear hNew
      simp only [Act.put, List.setIfInBounds_toArray, List.set_cons_zero, List.set_cons_succ]
      refine heldCall 9 (some 159) (f := ?_) (args := ?_) rfl rfl (by kernel_rfl) (by rfl) ?_ ?_
      rotate_left 2
      · go_simp <;> first | (constructor <;> with_reducible rfl) | with_reducible rfl
      (with_reducible refine (CLN.out z1 hbz1).mono ?_)
      rintro e z2 ⟨rfl, hb2⟩
      have hbz2 : Below w8.heap.size w8 z2 := hbz1.trans (hb2.mono hsz1)
      have hsz2 := hbz2.size
      refine ⟨_, rfl, keepAnd ?_ (fun hNew => ?_)⟩
      · exact hbz2
      clear hHeld
      have hHeld := hNew
      clear hNew
      simp only [Act.put, List.setIfInBounds_toArray, List.set_cons_zero, List.set_cons_succ]
      refine heldTake 10 (some 160) (v := ?_) rfl rfl (by kernel_rfl) (by kernel_rfl) (by kernel_rfl) (by rfl) hHeld (fun _ _ _ h => h) ?_ ?_
      rotate_left
      · intro w' hSw; (try dsimp only at hSw); go_simp <;> with_reducible rfl
      simp only [Act.put, List.setIfInBounds_toArray, List.set_cons_zero, List.set_cons_succ]
      refine heldTake 11 (some 161) (v := ?_) rfl rfl (by kernel_rfl) (by kernel_rfl) (by kernel_rfl) (by rfl) hHeld (fun _ _ _ h => h) ?_ ?_
      rotate_left
      · intro w' hSw; (try dsimp only at hSw); go_simp <;> with_reducible rfl
      simp only [Act.put, List.setIfInBounds_toArray, List.set_cons_zero, List.set_cons_succ]
      refine heldTake 12 (some 162) (v := ?_) rfl rfl (by kernel_rfl) (by kernel_rfl) (by kernel_rfl) (by rfl) hHeld (fun _ _ _ h => h) ?_ ?_
      rotate_left
      · intro w' hSw; (try dsimp only at hSw); go_simp <;> with_reducible rfl
      simp only [Act.put, List.setIfInBounds_toArray, List.set_cons_zero, List.set_cons_succ]
      refine heldTake 13 (some 163) (v := ?_) rfl rfl (by kernel_rfl) (by kernel_rfl) (by kernel_rfl) (by rfl) hHeld (fun _ _ _ h => h) ?_ ?_
      rotate_left
      · intro w' hSw; (try dsimp only at hSw); go_simp <;> with_reducible rfl
      simp only [Act.put, List.setIfInBounds_toArray, List.set_cons_zero, List.set_cons_succ]
      refine heldTake 15 (some 165) (v := ?_) rfl rfl (by kernel_rfl) (by kernel_rfl) (by kernel_rfl) (by rfl) hHeld (fun _ _ _ h => h) ?_ ?_
      rotate_left
      · intro w' hSw; (try dsimp only at hSw); have q0 := (hSw.cell (p := ⟨XB, 0, none⟩) (show XB < w8.heap.size by omega)).trans p0; have q1 := (hSw.cell (p := ⟨XB, 1, none⟩) (show XB < w8.heap.size by omega)).trans p1; go_simp <;> with_reducible rfl
      simp only [Act.put, List.setIfInBounds_toArray, List.set_cons_zero, List.set_cons_succ]
      refine heldTake 16 (some 166) (v := ?_) rfl rfl (by kernel_rfl) (by kernel_rfl) (by kernel_rfl) (by rfl) hHeld (fun _ _ _ h => h) ?_ ?_
      rotate_left
      · intro w' hSw; (try dsimp only at hSw); have q0 := (hSw.cell (p := ⟨LB, 0, none⟩) (show LB < w8.heap.size by omega)).trans p2; go_simp <;> with_reducible rfl
      simp only [Act.put, List.setIfInBounds_toArray, List.set_cons_zero, List.set_cons_succ]
      refine heldCall 14 (some 164) (f := ?_) (args := ?_) rfl rfl (by kernel_rfl) (by rfl) ?_ ?_
      rotate_left 2
      · go_simp <;> first | (constructor <;> with_reducible rfl) | with_reducible rfl
      (with_reducible refine (wsize_any L6 D nm _ _ z2 (hLog9.below hbz2)).mono ?_)
      rintro e z2' ⟨rfl, rfl⟩
      refine ⟨_, rfl, keepAnd ?_ (fun hNew => ?_)⟩
      · exact hbz2
      clear hHeld
      have hHeld := hNew
      clear hNew
      simp only [Act.put, List.setIfInBounds_toArray, List.set_cons_zero, List.set_cons_succ]
      refine heldCall 17 (some 167) (f := ?_) (args := ?_) rfl rfl (by kernel_rfl) (by rfl) ?_ ?_
      rotate_left 2
      · go_simp <;> first | (constructor <;> with_reducible rfl) | with_reducible rfl
      (with_reducible refine (CSZ.out z2 hbz2).mono ?_)
      rintro e z3 ⟨rfl, hb3⟩
      have hbz3 : Below w8.heap.size w8 z3 := hbz2.trans (hb3.mono hsz2)
      have hsz3 := hbz3.size
      refine ⟨_, rfl, keepAnd ?_ (fun hNew => ?_)⟩
      · exact hbz3
      clear hHeld
      have hHeld := hNew
      clear hNew
      simp only [Act.put, List.setIfInBounds_toArray, List.set_cons_zero, List.set_cons_succ]
      refine heldTake 18 (some 168) (v := ?_) rfl rfl (by kernel_rfl) (by kernel_rfl) (by kernel_rfl) (by rfl) hHeld (fun _ _ _ h => h) ?_ ?_
      rotate_left
      · intro w' hSw; (try dsimp only at hSw); go_simp <;> with_reducible rfl
      simp only [Act.put, List.setIfInBounds_toArray, List.set_cons_zero, List.set_cons_succ]
      refine heldTake 19 (some 169) (v := ?_) rfl rfl (by kernel_rfl) (by kernel_rfl) (by kernel_rfl) (by rfl) hHeld (fun _ _ _ h => h) ?_ ?_
      rotate_left
      · intro w' hSw; (try dsimp only at hSw); go_simp <;> with_reducible rfl
      simp only [Act.put, List.setIfInBounds_toArray, List.set_cons_zero, List.set_cons_succ]
      refine heldTake 20 (some 170) (v := ?_) rfl rfl (by kernel_rfl) (by kernel_rfl) (by kernel_rfl) (by rfl) hHeld (fun _ _ _ h => h) ?_ ?_
      rotate_left
      · intro w' hSw; (try dsimp only at hSw); go_simp <;> with_reducible rfl
      simp only [Act.put, List.setIfInBounds_toArray, List.set_cons_zero, List.set_cons_succ]
      refine heldTake 21 (some 171) (v := ?_) rfl rfl (by kernel_rfl) (by kernel_rfl) (by kernel_rfl) (by rfl) hHeld (fun _ _ _ h => h) ?_ ?_
      rotate_left
      · intro w' hSw; (try dsimp only at hSw); go_simp <;> with_reducible rfl
      simp only [Act.put, List.setIfInBounds_toArray, List.set_cons_zero, List.set_cons_succ]
      refine heldTake 23 (some 173) (v := ?_) rfl rfl (by kernel_rfl) (by kernel_rfl) (by kernel_rfl) (by rfl) hHeld (fun _ _ _ h => h) ?_ ?_
      rotate_left
      · intro w' hSw; (try dsimp only at hSw); go_simp <;> with_reducible rfl
      simp only [Act.put, List.setIfInBounds_toArray, List.set_cons_zero, List.set_cons_succ]
      refine heldCall 22 (some 172) (f := ?_) (args := ?_) rfl rfl (by kernel_rfl) (by rfl) ?_ ?_
      rotate_left 2
      · go_simp <;> first | (constructor <;> with_reducible rfl) | with_reducible rfl
      (with_reducible refine (wname_any L6 D nm _ _ z3 (hLog9.below hbz3)).mono ?_)
      rintro e z3' ⟨rfl, rfl⟩
      refine ⟨_, rfl, keepAnd ?_ (fun hNew => ?_)⟩
      · exact hbz3
      clear hHeld
      have hHeld := hNew
      clear hNew
      simp only [Act.put, List.setIfInBounds_toArray, List.set_cons_zero, List.set_cons_succ]
      refine heldTake 24 (some 174) (v := ?_) rfl rfl (by kernel_rfl) (by kernel_rfl) (by kernel_rfl) (by rfl) hHeld (fun _ _ _ h => h) ?_ ?_
      rotate_left
      · intro w' hSw; (try dsimp only at hSw); go_simp <;> with_reducible rfl
      simp only [Act.put, List.setIfInBounds_toArray, List.set_cons_zero, List.set_cons_succ]
      refine heldTake 25 (some 175) (v := ?_) rfl rfl (by kernel_rfl) (by kernel_rfl) (by kernel_rfl) (by rfl) hHeld (fun _ _ _ h => h) ?_ ?_
      rotate_left
      · intro w' hSw; (try dsimp only at hSw); go_simp <;> with_reducible rfl
      simp only [Act.put, List.setIfInBounds_toArray, List.set_cons_zero, List.set_cons_succ]
      refine wpAnyH_done (by kernel_rfl) ?_ _
      refine NoPanic.normal ?_
      go_wp2_with fail
      go_roundw
      case rel =>
        refine ⟨j + 1, L6, by omega, by go_num, rfl, ?_, hW8r.trans (hbz3.mono hB8r), by omega⟩
        rw [HZ2.out, HC2.out]
        have := hAt8.below hB8r hbz3
        exact HMONO.out _ this
      case measure => simp [intOf]; omega
    have hje : j = vos.length := by omega
    clear hAtr hje
    go_wp2_with fail
    (with_reducible refine (wworks_any wr).mono ?_)
    rintro e wz ⟨rfl, hbz⟩
    go_wp2_with fail
    go_ret
    exact ⟨rfl, hWr.trans (hbz.mono hBr)⟩
end Go.Proofs.Ytooojgokkigncaa
