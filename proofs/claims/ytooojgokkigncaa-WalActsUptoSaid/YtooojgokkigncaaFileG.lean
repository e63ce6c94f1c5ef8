/-
  The walk of DiskPrefix.
-/
import Derived.Test.YtooojgokkigncaaFile
namespace Go.Proofs.Ytooojgokkigncaa
open Go.RowKit Go.Lib Go.IntWalk

theorem DiskAt.plt {B Z : Nat} {w : World} {D : Nat} {P : Option Nat} {fm : FM} {os : List DOp} (h : DiskAt B Z w D P fm os) : ∀ b, some b = P → b < w.heap.size := by
  obtain ⟨M, n, g, pv, h1, h2, h3, h4, h5, h6, ⟨ps, p1, p2, p3⟩, h8, rfl⟩ := h
  intro b hb
  exact (p2.lt b hb.symm).2
def PrefAt (B Z D U : Nat) (fm : FM) (keep : Int) (os : List DOp) (w : World) : Prop :=
  ∃ P PU, DiskAt B Z w D P fm os ∧ DiskAt B Z w U PU fm (os.take keep.toNat) ∧ (∀ b, some b = PU → ¬ some b = P) ∧ ¬ U = D
theorem PrefAt.skip {B Z Z' D U : Nat} {fm : FM} {keep : Int} {os : List DOp} {w : World} (h : PrefAt B Z D U fm keep os w) (hZ : Z ≤ Z') : PrefAt B Z' D U fm keep os w := by
  obtain ⟨P, PU, h1, h2, h3, h4⟩ := h
  exact ⟨P, PU, h1.mono hZ, h2.mono hZ, h3, h4⟩
theorem PrefAt.below {B Z D U : Nat} {fm : FM} {keep : Int} {os : List DOp} {w w' : World} (h : PrefAt B Z D U fm keep os w) (hB : B ≤ w.heap.size) (hb : Below w.heap.size w w') : PrefAt B Z D U fm keep os w' := by
  obtain ⟨P, PU, h1, h2, h3, h4⟩ := h
  exact ⟨P, PU, h1.below hB hb, h2.below hB hb, h3, h4⟩
theorem ne_new {w : World} {P PU P' : Option Nat} (h : ∀ b, some b = PU → ¬ some b = P) (hl : ∀ b, some b = PU → b < w.heap.size) (hp : P' = P ∨ ∃ p, P' = some p ∧ w.heap.size ≤ p) : ∀ b, some b = PU → ¬ some b = P' := by
  intro b hb e
  rcases hp with rfl | ⟨p, rfl, hp⟩
  · exact h b hb e
  · have := hl b hb; injection e with e; omega
theorem ne_new' {w : World} {P PU P' : Option Nat} (h : ∀ b, some b = PU → ¬ some b = P) (hl : ∀ b, some b = P → b < w.heap.size) (hp : P' = PU ∨ ∃ p, P' = some p ∧ w.heap.size ≤ p) : ∀ b, some b = P' → ¬ some b = P := by
  intro b hb e
  rcases hp with rfl | ⟨p, rfl, hp⟩
  · exact h b hb e
  · have := hl b e; injection hb with hb; omega
theorem take_keep {os : List DOp} {o : DOp} {keep : Int} (h : keep < (os.length : Int) + 1) : (os ++ [o]).take keep.toNat = os.take keep.toNat := by
  rw [List.take_append_of_le_length (by omega)]
theorem take_all {os : List DOp} {keep : Int} (h : ¬ keep < (os.length : Int)) : os.take keep.toNat = os := List.take_of_length_le (by omega)
/-- behind an operation of d alone -/
theorem PrefAt.one {B Z Z' D U : Nat} {fm : FM} {keep : Int} {os : List DOp} {o : DOp} {w w' : World} {P PU : Option Nat} (hB : B ≤ w.heap.size) (h1 : DiskAt B Z w D P fm os) (h2 : DiskAt B Z w U PU fm (os.take keep.toNat)) (h3 : ∀ b, some b = PU → ¬ some b = P) (h4 : ¬ U = D)
    (hp : DPush B Z' D P fm (os ++ [o]) w w') (hZ : Z ≤ Z') (hk : keep < (os.length : Int) + 1) : PrefAt B Z' D U fm keep (os ++ [o]) w' := by
  obtain ⟨P', d1, d2, d3⟩ := hp
  refine ⟨P', PU, d1, ?_, ne_new h3 h2.plt d2, h4⟩
  rw [take_keep hk]
  exact (h2.other h1 hB h4 h3 d3).mono hZ
/-- behind an operation that did nothing -/
theorem PrefAt.none {B Z Z' D U : Nat} {fm : FM} {keep : Int} {os : List DOp} {w w' : World} {P PU : Option Nat} (hB : B ≤ w.heap.size) (h1 : DiskAt B Z w D P fm os) (h2 : DiskAt B Z w U PU fm (os.take keep.toNat)) (h3 : ∀ b, some b = PU → ¬ some b = P) (h4 : ¬ U = D)
    (hp : DPush B Z' D P fm os w w') (hZ : Z ≤ Z') : PrefAt B Z' D U fm keep os w' := by
  obtain ⟨P', d1, d2, d3⟩ := hp
  exact ⟨P', PU, d1, (h2.other h1 hB h4 h3 d3).mono hZ, ne_new h3 h2.plt d2, h4⟩
theorem DPush.belowB {B Z Z' D : Nat} {P : Option Nat} {fm : FM} {os os' : List DOp} {w w' : World} (h : DPush B Z' D P fm os' w w') (hD : DiskAt B Z w D P fm os) (hB : B ≤ w.heap.size) : Below B w w' := by
  obtain ⟨P', d1, d2, d3⟩ := h
  exact d3.below hB (fun i hi => hD.ge hi)

theorem crash_zero (os : List DOp) (keep : Int) : crashOps os keep 0 = os.take keep.toNat := by
  cases ho : os[keep.toNat]? with
  | none => rw [crash_none rfl ho]
  | some o => rw [crash_some rfl ho]; simp [tornOp]

set_option maxRecDepth 100000 in
set_option maxHeartbeats 8000000 in
theorem lawPrefix_any (vf vo : Value) (fl : FL) (los : List LOp) (keep : Int) (w : World) (hf : FlsRd w.heap.size w vf fl) (ho : InOps w.heap.size w vo los) (hl : flsum fl + fl.length + losum los + los.length ≤ 1048576) (hnl : ∀ p ∈ fl, p.1.length ≤ maxLen) (hno : ∀ o ∈ los, o.name.length ≤ maxLen) :
    Calls Try.prog 7 #[vf, vo, .int .i64 keep] w fun e w' => e = .returned (.bool true) ∧ Below w.heap.size w w' := by
  have hB0 : w.heap.size ≤ w.heap.size := Nat.le_refl _
  generalize hBe : w.heap.size = B at hB0 hf ho
  have HBE := Lib.hid hBe
  have hB0 : B ≤ w.heap.size := by omega
  clear hBe
  have hl1 : flsum fl ≤ 1099511627776 := by omega
  have hl2 : fl.length ≤ 1099511627776 := by omega
  have HNO := Lib.hid hno
  have C1 := Lib.hid (dload_any B vf fl w hB0 hf hl1 hl2 hnl)
  have C2 := fun (w1 : World) (h : Below w.heap.size w w1) => dload_any B vf fl w1 (by have := h.size; omega) (hf.below hB0 h) hl1 hl2 hnl
  have HC2 := Lib.hid C2
  have CL := fun (w1 : World) (h : Below w.heap.size w w1) => dlarge_any B vf vo fl los w1 (by have := h.size; omega) (hf.below hB0 h) (ho.below (h.mono hB0)) (by omega)
  have HCL := Lib.hid CL
  clear C2 CL hnl hno
  generalize hres : loadF fl (fun _ => none) = res at *
  clear hres
  obtain ⟨Ao, co, rfl, b1, b2, b3⟩ := ho.open_
  have HB3 := Lib.hid b3
  unfold maxLen at b2
  clear b3
  go_enter Try.func7, Try.ntmps7
  go_wp2_with fail
  (with_reducible refine C1.out.mono ?_)
  rintro e w1 ⟨hb1, hR1⟩
  clear C1
  cases res with
  | none =>
    obtain rfl : e = .returned (.pointer none) := hR1
    go_wp2_with fail
    (with_reducible refine (HC2.out w1 hb1).mono ?_)
    rintro e w2 ⟨hb2, hR2⟩
    clear HC2
    obtain rfl : e = .returned (.pointer none) := hR2
    go_wp2_with fail
    (with_reducible refine (dworks_any w2).mono ?_)
    rintro e w3 ⟨rfl, hb3⟩
    go_wp2_with fail
    go_ret
    exact ⟨rfl, HBE.out ▸ (hb1.trans (hb2.mono hb1.size)).trans (hb3.mono (by have := hb1.size; have := hb2.size; omega))⟩
  | some fm =>
  obtain ⟨D, rfl, hDl, hD1⟩ : ∃ D, e = .returned (.pointer (some ⟨D, 0, none⟩)) ∧ w.heap.size ≤ D ∧ DiskAt B (flsum fl + fl.length) w1 D none fm [] := hR1
  have hDlt := hD1.lt
  go_wp2_with fail
  (with_reducible refine (HC2.out w1 hb1).mono ?_)
  rintro e w2 ⟨hb2, hR2⟩
  clear HC2
  obtain ⟨U, rfl, hUl, hU2⟩ : ∃ D, e = .returned (.pointer (some ⟨D, 0, none⟩)) ∧ w1.heap.size ≤ D ∧ DiskAt B (flsum fl + fl.length) w2 D none fm [] := hR2
  have hB1 : B ≤ w1.heap.size := by have := hb1.size; omega
  have hD2 := hD1.below hB1 hb2
  have hb12 : Below w.heap.size w w2 := hb1.trans (hb2.mono hb1.size)
  have hB2 : B ≤ w2.heap.size := by have := hb12.size; omega
  have hUD : ¬ U = D := by omega
  clear hD1 hb1 hb2
  go_wp2_with fail
  (with_reducible refine (HCL.out w2 hb12).mono ?_)
  rintro e w3 ⟨bg, rfl, hbg, hb3⟩
  clear HCL
  have HBG := Lib.hid hbg
  clear hbg
  have hW3 : Below B w w3 := (hb12.mono hB0).trans (hb3.mono hB2)
  have hB3 : B ≤ w3.heap.size := by have := hb3.size; omega
  have hP3 : PrefAt B (flsum fl + fl.length) D U fm keep [] w3 := ⟨none, none, hD2.below hB2 hb3, by simpa using hU2.below hB2 hb3, fun b h => by simp at h, hUD⟩
  clear hD2 hU2 hb3 hb12
  cases bg with
  | true =>
    go_wp2_with fail
    (with_reducible refine (dworks_any w3).mono ?_)
    rintro e w4 ⟨rfl, hb4⟩
    go_wp2_with fail
    go_ret
    exact ⟨rfl, hW3.trans (hb4.mono hB3)⟩
  | false =>
  generalize hZ0 : flsum fl + fl.length = Z0 at *
  have hlo : Z0 + losum los + los.length ≤ 1048576 := by omega
  clear hZ0 hl
  go_wp2_with fail
  go_loopw [9, 38] (fun n i wr => ∃ (j : Nat) (os : List DOp), j ≤ los.length ∧ i = .int .i64 (j : Int) ∧ n = .int .i64 (os.length : Int) ∧ os.length ≤ j ∧ PrefAt B (Z0 + losum (los.take j) + j) D U fm keep os wr ∧ Below B w wr ∧ B ≤ wr.heap.size) (fun _ i _ => los.length - (intOf i).toNat)
  case atStart => exact ⟨0, [], Nat.zero_le _, rfl, rfl, Nat.zero_le _, hP3, hW3, hB3⟩
  case round =>
    obtain ⟨j, os, hj, rfl, rfl, hoj, hPr, hWr, hBr⟩ := hrel
    by_cases hlt : j < los.length
    · obtain ⟨ba, oa, ua, rfl, g0, g1, g2, g3, g4, g5, da, _⟩ := InOps.elem (ho.below hWr) (List.getElem?_eq_getElem hlt)
      have hqm := HNO.out _ (List.getElem_mem hlt)
      have HFT := Lib.hid (losum_take (List.getElem?_eq_getElem hlt))
      have hle := losum_take_le los (j + 1)
      rw [HFT.out] at hle
      obtain ⟨Xa, xa, rfl, _, _, _⟩ := Rd.open_ da
      generalize los[j] = q at *
      obtain ⟨kd, nm, to, dt, kp, tn⟩ := q
      simp only at *
      have hZ : Z0 + losum (los.take j) + j ≤ Z0 + losum (los.take j) + dt.length + j + 1 := by omega
      have hZb : Z0 + losum (los.take j) + j ≤ 1099511627776 := by omega
      have HZ2 : Hid (Z0 + losum (los.take (j + 1)) + (j + 1) = Z0 + losum (los.take j) + j + dt.length + 1) := Lib.hid (by rw [HFT.out]; omega)
      have hdt : dt.length ≤ 1048576 := by omega
      clear HFT hle
      generalize Z0 + losum (los.take j) + j = Z at *
      have hba : Below wr.heap.size wr (wr.alloc (.cells #[.int .i64 kd, .string (strB nm), .string (strB to), .slice Xa dt.length xa, .int .i64 kp, .int .i64 tn] 38)) := Below.of_alloc _
      have k0 := box_cell wr #[.int .i64 kd, .string (strB nm), .string (strB to), .slice Xa dt.length xa, .int .i64 kp, .int .i64 tn] 38 0 rfl
      have k1 := box_cell wr #[.int .i64 kd, .string (strB nm), .string (strB to), .slice Xa dt.length xa, .int .i64 kp, .int .i64 tn] 38 1 rfl
      have k2 := box_cell wr #[.int .i64 kd, .string (strB nm), .string (strB to), .slice Xa dt.length xa, .int .i64 kp, .int .i64 tn] 38 2 rfl
      have k3 := box_cell wr #[.int .i64 kd, .string (strB nm), .string (strB to), .slice Xa dt.length xa, .int .i64 kp, .int .i64 tn] 38 3 rfl
      have hPa := hPr.below hBr hba
      have hBa : B ≤ (wr.alloc (.cells #[.int .i64 kd, .string (strB nm), .string (strB to), .slice Xa dt.length xa, .int .i64 kp, .int .i64 tn] 38)).heap.size := by simp; omega
      have hWa := hWr.trans (hba.mono hBr)
      have hdW := da.below hBr hba
      have hda := hdW.rd hBa
      have hHa : wr.heap.size < (wr.alloc (.cells #[.int .i64 kd, .string (strB nm), .string (strB to), .slice Xa dt.length xa, .int .i64 kp, .int .i64 tn] 38)).heap.size := by simp
      obtain ⟨P, PU, hD, hU, hPP, _⟩ := hPr
      have hHD : ¬ (wr.heap.size = D ∨ some wr.heap.size = P) := by
        rintro (h | h)
        · have := hD.lt; omega
        · have := hD.plt _ h; omega
      have hHU : ¬ (wr.heap.size = U ∨ some wr.heap.size = PU) := by
        rintro (h | h)
        · have := hU.lt; omega
        · have := hU.plt _ h; omega
      replace hD := hD.below hBr hba
      replace hU := hU.below hBr hba
      clear hba da
      by_cases hk0 : kd < 0
      · go_wp2_with fail
        go_roundw
        case rel =>
          refine ⟨j + 1, os, by omega, by go_num, by first | rfl | (simp only [List.length_append, List.length_cons, List.length_nil]; go_num), by (try simp only [List.length_append, List.length_cons, List.length_nil]); omega, ?_, hWa, hBa⟩
          rw [HZ2.out]
          exact hPa.skip (by omega)
        case measure => simp [intOf]; omega
      by_cases hk2 : 2 < kd
      · go_wp2_with fail
        go_roundw
        case rel =>
          refine ⟨j + 1, os, by omega, by go_num, by first | rfl | (simp only [List.length_append, List.length_cons, List.length_nil]; go_num), by (try simp only [List.length_append, List.length_cons, List.length_nil]); omega, ?_, hWa, hBa⟩
          rw [HZ2.out]
          exact hPa.skip (by omega)
        case measure => simp [intOf]; omega
      have hk3 : kd = 0 ∨ kd = 1 ∨ kd = 2 := by omega
      clear hk0 hk2 hPa
      rcases hk3 with rfl | rfl | rfl
      · cases hw : wordF nm with
        | false =>
          go_wp2_with fail
          (with_reducible refine (dappend_bad B Z D P fm os nm _ (wr.alloc (.cells #[.int .i64 0, .string (strB nm), .string (strB to), .slice Xa dt.length xa, .int .i64 kp, .int .i64 tn] 38)) hBa hD hw (Z + dt.length + 1) (by omega)).mono ?_)
          rintro e w4 ⟨rfl, hp4⟩
          have hW4 : Below B w w4 := hWa.trans (hp4.belowB hD hBa)
          have hB4 : B ≤ w4.heap.size := by obtain ⟨_, _, _, hC4⟩ := hp4; have := hC4.size; omega
          have hP4 := PrefAt.none hBa hD hU hPP hUD hp4 (by omega)
          clear hp4 hD hU
          go_wp2_with fail
          go_roundw
          case rel =>
            refine ⟨j + 1, os, by omega, by go_num, by first | rfl | (simp only [List.length_append, List.length_cons, List.length_nil]; go_num), by (try simp only [List.length_append, List.length_cons, List.length_nil]); omega, ?_, hW4, hB4⟩
            rw [HZ2.out]
            exact hP4
          case measure => simp [intOf]; omega
        | true =>
          go_wp2_with fail
          (with_reducible refine (dappend_ok B Z D P fm os nm _ dt (wr.alloc (.cells #[.int .i64 0, .string (strB nm), .string (strB to), .slice Xa dt.length xa, .int .i64 kp, .int .i64 tn] 38)) hBa hD hw hda (by omega) (by omega)).mono ?_)
          rintro e w4 ⟨rfl, hp4⟩
          have hW4 : Below B w w4 := hWa.trans (hp4.belowB hD hBa)
          have hB4 : B ≤ w4.heap.size := by obtain ⟨_, _, _, hC4⟩ := hp4; have := hC4.size; omega
          have hC4 := hp4
          obtain ⟨P4, hD4, hP4, hC4⟩ := hC4
          have hU4 := hU.other hD hBa hUD hPP hC4
          have hPP4 := ne_new hPP hU.plt hP4
          have hkk : ∀ o, w4.cell? ⟨wr.heap.size, o, none⟩ = (wr.alloc (.cells #[.int .i64 0, .string (strB nm), .string (strB to), .slice Xa dt.length xa, .int .i64 kp, .int .i64 tn] 38)).cell? ⟨wr.heap.size, o, none⟩ := fun o => World.cell?_of_block (hC4.block _ hHa hHD)
          replace k0 := (hkk 0).trans k0
          replace k1 := (hkk 1).trans k1
          replace k2 := (hkk 2).trans k2
          replace k3 := (hkk 3).trans k3
          by_cases hke : keep < (os.length : Int) + 1
          · have hP5 := PrefAt.one hBa hD hU hPP hUD hp4 (by omega) hke
            clear hp4 hD hU hkk hC4 hD4 hU4
            go_wp2_with fail
            go_roundw
            case rel =>
              refine ⟨j + 1, os ++ [⟨0, nm, [], dt⟩], by omega, by go_num, by first | rfl | (simp only [List.length_append, List.length_cons, List.length_nil]; go_num), by (try simp only [List.length_append, List.length_cons, List.length_nil]); omega, ?_, hW4, hB4⟩
              rw [HZ2.out]
              exact hP5.skip (by omega)
            case measure => simp [intOf]; omega
          have HT : Hid (os.take keep.toNat = os) := Lib.hid (take_all (by omega))
          have HT2 : Hid ((os ++ [(⟨0, nm, [], dt⟩ : DOp)]).take keep.toNat = os ++ [⟨0, nm, [], dt⟩]) := Lib.hid (take_all (by simp; omega))
          rw [HT.out] at hU4
          have hkg : ¬ keep < (os.length : Int) + 1 := hke
          have hda4 : RdB w4 (· < w4.heap.size) (.slice Xa dt.length xa) dt := (hdW.chg hBa hC4 hD.br).rd hB4
          clear hp4 hkk hke
          go_wp2_with fail
          (with_reducible refine (dappend_ok B Z U PU fm os nm _ dt w4 hB4 hU4 hw hda4 (by omega) (by omega)).mono ?_)
          rintro e w5 ⟨rfl, hp5⟩
          have hW5 : Below B w w5 := hW4.trans (hp5.belowB hU4 hB4)
          have hB5 : B ≤ w5.heap.size := by obtain ⟨_, _, _, hC5⟩ := hp5; have := hC5.size; omega
          obtain ⟨P5, hU5, hP5, hC5⟩ := hp5
          have hD5 := hD4.other hU4 hB4 (fun h => hUD h.symm) (fun b h1 h2 => hPP4 b h2 h1) hC5
          have hR5 : PrefAt B (Z + dt.length + 1) D U fm keep (os ++ [⟨0, nm, [], dt⟩]) w5 := ⟨P4, P5, hD5.mono (by omega), by rw [HT2.out]; exact hU5.mono (by omega), ne_new' hPP4 hD4.plt hP5, hUD⟩
          clear hD hU hD4 hU4 hC4 hC5 hD5 hU5
          go_wp2_with fail
          go_roundw
          case rel =>
            refine ⟨j + 1, os ++ [⟨0, nm, [], dt⟩], by omega, by go_num, by first | rfl | (simp only [List.length_append, List.length_cons, List.length_nil]; go_num), by (try simp only [List.length_append, List.length_cons, List.length_nil]); omega, ?_, hW5, hB5⟩
            rw [HZ2.out]
            exact hR5
          case measure => simp [intOf]; omega
      · cases hx : (viewF fm os nm).isSome with
        | false =>
          go_wp2_with fail
          (with_reducible refine (dremove_no B Z D P fm os nm (wr.alloc (.cells #[.int .i64 1, .string (strB nm), .string (strB to), .slice Xa dt.length xa, .int .i64 kp, .int .i64 tn] 38)) hBa hD hqm (by omega) hx (Z + dt.length + 1) (by omega)).mono ?_)
          rintro e w4 ⟨rfl, hp4⟩
          have hW4 : Below B w w4 := hWa.trans (hp4.belowB hD hBa)
          have hB4 : B ≤ w4.heap.size := by obtain ⟨_, _, _, hC4⟩ := hp4; have := hC4.size; omega
          have hP4 := PrefAt.none hBa hD hU hPP hUD hp4 (by omega)
          clear hp4 hD hU
          go_wp2_with fail
          go_roundw
          case rel =>
            refine ⟨j + 1, os, by omega, by go_num, by first | rfl | (simp only [List.length_append, List.length_cons, List.length_nil]; go_num), by (try simp only [List.length_append, List.length_cons, List.length_nil]); omega, ?_, hW4, hB4⟩
            rw [HZ2.out]
            exact hP4
          case measure => simp [intOf]; omega
        | true =>
          go_wp2_with fail
          (with_reducible refine (dremove_ok B Z D P fm os nm (wr.alloc (.cells #[.int .i64 1, .string (strB nm), .string (strB to), .slice Xa dt.length xa, .int .i64 kp, .int .i64 tn] 38)) hBa hD hqm (by omega) hx).mono ?_)
          rintro e w4 ⟨rfl, hp4⟩
          have hW4 : Below B w w4 := hWa.trans (hp4.belowB hD hBa)
          have hB4 : B ≤ w4.heap.size := by obtain ⟨_, _, _, hC4⟩ := hp4; have := hC4.size; omega
          have hC4 := hp4
          obtain ⟨P4, hD4, hP4, hC4⟩ := hC4
          have hU4 := hU.other hD hBa hUD hPP hC4
          have hPP4 := ne_new hPP hU.plt hP4
          have hkk : ∀ o, w4.cell? ⟨wr.heap.size, o, none⟩ = (wr.alloc (.cells #[.int .i64 1, .string (strB nm), .string (strB to), .slice Xa dt.length xa, .int .i64 kp, .int .i64 tn] 38)).cell? ⟨wr.heap.size, o, none⟩ := fun o => World.cell?_of_block (hC4.block _ hHa hHD)
          replace k0 := (hkk 0).trans k0
          replace k1 := (hkk 1).trans k1
          replace k2 := (hkk 2).trans k2
          replace k3 := (hkk 3).trans k3
          by_cases hke : keep < (os.length : Int) + 1
          · have hP5 := PrefAt.one hBa hD hU hPP hUD hp4 (by omega) hke
            clear hp4 hD hU hkk hC4 hD4 hU4
            go_wp2_with fail
            go_roundw
            case rel =>
              refine ⟨j + 1, os ++ [⟨1, nm, [], []⟩], by omega, by go_num, by first | rfl | (simp only [List.length_append, List.length_cons, List.length_nil]; go_num), by (try simp only [List.length_append, List.length_cons, List.length_nil]); omega, ?_, hW4, hB4⟩
              rw [HZ2.out]
              exact hP5.skip (by omega)
            case measure => simp [intOf]; omega
          have HT : Hid (os.take keep.toNat = os) := Lib.hid (take_all (by omega))
          have HT2 : Hid ((os ++ [(⟨1, nm, [], []⟩ : DOp)]).take keep.toNat = os ++ [⟨1, nm, [], []⟩]) := Lib.hid (take_all (by simp; omega))
          rw [HT.out] at hU4
          have hkg : ¬ keep < (os.length : Int) + 1 := hke
          have hda4 : RdB w4 (· < w4.heap.size) (.slice Xa dt.length xa) dt := (hdW.chg hBa hC4 hD.br).rd hB4
          clear hp4 hkk hke
          go_wp2_with fail
          (with_reducible refine (dremove_ok B Z U PU fm os nm w4 hB4 hU4 hqm (by omega) hx).mono ?_)
          rintro e w5 ⟨rfl, hp5⟩
          have hW5 : Below B w w5 := hW4.trans (hp5.belowB hU4 hB4)
          have hB5 : B ≤ w5.heap.size := by obtain ⟨_, _, _, hC5⟩ := hp5; have := hC5.size; omega
          obtain ⟨P5, hU5, hP5, hC5⟩ := hp5
          have hD5 := hD4.other hU4 hB4 (fun h => hUD h.symm) (fun b h1 h2 => hPP4 b h2 h1) hC5
          have hR5 : PrefAt B (Z + dt.length + 1) D U fm keep (os ++ [⟨1, nm, [], []⟩]) w5 := ⟨P4, P5, hD5.mono (by omega), by rw [HT2.out]; exact hU5.mono (by omega), ne_new' hPP4 hD4.plt hP5, hUD⟩
          clear hD hU hD4 hU4 hC4 hC5 hD5 hU5
          go_wp2_with fail
          go_roundw
          case rel =>
            refine ⟨j + 1, os ++ [⟨1, nm, [], []⟩], by omega, by go_num, by first | rfl | (simp only [List.length_append, List.length_cons, List.length_nil]; go_num), by (try simp only [List.length_append, List.length_cons, List.length_nil]); omega, ?_, hW5, hB5⟩
            rw [HZ2.out]
            exact hR5
          case measure => simp [intOf]; omega
      · cases hx : (viewF fm os nm).isSome with
        | false =>
          go_wp2_with fail
          (with_reducible refine (drename_no B Z D P fm os nm to (wr.alloc (.cells #[.int .i64 2, .string (strB nm), .string (strB to), .slice Xa dt.length xa, .int .i64 kp, .int .i64 tn] 38)) hBa hD hqm (by omega) hx (Z + dt.length + 1) (by omega)).mono ?_)
          rintro e w4 ⟨rfl, hp4⟩
          have hW4 : Below B w w4 := hWa.trans (hp4.belowB hD hBa)
          have hB4 : B ≤ w4.heap.size := by obtain ⟨_, _, _, hC4⟩ := hp4; have := hC4.size; omega
          have hP4 := PrefAt.none hBa hD hU hPP hUD hp4 (by omega)
          clear hp4 hD hU
          go_wp2_with fail
          go_roundw
          case rel =>
            refine ⟨j + 1, os, by omega, by go_num, by first | rfl | (simp only [List.length_append, List.length_cons, List.length_nil]; go_num), by (try simp only [List.length_append, List.length_cons, List.length_nil]); omega, ?_, hW4, hB4⟩
            rw [HZ2.out]
            exact hP4
          case measure => simp [intOf]; omega
        | true =>
          cases hw : wordF to with
          | false =>
            go_wp2_with fail
            (with_reducible refine (drename_bad B Z D P fm os nm to (wr.alloc (.cells #[.int .i64 2, .string (strB nm), .string (strB to), .slice Xa dt.length xa, .int .i64 kp, .int .i64 tn] 38)) hBa hD hqm (by omega) hx hw (Z + dt.length + 1) (by omega)).mono ?_)
            rintro e w4 ⟨rfl, hp4⟩
            have hW4 : Below B w w4 := hWa.trans (hp4.belowB hD hBa)
            have hB4 : B ≤ w4.heap.size := by obtain ⟨_, _, _, hC4⟩ := hp4; have := hC4.size; omega
            have hP4 := PrefAt.none hBa hD hU hPP hUD hp4 (by omega)
            clear hp4 hD hU
            go_wp2_with fail
            go_roundw
            case rel =>
              refine ⟨j + 1, os, by omega, by go_num, by first | rfl | (simp only [List.length_append, List.length_cons, List.length_nil]; go_num), by (try simp only [List.length_append, List.length_cons, List.length_nil]); omega, ?_, hW4, hB4⟩
              rw [HZ2.out]
              exact hP4
            case measure => simp [intOf]; omega
          | true =>
            go_wp2_with fail
            (with_reducible refine (drename_ok B Z D P fm os nm to (wr.alloc (.cells #[.int .i64 2, .string (strB nm), .string (strB to), .slice Xa dt.length xa, .int .i64 kp, .int .i64 tn] 38)) hBa hD hqm (by omega) hx hw).mono ?_)
            rintro e w4 ⟨rfl, hp4⟩
            have hW4 : Below B w w4 := hWa.trans (hp4.belowB hD hBa)
            have hB4 : B ≤ w4.heap.size := by obtain ⟨_, _, _, hC4⟩ := hp4; have := hC4.size; omega
            have hC4 := hp4
            obtain ⟨P4, hD4, hP4, hC4⟩ := hC4
            have hU4 := hU.other hD hBa hUD hPP hC4
            have hPP4 := ne_new hPP hU.plt hP4
            have hkk : ∀ o, w4.cell? ⟨wr.heap.size, o, none⟩ = (wr.alloc (.cells #[.int .i64 2, .string (strB nm), .string (strB to), .slice Xa dt.length xa, .int .i64 kp, .int .i64 tn] 38)).cell? ⟨wr.heap.size, o, none⟩ := fun o => World.cell?_of_block (hC4.block _ hHa hHD)
            replace k0 := (hkk 0).trans k0
            replace k1 := (hkk 1).trans k1
            replace k2 := (hkk 2).trans k2
            replace k3 := (hkk 3).trans k3
            by_cases hke : keep < (os.length : Int) + 1
            · have hP5 := PrefAt.one hBa hD hU hPP hUD hp4 (by omega) hke
              clear hp4 hD hU hkk hC4 hD4 hU4
              go_wp2_with fail
              go_roundw
              case rel =>
                refine ⟨j + 1, os ++ [⟨2, nm, to, []⟩], by omega, by go_num, by first | rfl | (simp only [List.length_append, List.length_cons, List.length_nil]; go_num), by (try simp only [List.length_append, List.length_cons, List.length_nil]); omega, ?_, hW4, hB4⟩
                rw [HZ2.out]
                exact hP5.skip (by omega)
              case measure => simp [intOf]; omega
            have HT : Hid (os.take keep.toNat = os) := Lib.hid (take_all (by omega))
            have HT2 : Hid ((os ++ [(⟨2, nm, to, []⟩ : DOp)]).take keep.toNat = os ++ [⟨2, nm, to, []⟩]) := Lib.hid (take_all (by simp; omega))
            rw [HT.out] at hU4
            have hkg : ¬ keep < (os.length : Int) + 1 := hke
            have hda4 : RdB w4 (· < w4.heap.size) (.slice Xa dt.length xa) dt := (hdW.chg hBa hC4 hD.br).rd hB4
            clear hp4 hkk hke
            go_wp2_with fail
            (with_reducible refine (drename_ok B Z U PU fm os nm to w4 hB4 hU4 hqm (by omega) hx hw).mono ?_)
            rintro e w5 ⟨rfl, hp5⟩
            have hW5 : Below B w w5 := hW4.trans (hp5.belowB hU4 hB4)
            have hB5 : B ≤ w5.heap.size := by obtain ⟨_, _, _, hC5⟩ := hp5; have := hC5.size; omega
            obtain ⟨P5, hU5, hP5, hC5⟩ := hp5
            have hD5 := hD4.other hU4 hB4 (fun h => hUD h.symm) (fun b h1 h2 => hPP4 b h2 h1) hC5
            have hR5 : PrefAt B (Z + dt.length + 1) D U fm keep (os ++ [⟨2, nm, to, []⟩]) w5 := ⟨P4, P5, hD5.mono (by omega), by rw [HT2.out]; exact hU5.mono (by omega), ne_new' hPP4 hD4.plt hP5, hUD⟩
            clear hD hU hD4 hU4 hC4 hC5 hD5 hU5
            go_wp2_with fail
            go_roundw
            case rel =>
              refine ⟨j + 1, os ++ [⟨2, nm, to, []⟩], by omega, by go_num, by first | rfl | (simp only [List.length_append, List.length_cons, List.length_nil]; go_num), by (try simp only [List.length_append, List.length_cons, List.length_nil]); omega, ?_, hW5, hB5⟩
              rw [HZ2.out]
              exact hR5
            case measure => simp [intOf]; omega
    have hje : j = los.length := by omega
    have hZb : Z0 + losum (los.take j) + j ≤ 1099511627776 := by have := losum_take_le los j; omega
    generalize Z0 + losum (los.take j) + j = Z at *
    obtain ⟨P, PU, hD, hU, hPP, _⟩ := hPr
    clear hje hoj
    go_wp2_with fail
    (with_reducible refine (dpending_any B _ D P fm os wr hD).mono ?_)
    rintro e wr' ⟨rfl, rfl⟩
    go_wp2_with fail
    (with_reducible refine (dcrash_any B _ D P fm os keep 0 wr hBr hD hZb).mono ?_)
    rintro e w4 ⟨u4, rfl, hD4, hC4⟩
    rw [crash_zero] at hD4
    have hU4 := hU.other hD hBr hUD hPP (hC4.mono (fun _ h => .inl h))
    have hW4 : Below B w w4 := hWr.trans (hC4.below hBr (fun i hi => hD.ge (.inl hi)))
    have hB4 : B ≤ w4.heap.size := by have := hC4.size; omega
    clear hD hU hC4 hPP
    go_wp2_with fail
    (with_reducible refine (dsync_any B _ U fm (os.take keep.toNat) w4 hB4 hU4.rd hZb).mono ?_)
    rintro e w5 ⟨u5, rfl, hU5, hC5⟩
    have hD5 := hD4.other hU4 hB4 (fun h => hUD h.symm) (fun b h => by simp at h) (hC5.mono (fun _ h => .inl h))
    have hW5 : Below B w w5 := hW4.trans (hC5.below hB4 (fun i hi => hU4.ge (.inl hi)))
    have hB5 : B ≤ w5.heap.size := by have := hC5.size; omega
    clear hD4 hU4 hC5
    generalize viewF fm (os.take keep.toNat) = fv at *
    go_wp2_with fail
    (with_reducible refine (dfiles_any B _ D fv [] w5 hB5 hD5.rd hZb).mono ?_)
    rintro e w6 ⟨v6, fl6, rfl, hF6, hI6, hb6⟩
    have hD6 := hD5.below hB5 hb6
    have hU6 := hU5.below hB5 hb6
    have hW6 : Below B w w6 := hW5.trans (hb6.mono hB5)
    have hB6 : B ≤ w6.heap.size := by have := hb6.size; omega
    clear hD5 hU5 hb6
    go_wp2_with fail
    (with_reducible refine (dfiles_any B _ U fv [] w6 hB6 hU6.rd hZb).mono ?_)
    rintro e w7 ⟨v7, fl7, rfl, hF7, hI7, hb7⟩
    have hD7 := hD6.below hB6 hb7
    have hW7 : Below B w w7 := hW6.trans (hb7.mono hB6)
    have hB7 : B ≤ w7.heap.size := by have := hb7.size; omega
    obtain rfl : fl7 = fl6 := hI7.unique hI6
    have hF6' := hF6.rd.below hB6 hb7
    clear hD6 hU6 hb7 hI7
    go_wp2_with fail
    (with_reducible refine (rsame_any B _ _ fl7 fl7 w7 hB7 hF6' hF7.rd).mono ?_)
    rintro e w8 ⟨he, hb8⟩
    rw [show decide (fl7 = fl7) = true from by simp] at he
    subst he
    have hD8 := hD7.below hB7 hb8
    have hW8 : Below B w w8 := hW7.trans (hb8.mono hB7)
    have hB8 : B ≤ w8.heap.size := by have := hb8.size; omega
    clear hF6' hF6 hF7 hD7 hb8
    go_wp2_with fail
    (with_reducible refine (dviewl_any B _ D fv [] w8 hB8 hD8.rd hZb).mono ?_)
    rintro e w9 ⟨v9, fl9, rfl, hF9, hI9, hb9⟩
    obtain rfl : fl9 = fl7 := IsL.unique (fm := fv) hI9 hI6
    have hD9 := hD8.below hB8 hb9
    have hW9 : Below B w w9 := hW8.trans (hb9.mono hB8)
    have hB9 : B ≤ w9.heap.size := by have := hb9.size; omega
    clear hD8 hb9 hI9
    go_wp2_with fail
    (with_reducible refine (dfiles_any B _ D fv [] w9 hB9 hD9.rd hZb).mono ?_)
    rintro e w10 ⟨v10, fl10, rfl, hF10, hI10, hb10⟩
    obtain rfl : fl10 = fl9 := IsL.unique hI10 hI6
    have hD10 := hD9.below hB9 hb10
    have hW10 : Below B w w10 := hW9.trans (hb10.mono hB9)
    have hB10 : B ≤ w10.heap.size := by have := hb10.size; omega
    have hF9' := hF9.rd.below hB9 hb10
    clear hD9 hb10 hI10
    go_wp2_with fail
    (with_reducible refine (rsame_any B _ _ fl10 fl10 w10 hB10 hF9' hF10.rd).mono ?_)
    rintro e w11 ⟨he, hb11⟩
    rw [show decide (fl10 = fl10) = true from by simp] at he
    subst he
    have hD11 := hD10.below hB10 hb11
    have hW11 : Below B w w11 := hW10.trans (hb11.mono hB10)
    have hB11 : B ≤ w11.heap.size := by have := hb11.size; omega
    clear hF9' hF9 hF10 hD10 hb11
    go_wp2_with fail
    (with_reducible refine (dpending_any B _ D none fv [] w11 hD11).mono ?_)
    rintro e w11' ⟨rfl, rfl⟩
    go_wp2_with fail
    (with_reducible refine (dworks_any w11).mono ?_)
    rintro e w12 ⟨rfl, hb12⟩
    go_wp2_with fail
    go_ret
    exact ⟨rfl, hW11.trans (hb12.mono hB11)⟩
end Go.Proofs.Ytooojgokkigncaa
