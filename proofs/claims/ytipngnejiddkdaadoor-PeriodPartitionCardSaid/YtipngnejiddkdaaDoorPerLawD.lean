/-
  PeriodPartition: the walks.
-/
import Derived.Test.YtipngnejiddkdaaDoorPerJ
import Derived.Test.YtipngnejiddkdaaDoorPerPart
namespace Go.Proofs.YtipngnejiddkdaaDoor
open Go.RowKit Go.Lib

def PartRel (w0 : World) (x : Int) (n0 : Nat) (L : List (Int × Int)) (n i : Value) (w : World) : Prop :=
  ∃ k v : Nat, k ≤ L.length ∧ i = .int .i64 k ∧ n = .int .i64 (v : Int) ∧ v = n0 + cntP x (L.take k) ∧ Below w0.heap.size w0 w
theorem cnt_step (x : Int) (L : List (Int × Int)) {k : Nat} (h : k < L.length) : cntP x (L.take (k + 1)) = cntP x (L.take k) + if inP L[k].1 L[k].2 x = true then 1 else 0 := by
  rw [List.take_succ_eq_append_getElem h, cnt_snoc]

set_option maxRecDepth 100000 in
set_option maxHeartbeats 4000000 in
theorem part_ffff (f t a b x i0 i1 m0 m1 : Int) (L : List (Int × Int)) (w : World) (he : Env w) (C0 : ∀ w, Calls Tryd.prog 9 #[.agg #[.int .i64 f, .int .i64 t], .agg #[.int .i64 a, .int .i64 b]] w (Two i0 i1 false w)) (hc : inP f t x = false) (hL : L.length ≤ 2) (C2 : ∀ w, Calls Tryd.prog 14 #[.agg #[.int .i64 f, .int .i64 t], .agg #[.int .i64 a, .int .i64 b]] w (NewP w L)) (hN : 0 + cntP x L = 0) (C5 : ∀ w, Calls Tryd.prog 11 #[.agg #[.int .i64 f, .int .i64 t], .agg #[.int .i64 a, .int .i64 b]] w (Two m0 m1 false w)) :
    Calls Tryd.prog 6 #[.agg #[.int .i64 f, .int .i64 t], .agg #[.int .i64 a, .int .i64 b], .int .i64 x] w fun e w' => e = .returned (.bool true) ∧ Below w.heap.size w w' := by
  have D0 := Lib.hid C0
  have D2 := Lib.hid C2
  have D5 := Lib.hid C5
  have C4 := fun w => contains_any f t x w
  rw [hc] at C4
  have D4 := Lib.hid C4
  clear C4
  have HN := Lib.hid hN
  clear C0 C2 C5 hc hN
  go_enter Tryd.func6, Tryd.ntmps6
  go_wp2_with fail
  have hB0 := (Below.of_alloc (w := w) (.cells #[.int .i64 f, .int .i64 t] 23)).alloc (by simp) (.cells #[.int .i64 a, .int .i64 b] 23)
  have p0 := ((Below.of_alloc (w := (w.alloc (.cells #[.int .i64 f, .int .i64 t] 23))) (.cells #[.int .i64 a, .int .i64 b] 23)).cell (p := ⟨w.heap.size, 0, none⟩) (by simp)).trans (box_cell w #[.int .i64 f, .int .i64 t] 23 0 (u := .int .i64 f) rfl)
  have p1 := ((Below.of_alloc (w := (w.alloc (.cells #[.int .i64 f, .int .i64 t] 23))) (.cells #[.int .i64 a, .int .i64 b] 23)).cell (p := ⟨w.heap.size, 1, none⟩) (by simp)).trans (box_cell w #[.int .i64 f, .int .i64 t] 23 1 (u := .int .i64 t) rfl)
  have q0 := box_cell' (w.alloc (.cells #[.int .i64 f, .int .i64 t] 23)) (w.heap.size + 1) (by simp) #[.int .i64 a, .int .i64 b] 23 0 (u := .int .i64 a) rfl
  have q1 := box_cell' (w.alloc (.cells #[.int .i64 f, .int .i64 t] 23)) (w.heap.size + 1) (by simp) #[.int .i64 a, .int .i64 b] 23 1 (u := .int .i64 b) rfl
  have zq : w.heap.size + 1 < ((w.alloc (.cells #[.int .i64 f, .int .i64 t] 23)).alloc (.cells #[.int .i64 a, .int .i64 b] 23)).heap.size := by simp
  generalize ((w.alloc (.cells #[.int .i64 f, .int .i64 t] 23)).alloc (.cells #[.int .i64 a, .int .i64 b] 23)) = w0 at *
  have zp : w.heap.size < w0.heap.size := by omega
  (with_reducible refine (D0.out _).mono ?_)
  rintro e w1 ⟨rfl, hb1⟩
  have hB1 := hB0.trans (hb1.mono hB0.size)
  have p0 := (hb1.cell (p := ⟨w.heap.size, 0, none⟩) zp).trans p0
  have p1 := (hb1.cell (p := ⟨w.heap.size, 1, none⟩) zp).trans p1
  have q0 := (hb1.cell (p := ⟨w.heap.size + 1, 0, none⟩) zq).trans q0
  have q1 := (hb1.cell (p := ⟨w.heap.size + 1, 1, none⟩) zq).trans q1
  have zp := Nat.lt_of_lt_of_le zp hb1.size
  have zq := Nat.lt_of_lt_of_le zq hb1.size
  go_wp2_with fail
  have ha1 := Below.of_alloc (w := w1) (.cells #[.int .i64 i0, .int .i64 i1] 23)
  have hB1a := hB1.trans (ha1.mono hB1.size)
  have p0 := (ha1.cell (p := ⟨w.heap.size, 0, none⟩) zp).trans p0
  have p1 := (ha1.cell (p := ⟨w.heap.size, 1, none⟩) zp).trans p1
  have q0 := (ha1.cell (p := ⟨w.heap.size + 1, 0, none⟩) zq).trans q0
  have q1 := (ha1.cell (p := ⟨w.heap.size + 1, 1, none⟩) zq).trans q1
  have zp := Nat.lt_of_lt_of_le zp ha1.size
  have zq := Nat.lt_of_lt_of_le zq ha1.size
  generalize w1.alloc (.cells #[.int .i64 i0, .int .i64 i1] 23) = w1a at *
  (with_reducible refine (D2.out _).mono ?_)
  rintro e w3 ⟨v3, rfl, hr3, hb3⟩
  have hB3 := hB1a.trans (hb3.mono hB1a.size)
  have p0 := (hb3.cell (p := ⟨w.heap.size, 0, none⟩) zp).trans p0
  have p1 := (hb3.cell (p := ⟨w.heap.size, 1, none⟩) zp).trans p1
  have q0 := (hb3.cell (p := ⟨w.heap.size + 1, 0, none⟩) zq).trans q0
  have q1 := (hb3.cell (p := ⟨w.heap.size + 1, 1, none⟩) zq).trans q1
  have zp := Nat.lt_of_lt_of_le zp hb3.size
  have zq := Nat.lt_of_lt_of_le zq hb3.size
  obtain ⟨A, c, rfl, hc1, hc2, _⟩ := hr3.open_
  unfold maxLen at hc2
  have hL2 : ¬ (2 : Int) < (L.length : Int) := by omega
  go_wp2_with fail
  go_loopw [7, 11] (fun n i wr => PartRel w3 x 0 L n i wr) (fun _ i _ => L.length - (RowKit.intOf i).toNat)
  case atStart => exact ⟨0, 0, Nat.zero_le _, rfl, by first | rfl | simp, by simp [cntP], Below.refl _ _⟩
  case round =>
    obtain ⟨k, v, hk, rfl, rfl, hv, hB⟩ := hrel
    obtain ⟨wo, rfl⟩ : ∃ wo : World, wo = wr := ⟨_, rfl⟩
    have hcl := cnt_le x (L.take k)
    have hlk : (L.take k).length ≤ 2 := by rw [List.length_take]; omega
    have hv3 : v ≤ 3 := by omega
    by_cases hlt : k < L.length
    · obtain ⟨b1, o1, rfl, hF1, g0, g1⟩ := RdP.at_ (Rd.below hr3 hB) hlt
      have hst := cnt_step x L hlt
      have HST := Lib.hid hst
      have HV := Lib.hid hv
      clear hst hv hcl hlk
      generalize L[k] = e at *
      obtain ⟨e0, e1⟩ := e
      simp only at g0 g1 HST
      have i1' : (0 : Int) ≤ (k : Int) := by omega
      go_wp2_with fail
      (with_reducible refine (contains_any e0 e1 x _).mono ?_)
      cases hin : inP e0 e1 x
      · rintro e w4 ⟨rfl, hb4⟩
        rw [hin, if_neg (by simp), Nat.add_zero] at HST
        clear hin
        go_wp2_with fail
        go_roundw
        case rel => exact ⟨k + 1, v, by omega, by go_num, rfl, by rw [HST.out]; exact HV.out, hB.trans (hb4.mono hB.size)⟩
        case measure => simp [RowKit.intOf]; omega
      · rintro e w4 ⟨rfl, hb4⟩
        rw [hin, if_pos rfl] at HST
        clear hin
        go_wp2_with fail
        go_roundw
        case rel => exact ⟨k + 1, v + 1, by omega, by go_num, by go_num, by rw [HST.out]; have := HV.out; omega, hB.trans (hb4.mono hB.size)⟩
        case measure => simp [RowKit.intOf]; omega
    · have hke : L.take k = L := List.take_of_length_le (by omega)
      rw [hke] at hv
      have hvN := hv.trans HN.out
      obtain rfl := hvN
      clear hv hke hcl hlk hv3 HN
      have p0 := (hB.cell (p := ⟨w.heap.size, 0, none⟩) zp).trans p0
      have p1 := (hB.cell (p := ⟨w.heap.size, 1, none⟩) zp).trans p1
      have q0 := (hB.cell (p := ⟨w.heap.size + 1, 0, none⟩) zq).trans q0
      have q1 := (hB.cell (p := ⟨w.heap.size + 1, 1, none⟩) zq).trans q1
      have zp := Nat.lt_of_lt_of_le zp hB.size
      have zq := Nat.lt_of_lt_of_le zq hB.size
      have hBo := hB3.trans (hB.mono hB3.size)
      go_wp2_with fail
      (with_reducible refine (D4.out _).mono ?_)
      rintro e w5 ⟨rfl, hb5⟩
      have hB5 := hBo.trans (hb5.mono hBo.size)
      have p0 := (hb5.cell (p := ⟨w.heap.size, 0, none⟩) zp).trans p0
      have p1 := (hb5.cell (p := ⟨w.heap.size, 1, none⟩) zp).trans p1
      have q0 := (hb5.cell (p := ⟨w.heap.size + 1, 0, none⟩) zq).trans q0
      have q1 := (hb5.cell (p := ⟨w.heap.size + 1, 1, none⟩) zq).trans q1
      have zp := Nat.lt_of_lt_of_le zp hb5.size
      have zq := Nat.lt_of_lt_of_le zq hb5.size
      go_wp2_with fail
      (with_reducible refine (D5.out _).mono ?_)
      rintro e w6 ⟨rfl, hb6⟩
      have hB6 := hB5.trans (hb6.mono hB5.size)
      have p0 := (hb6.cell (p := ⟨w.heap.size, 0, none⟩) zp).trans p0
      have p1 := (hb6.cell (p := ⟨w.heap.size, 1, none⟩) zp).trans p1
      have q0 := (hb6.cell (p := ⟨w.heap.size + 1, 0, none⟩) zq).trans q0
      have q1 := (hb6.cell (p := ⟨w.heap.size + 1, 1, none⟩) zq).trans q1
      have zp := Nat.lt_of_lt_of_le zp hb6.size
      have zq := Nat.lt_of_lt_of_le zq hb6.size
      go_wp2_with fail
      have ha6 := Below.of_alloc (w := w6) (.cells #[.int .i64 m0, .int .i64 m1] 23)
      have hB6a := hB6.trans (ha6.mono hB6.size)
      have p0 := (ha6.cell (p := ⟨w.heap.size, 0, none⟩) zp).trans p0
      have p1 := (ha6.cell (p := ⟨w.heap.size, 1, none⟩) zp).trans p1
      have q0 := (ha6.cell (p := ⟨w.heap.size + 1, 0, none⟩) zq).trans q0
      have q1 := (ha6.cell (p := ⟨w.heap.size + 1, 1, none⟩) zq).trans q1
      have zp := Nat.lt_of_lt_of_le zp ha6.size
      have zq := Nat.lt_of_lt_of_le zq ha6.size
      generalize w6.alloc (.cells #[.int .i64 m0, .int .i64 m1] 23) = w6a at *
      (with_reducible refine (awake_any _ (he.below hB6a)).mono ?_)
      rintro e w9 ⟨rfl, hb9⟩
      go_wp2_with fail
      go_ret
      exact ⟨rfl, hB6a.trans (hb9.mono hB6a.size)⟩

set_option maxRecDepth 100000 in
set_option maxHeartbeats 4000000 in
theorem part_ffft (f t a b x i0 i1 m0 m1 : Int) (L : List (Int × Int)) (w : World) (he : Env w) (C0 : ∀ w, Calls Tryd.prog 9 #[.agg #[.int .i64 f, .int .i64 t], .agg #[.int .i64 a, .int .i64 b]] w (Two i0 i1 false w)) (hc : inP f t x = false) (hL : L.length ≤ 2) (C2 : ∀ w, Calls Tryd.prog 14 #[.agg #[.int .i64 f, .int .i64 t], .agg #[.int .i64 a, .int .i64 b]] w (NewP w L)) (hN : 0 + cntP x L = 0) (C5 : ∀ w, Calls Tryd.prog 11 #[.agg #[.int .i64 f, .int .i64 t], .agg #[.int .i64 a, .int .i64 b]] w (Two m0 m1 true w)) (hm : inP m0 m1 x = (inP f t x || inP a b x)) :
    Calls Tryd.prog 6 #[.agg #[.int .i64 f, .int .i64 t], .agg #[.int .i64 a, .int .i64 b], .int .i64 x] w fun e w' => e = .returned (.bool true) ∧ Below w.heap.size w w' := by
  have D0 := Lib.hid C0
  have D2 := Lib.hid C2
  have D5 := Lib.hid C5
  have C4 := fun w => contains_any f t x w
  rw [hc] at C4
  have D4 := Lib.hid C4
  clear C4
  have C6 := fun w => contains_any m0 m1 x w
  rw [hm, hc] at C6
  rw [Bool.false_or] at C6
  have C7 := fun w => contains_any a b x w
  generalize inP a b x = c1 at C6 C7
  have D7 := Lib.hid C7
  clear C7
  have D6 := Lib.hid C6
  clear C6 hm
  have HN := Lib.hid hN
  clear C0 C2 C5 hc hN
  go_enter Tryd.func6, Tryd.ntmps6
  go_wp2_with fail
  have hB0 := (Below.of_alloc (w := w) (.cells #[.int .i64 f, .int .i64 t] 23)).alloc (by simp) (.cells #[.int .i64 a, .int .i64 b] 23)
  have p0 := ((Below.of_alloc (w := (w.alloc (.cells #[.int .i64 f, .int .i64 t] 23))) (.cells #[.int .i64 a, .int .i64 b] 23)).cell (p := ⟨w.heap.size, 0, none⟩) (by simp)).trans (box_cell w #[.int .i64 f, .int .i64 t] 23 0 (u := .int .i64 f) rfl)
  have p1 := ((Below.of_alloc (w := (w.alloc (.cells #[.int .i64 f, .int .i64 t] 23))) (.cells #[.int .i64 a, .int .i64 b] 23)).cell (p := ⟨w.heap.size, 1, none⟩) (by simp)).trans (box_cell w #[.int .i64 f, .int .i64 t] 23 1 (u := .int .i64 t) rfl)
  have q0 := box_cell' (w.alloc (.cells #[.int .i64 f, .int .i64 t] 23)) (w.heap.size + 1) (by simp) #[.int .i64 a, .int .i64 b] 23 0 (u := .int .i64 a) rfl
  have q1 := box_cell' (w.alloc (.cells #[.int .i64 f, .int .i64 t] 23)) (w.heap.size + 1) (by simp) #[.int .i64 a, .int .i64 b] 23 1 (u := .int .i64 b) rfl
  have zq : w.heap.size + 1 < ((w.alloc (.cells #[.int .i64 f, .int .i64 t] 23)).alloc (.cells #[.int .i64 a, .int .i64 b] 23)).heap.size := by simp
  generalize ((w.alloc (.cells #[.int .i64 f, .int .i64 t] 23)).alloc (.cells #[.int .i64 a, .int .i64 b] 23)) = w0 at *
  have zp : w.heap.size < w0.heap.size := by omega
  (with_reducible refine (D0.out _).mono ?_)
  rintro e w1 ⟨rfl, hb1⟩
  have hB1 := hB0.trans (hb1.mono hB0.size)
  have p0 := (hb1.cell (p := ⟨w.heap.size, 0, none⟩) zp).trans p0
  have p1 := (hb1.cell (p := ⟨w.heap.size, 1, none⟩) zp).trans p1
  have q0 := (hb1.cell (p := ⟨w.heap.size + 1, 0, none⟩) zq).trans q0
  have q1 := (hb1.cell (p := ⟨w.heap.size + 1, 1, none⟩) zq).trans q1
  have zp := Nat.lt_of_lt_of_le zp hb1.size
  have zq := Nat.lt_of_lt_of_le zq hb1.size
  go_wp2_with fail
  have ha1 := Below.of_alloc (w := w1) (.cells #[.int .i64 i0, .int .i64 i1] 23)
  have hB1a := hB1.trans (ha1.mono hB1.size)
  have p0 := (ha1.cell (p := ⟨w.heap.size, 0, none⟩) zp).trans p0
  have p1 := (ha1.cell (p := ⟨w.heap.size, 1, none⟩) zp).trans p1
  have q0 := (ha1.cell (p := ⟨w.heap.size + 1, 0, none⟩) zq).trans q0
  have q1 := (ha1.cell (p := ⟨w.heap.size + 1, 1, none⟩) zq).trans q1
  have zp := Nat.lt_of_lt_of_le zp ha1.size
  have zq := Nat.lt_of_lt_of_le zq ha1.size
  generalize w1.alloc (.cells #[.int .i64 i0, .int .i64 i1] 23) = w1a at *
  (with_reducible refine (D2.out _).mono ?_)
  rintro e w3 ⟨v3, rfl, hr3, hb3⟩
  have hB3 := hB1a.trans (hb3.mono hB1a.size)
  have p0 := (hb3.cell (p := ⟨w.heap.size, 0, none⟩) zp).trans p0
  have p1 := (hb3.cell (p := ⟨w.heap.size, 1, none⟩) zp).trans p1
  have q0 := (hb3.cell (p := ⟨w.heap.size + 1, 0, none⟩) zq).trans q0
  have q1 := (hb3.cell (p := ⟨w.heap.size + 1, 1, none⟩) zq).trans q1
  have zp := Nat.lt_of_lt_of_le zp hb3.size
  have zq := Nat.lt_of_lt_of_le zq hb3.size
  obtain ⟨A, c, rfl, hc1, hc2, _⟩ := hr3.open_
  unfold maxLen at hc2
  have hL2 : ¬ (2 : Int) < (L.length : Int) := by omega
  go_wp2_with fail
  go_loopw [7, 11] (fun n i wr => PartRel w3 x 0 L n i wr) (fun _ i _ => L.length - (RowKit.intOf i).toNat)
  case atStart => exact ⟨0, 0, Nat.zero_le _, rfl, by first | rfl | simp, by simp [cntP], Below.refl _ _⟩
  case round =>
    obtain ⟨k, v, hk, rfl, rfl, hv, hB⟩ := hrel
    obtain ⟨wo, rfl⟩ : ∃ wo : World, wo = wr := ⟨_, rfl⟩
    have hcl := cnt_le x (L.take k)
    have hlk : (L.take k).length ≤ 2 := by rw [List.length_take]; omega
    have hv3 : v ≤ 3 := by omega
    by_cases hlt : k < L.length
    · obtain ⟨b1, o1, rfl, hF1, g0, g1⟩ := RdP.at_ (Rd.below hr3 hB) hlt
      have hst := cnt_step x L hlt
      have HST := Lib.hid hst
      have HV := Lib.hid hv
      clear hst hv hcl hlk
      generalize L[k] = e at *
      obtain ⟨e0, e1⟩ := e
      simp only at g0 g1 HST
      have i1' : (0 : Int) ≤ (k : Int) := by omega
      go_wp2_with fail
      (with_reducible refine (contains_any e0 e1 x _).mono ?_)
      cases hin : inP e0 e1 x
      · rintro e w4 ⟨rfl, hb4⟩
        rw [hin, if_neg (by simp), Nat.add_zero] at HST
        clear hin
        go_wp2_with fail
        go_roundw
        case rel => exact ⟨k + 1, v, by omega, by go_num, rfl, by rw [HST.out]; exact HV.out, hB.trans (hb4.mono hB.size)⟩
        case measure => simp [RowKit.intOf]; omega
      · rintro e w4 ⟨rfl, hb4⟩
        rw [hin, if_pos rfl] at HST
        clear hin
        go_wp2_with fail
        go_roundw
        case rel => exact ⟨k + 1, v + 1, by omega, by go_num, by go_num, by rw [HST.out]; have := HV.out; omega, hB.trans (hb4.mono hB.size)⟩
        case measure => simp [RowKit.intOf]; omega
    · have hke : L.take k = L := List.take_of_length_le (by omega)
      rw [hke] at hv
      have hvN := hv.trans HN.out
      obtain rfl := hvN
      clear hv hke hcl hlk hv3 HN
      have p0 := (hB.cell (p := ⟨w.heap.size, 0, none⟩) zp).trans p0
      have p1 := (hB.cell (p := ⟨w.heap.size, 1, none⟩) zp).trans p1
      have q0 := (hB.cell (p := ⟨w.heap.size + 1, 0, none⟩) zq).trans q0
      have q1 := (hB.cell (p := ⟨w.heap.size + 1, 1, none⟩) zq).trans q1
      have zp := Nat.lt_of_lt_of_le zp hB.size
      have zq := Nat.lt_of_lt_of_le zq hB.size
      have hBo := hB3.trans (hB.mono hB3.size)
      go_wp2_with fail
      (with_reducible refine (D4.out _).mono ?_)
      rintro e w5 ⟨rfl, hb5⟩
      have hB5 := hBo.trans (hb5.mono hBo.size)
      have p0 := (hb5.cell (p := ⟨w.heap.size, 0, none⟩) zp).trans p0
      have p1 := (hb5.cell (p := ⟨w.heap.size, 1, none⟩) zp).trans p1
      have q0 := (hb5.cell (p := ⟨w.heap.size + 1, 0, none⟩) zq).trans q0
      have q1 := (hb5.cell (p := ⟨w.heap.size + 1, 1, none⟩) zq).trans q1
      have zp := Nat.lt_of_lt_of_le zp hb5.size
      have zq := Nat.lt_of_lt_of_le zq hb5.size
      go_wp2_with fail
      (with_reducible refine (D5.out _).mono ?_)
      rintro e w6 ⟨rfl, hb6⟩
      have hB6 := hB5.trans (hb6.mono hB5.size)
      have p0 := (hb6.cell (p := ⟨w.heap.size, 0, none⟩) zp).trans p0
      have p1 := (hb6.cell (p := ⟨w.heap.size, 1, none⟩) zp).trans p1
      have q0 := (hb6.cell (p := ⟨w.heap.size + 1, 0, none⟩) zq).trans q0
      have q1 := (hb6.cell (p := ⟨w.heap.size + 1, 1, none⟩) zq).trans q1
      have zp := Nat.lt_of_lt_of_le zp hb6.size
      have zq := Nat.lt_of_lt_of_le zq hb6.size
      go_wp2_with fail
      have ha6 := Below.of_alloc (w := w6) (.cells #[.int .i64 m0, .int .i64 m1] 23)
      have hB6a := hB6.trans (ha6.mono hB6.size)
      have p0 := (ha6.cell (p := ⟨w.heap.size, 0, none⟩) zp).trans p0
      have p1 := (ha6.cell (p := ⟨w.heap.size, 1, none⟩) zp).trans p1
      have q0 := (ha6.cell (p := ⟨w.heap.size + 1, 0, none⟩) zq).trans q0
      have q1 := (ha6.cell (p := ⟨w.heap.size + 1, 1, none⟩) zq).trans q1
      have zp := Nat.lt_of_lt_of_le zp ha6.size
      have zq := Nat.lt_of_lt_of_le zq ha6.size
      generalize w6.alloc (.cells #[.int .i64 m0, .int .i64 m1] 23) = w6a at *
      (with_reducible refine (D6.out _).mono ?_)
      rintro e w7 ⟨rfl, hb7⟩
      have hB7 := hB6a.trans (hb7.mono hB6a.size)
      have p0 := (hb7.cell (p := ⟨w.heap.size, 0, none⟩) zp).trans p0
      have p1 := (hb7.cell (p := ⟨w.heap.size, 1, none⟩) zp).trans p1
      have q0 := (hb7.cell (p := ⟨w.heap.size + 1, 0, none⟩) zq).trans q0
      have q1 := (hb7.cell (p := ⟨w.heap.size + 1, 1, none⟩) zq).trans q1
      have zp := Nat.lt_of_lt_of_le zp hb7.size
      have zq := Nat.lt_of_lt_of_le zq hb7.size
      go_wp2_with fail
      (with_reducible refine (D7.out _).mono ?_)
      rintro e w8 ⟨rfl, hb8⟩
      have hB8 := hB7.trans (hb8.mono hB7.size)
      go_wp2_with fail
      (with_reducible refine (awake_any _ (he.below hB8)).mono ?_)
      rintro e w9 ⟨rfl, hb9⟩
      go_wp2_with fail
      go_ret
      exact ⟨rfl, hB8.trans (hb9.mono hB8.size)⟩

set_option maxRecDepth 100000 in
set_option maxHeartbeats 4000000 in
theorem part_fftf (f t a b x i0 i1 m0 m1 : Int) (L : List (Int × Int)) (w : World) (he : Env w) (C0 : ∀ w, Calls Tryd.prog 9 #[.agg #[.int .i64 f, .int .i64 t], .agg #[.int .i64 a, .int .i64 b]] w (Two i0 i1 false w)) (hc : inP f t x = true) (hL : L.length ≤ 2) (C2 : ∀ w, Calls Tryd.prog 14 #[.agg #[.int .i64 f, .int .i64 t], .agg #[.int .i64 a, .int .i64 b]] w (NewP w L)) (hN : 0 + cntP x L = 1) (C5 : ∀ w, Calls Tryd.prog 11 #[.agg #[.int .i64 f, .int .i64 t], .agg #[.int .i64 a, .int .i64 b]] w (Two m0 m1 false w)) :
    Calls Tryd.prog 6 #[.agg #[.int .i64 f, .int .i64 t], .agg #[.int .i64 a, .int .i64 b], .int .i64 x] w fun e w' => e = .returned (.bool true) ∧ Below w.heap.size w w' := by
  have D0 := Lib.hid C0
  have D2 := Lib.hid C2
  have D5 := Lib.hid C5
  have C4 := fun w => contains_any f t x w
  rw [hc] at C4
  have D4 := Lib.hid C4
  clear C4
  have HN := Lib.hid hN
  clear C0 C2 C5 hc hN
  go_enter Tryd.func6, Tryd.ntmps6
  go_wp2_with fail
  have hB0 := (Below.of_alloc (w := w) (.cells #[.int .i64 f, .int .i64 t] 23)).alloc (by simp) (.cells #[.int .i64 a, .int .i64 b] 23)
  have p0 := ((Below.of_alloc (w := (w.alloc (.cells #[.int .i64 f, .int .i64 t] 23))) (.cells #[.int .i64 a, .int .i64 b] 23)).cell (p := ⟨w.heap.size, 0, none⟩) (by simp)).trans (box_cell w #[.int .i64 f, .int .i64 t] 23 0 (u := .int .i64 f) rfl)
  have p1 := ((Below.of_alloc (w := (w.alloc (.cells #[.int .i64 f, .int .i64 t] 23))) (.cells #[.int .i64 a, .int .i64 b] 23)).cell (p := ⟨w.heap.size, 1, none⟩) (by simp)).trans (box_cell w #[.int .i64 f, .int .i64 t] 23 1 (u := .int .i64 t) rfl)
  have q0 := box_cell' (w.alloc (.cells #[.int .i64 f, .int .i64 t] 23)) (w.heap.size + 1) (by simp) #[.int .i64 a, .int .i64 b] 23 0 (u := .int .i64 a) rfl
  have q1 := box_cell' (w.alloc (.cells #[.int .i64 f, .int .i64 t] 23)) (w.heap.size + 1) (by simp) #[.int .i64 a, .int .i64 b] 23 1 (u := .int .i64 b) rfl
  have zq : w.heap.size + 1 < ((w.alloc (.cells #[.int .i64 f, .int .i64 t] 23)).alloc (.cells #[.int .i64 a, .int .i64 b] 23)).heap.size := by simp
  generalize ((w.alloc (.cells #[.int .i64 f, .int .i64 t] 23)).alloc (.cells #[.int .i64 a, .int .i64 b] 23)) = w0 at *
  have zp : w.heap.size < w0.heap.size := by omega
  (with_reducible refine (D0.out _).mono ?_)
  rintro e w1 ⟨rfl, hb1⟩
  have hB1 := hB0.trans (hb1.mono hB0.size)
  have p0 := (hb1.cell (p := ⟨w.heap.size, 0, none⟩) zp).trans p0
  have p1 := (hb1.cell (p := ⟨w.heap.size, 1, none⟩) zp).trans p1
  have q0 := (hb1.cell (p := ⟨w.heap.size + 1, 0, none⟩) zq).trans q0
  have q1 := (hb1.cell (p := ⟨w.heap.size + 1, 1, none⟩) zq).trans q1
  have zp := Nat.lt_of_lt_of_le zp hb1.size
  have zq := Nat.lt_of_lt_of_le zq hb1.size
  go_wp2_with fail
  have ha1 := Below.of_alloc (w := w1) (.cells #[.int .i64 i0, .int .i64 i1] 23)
  have hB1a := hB1.trans (ha1.mono hB1.size)
  have p0 := (ha1.cell (p := ⟨w.heap.size, 0, none⟩) zp).trans p0
  have p1 := (ha1.cell (p := ⟨w.heap.size, 1, none⟩) zp).trans p1
  have q0 := (ha1.cell (p := ⟨w.heap.size + 1, 0, none⟩) zq).trans q0
  have q1 := (ha1.cell (p := ⟨w.heap.size + 1, 1, none⟩) zq).trans q1
  have zp := Nat.lt_of_lt_of_le zp ha1.size
  have zq := Nat.lt_of_lt_of_le zq ha1.size
  generalize w1.alloc (.cells #[.int .i64 i0, .int .i64 i1] 23) = w1a at *
  (with_reducible refine (D2.out _).mono ?_)
  rintro e w3 ⟨v3, rfl, hr3, hb3⟩
  have hB3 := hB1a.trans (hb3.mono hB1a.size)
  have p0 := (hb3.cell (p := ⟨w.heap.size, 0, none⟩) zp).trans p0
  have p1 := (hb3.cell (p := ⟨w.heap.size, 1, none⟩) zp).trans p1
  have q0 := (hb3.cell (p := ⟨w.heap.size + 1, 0, none⟩) zq).trans q0
  have q1 := (hb3.cell (p := ⟨w.heap.size + 1, 1, none⟩) zq).trans q1
  have zp := Nat.lt_of_lt_of_le zp hb3.size
  have zq := Nat.lt_of_lt_of_le zq hb3.size
  obtain ⟨A, c, rfl, hc1, hc2, _⟩ := hr3.open_
  unfold maxLen at hc2
  have hL2 : ¬ (2 : Int) < (L.length : Int) := by omega
  go_wp2_with fail
  go_loopw [7, 11] (fun n i wr => PartRel w3 x 0 L n i wr) (fun _ i _ => L.length - (RowKit.intOf i).toNat)
  case atStart => exact ⟨0, 0, Nat.zero_le _, rfl, by first | rfl | simp, by simp [cntP], Below.refl _ _⟩
  case round =>
    obtain ⟨k, v, hk, rfl, rfl, hv, hB⟩ := hrel
    obtain ⟨wo, rfl⟩ : ∃ wo : World, wo = wr := ⟨_, rfl⟩
    have hcl := cnt_le x (L.take k)
    have hlk : (L.take k).length ≤ 2 := by rw [List.length_take]; omega
    have hv3 : v ≤ 3 := by omega
    by_cases hlt : k < L.length
    · obtain ⟨b1, o1, rfl, hF1, g0, g1⟩ := RdP.at_ (Rd.below hr3 hB) hlt
      have hst := cnt_step x L hlt
      have HST := Lib.hid hst
      have HV := Lib.hid hv
      clear hst hv hcl hlk
      generalize L[k] = e at *
      obtain ⟨e0, e1⟩ := e
      simp only at g0 g1 HST
      have i1' : (0 : Int) ≤ (k : Int) := by omega
      go_wp2_with fail
      (with_reducible refine (contains_any e0 e1 x _).mono ?_)
      cases hin : inP e0 e1 x
      · rintro e w4 ⟨rfl, hb4⟩
        rw [hin, if_neg (by simp), Nat.add_zero] at HST
        clear hin
        go_wp2_with fail
        go_roundw
        case rel => exact ⟨k + 1, v, by omega, by go_num, rfl, by rw [HST.out]; exact HV.out, hB.trans (hb4.mono hB.size)⟩
        case measure => simp [RowKit.intOf]; omega
      · rintro e w4 ⟨rfl, hb4⟩
        rw [hin, if_pos rfl] at HST
        clear hin
        go_wp2_with fail
        go_roundw
        case rel => exact ⟨k + 1, v + 1, by omega, by go_num, by go_num, by rw [HST.out]; have := HV.out; omega, hB.trans (hb4.mono hB.size)⟩
        case measure => simp [RowKit.intOf]; omega
    · have hke : L.take k = L := List.take_of_length_le (by omega)
      rw [hke] at hv
      have hvN := hv.trans HN.out
      obtain rfl := hvN
      clear hv hke hcl hlk hv3 HN
      have p0 := (hB.cell (p := ⟨w.heap.size, 0, none⟩) zp).trans p0
      have p1 := (hB.cell (p := ⟨w.heap.size, 1, none⟩) zp).trans p1
      have q0 := (hB.cell (p := ⟨w.heap.size + 1, 0, none⟩) zq).trans q0
      have q1 := (hB.cell (p := ⟨w.heap.size + 1, 1, none⟩) zq).trans q1
      have zp := Nat.lt_of_lt_of_le zp hB.size
      have zq := Nat.lt_of_lt_of_le zq hB.size
      have hBo := hB3.trans (hB.mono hB3.size)
      go_wp2_with fail
      (with_reducible refine (D4.out _).mono ?_)
      rintro e w5 ⟨rfl, hb5⟩
      have hB5 := hBo.trans (hb5.mono hBo.size)
      have p0 := (hb5.cell (p := ⟨w.heap.size, 0, none⟩) zp).trans p0
      have p1 := (hb5.cell (p := ⟨w.heap.size, 1, none⟩) zp).trans p1
      have q0 := (hb5.cell (p := ⟨w.heap.size + 1, 0, none⟩) zq).trans q0
      have q1 := (hb5.cell (p := ⟨w.heap.size + 1, 1, none⟩) zq).trans q1
      have zp := Nat.lt_of_lt_of_le zp hb5.size
      have zq := Nat.lt_of_lt_of_le zq hb5.size
      go_wp2_with fail
      (with_reducible refine (D5.out _).mono ?_)
      rintro e w6 ⟨rfl, hb6⟩
      have hB6 := hB5.trans (hb6.mono hB5.size)
      have p0 := (hb6.cell (p := ⟨w.heap.size, 0, none⟩) zp).trans p0
      have p1 := (hb6.cell (p := ⟨w.heap.size, 1, none⟩) zp).trans p1
      have q0 := (hb6.cell (p := ⟨w.heap.size + 1, 0, none⟩) zq).trans q0
      have q1 := (hb6.cell (p := ⟨w.heap.size + 1, 1, none⟩) zq).trans q1
      have zp := Nat.lt_of_lt_of_le zp hb6.size
      have zq := Nat.lt_of_lt_of_le zq hb6.size
      go_wp2_with fail
      have ha6 := Below.of_alloc (w := w6) (.cells #[.int .i64 m0, .int .i64 m1] 23)
      have hB6a := hB6.trans (ha6.mono hB6.size)
      have p0 := (ha6.cell (p := ⟨w.heap.size, 0, none⟩) zp).trans p0
      have p1 := (ha6.cell (p := ⟨w.heap.size, 1, none⟩) zp).trans p1
      have q0 := (ha6.cell (p := ⟨w.heap.size + 1, 0, none⟩) zq).trans q0
      have q1 := (ha6.cell (p := ⟨w.heap.size + 1, 1, none⟩) zq).trans q1
      have zp := Nat.lt_of_lt_of_le zp ha6.size
      have zq := Nat.lt_of_lt_of_le zq ha6.size
      generalize w6.alloc (.cells #[.int .i64 m0, .int .i64 m1] 23) = w6a at *
      (with_reducible refine (awake_any _ (he.below hB6a)).mono ?_)
      rintro e w9 ⟨rfl, hb9⟩
      go_wp2_with fail
      go_ret
      exact ⟨rfl, hB6a.trans (hb9.mono hB6a.size)⟩

set_option maxRecDepth 100000 in
set_option maxHeartbeats 4000000 in
theorem part_fftt (f t a b x i0 i1 m0 m1 : Int) (L : List (Int × Int)) (w : World) (he : Env w) (C0 : ∀ w, Calls Tryd.prog 9 #[.agg #[.int .i64 f, .int .i64 t], .agg #[.int .i64 a, .int .i64 b]] w (Two i0 i1 false w)) (hc : inP f t x = true) (hL : L.length ≤ 2) (C2 : ∀ w, Calls Tryd.prog 14 #[.agg #[.int .i64 f, .int .i64 t], .agg #[.int .i64 a, .int .i64 b]] w (NewP w L)) (hN : 0 + cntP x L = 1) (C5 : ∀ w, Calls Tryd.prog 11 #[.agg #[.int .i64 f, .int .i64 t], .agg #[.int .i64 a, .int .i64 b]] w (Two m0 m1 true w)) (hm : inP m0 m1 x = (inP f t x || inP a b x)) :
    Calls Tryd.prog 6 #[.agg #[.int .i64 f, .int .i64 t], .agg #[.int .i64 a, .int .i64 b], .int .i64 x] w fun e w' => e = .returned (.bool true) ∧ Below w.heap.size w w' := by
  have D0 := Lib.hid C0
  have D2 := Lib.hid C2
  have D5 := Lib.hid C5
  have C4 := fun w => contains_any f t x w
  rw [hc] at C4
  have D4 := Lib.hid C4
  clear C4
  have C6 := fun w => contains_any m0 m1 x w
  rw [hm, hc] at C6
  rw [Bool.true_or] at C6
  have D6 := Lib.hid C6
  clear C6 hm
  have HN := Lib.hid hN
  clear C0 C2 C5 hc hN
  go_enter Tryd.func6, Tryd.ntmps6
  go_wp2_with fail
  have hB0 := (Below.of_alloc (w := w) (.cells #[.int .i64 f, .int .i64 t] 23)).alloc (by simp) (.cells #[.int .i64 a, .int .i64 b] 23)
  have p0 := ((Below.of_alloc (w := (w.alloc (.cells #[.int .i64 f, .int .i64 t] 23))) (.cells #[.int .i64 a, .int .i64 b] 23)).cell (p := ⟨w.heap.size, 0, none⟩) (by simp)).trans (box_cell w #[.int .i64 f, .int .i64 t] 23 0 (u := .int .i64 f) rfl)
  have p1 := ((Below.of_alloc (w := (w.alloc (.cells #[.int .i64 f, .int .i64 t] 23))) (.cells #[.int .i64 a, .int .i64 b] 23)).cell (p := ⟨w.heap.size, 1, none⟩) (by simp)).trans (box_cell w #[.int .i64 f, .int .i64 t] 23 1 (u := .int .i64 t) rfl)
  have q0 := box_cell' (w.alloc (.cells #[.int .i64 f, .int .i64 t] 23)) (w.heap.size + 1) (by simp) #[.int .i64 a, .int .i64 b] 23 0 (u := .int .i64 a) rfl
  have q1 := box_cell' (w.alloc (.cells #[.int .i64 f, .int .i64 t] 23)) (w.heap.size + 1) (by simp) #[.int .i64 a, .int .i64 b] 23 1 (u := .int .i64 b) rfl
  have zq : w.heap.size + 1 < ((w.alloc (.cells #[.int .i64 f, .int .i64 t] 23)).alloc (.cells #[.int .i64 a, .int .i64 b] 23)).heap.size := by simp
  generalize ((w.alloc (.cells #[.int .i64 f, .int .i64 t] 23)).alloc (.cells #[.int .i64 a, .int .i64 b] 23)) = w0 at *
  have zp : w.heap.size < w0.heap.size := by omega
  (with_reducible refine (D0.out _).mono ?_)
  rintro e w1 ⟨rfl, hb1⟩
  have hB1 := hB0.trans (hb1.mono hB0.size)
  have p0 := (hb1.cell (p := ⟨w.heap.size, 0, none⟩) zp).trans p0
  have p1 := (hb1.cell (p := ⟨w.heap.size, 1, none⟩) zp).trans p1
  have q0 := (hb1.cell (p := ⟨w.heap.size + 1, 0, none⟩) zq).trans q0
  have q1 := (hb1.cell (p := ⟨w.heap.size + 1, 1, none⟩) zq).trans q1
  have zp := Nat.lt_of_lt_of_le zp hb1.size
  have zq := Nat.lt_of_lt_of_le zq hb1.size
  go_wp2_with fail
  have ha1 := Below.of_alloc (w := w1) (.cells #[.int .i64 i0, .int .i64 i1] 23)
  have hB1a := hB1.trans (ha1.mono hB1.size)
  have p0 := (ha1.cell (p := ⟨w.heap.size, 0, none⟩) zp).trans p0
  have p1 := (ha1.cell (p := ⟨w.heap.size, 1, none⟩) zp).trans p1
  have q0 := (ha1.cell (p := ⟨w.heap.size + 1, 0, none⟩) zq).trans q0
  have q1 := (ha1.cell (p := ⟨w.heap.size + 1, 1, none⟩) zq).trans q1
  have zp := Nat.lt_of_lt_of_le zp ha1.size
  have zq := Nat.lt_of_lt_of_le zq ha1.size
  generalize w1.alloc (.cells #[.int .i64 i0, .int .i64 i1] 23) = w1a at *
  (with_reducible refine (D2.out _).mono ?_)
  rintro e w3 ⟨v3, rfl, hr3, hb3⟩
  have hB3 := hB1a.trans (hb3.mono hB1a.size)
  have p0 := (hb3.cell (p := ⟨w.heap.size, 0, none⟩) zp).trans p0
  have p1 := (hb3.cell (p := ⟨w.heap.size, 1, none⟩) zp).trans p1
  have q0 := (hb3.cell (p := ⟨w.heap.size + 1, 0, none⟩) zq).trans q0
  have q1 := (hb3.cell (p := ⟨w.heap.size + 1, 1, none⟩) zq).trans q1
  have zp := Nat.lt_of_lt_of_le zp hb3.size
  have zq := Nat.lt_of_lt_of_le zq hb3.size
  obtain ⟨A, c, rfl, hc1, hc2, _⟩ := hr3.open_
  unfold maxLen at hc2
  have hL2 : ¬ (2 : Int) < (L.length : Int) := by omega
  go_wp2_with fail
  go_loopw [7, 11] (fun n i wr => PartRel w3 x 0 L n i wr) (fun _ i _ => L.length - (RowKit.intOf i).toNat)
  case atStart => exact ⟨0, 0, Nat.zero_le _, rfl, by first | rfl | simp, by simp [cntP], Below.refl _ _⟩
  case round =>
    obtain ⟨k, v, hk, rfl, rfl, hv, hB⟩ := hrel
    obtain ⟨wo, rfl⟩ : ∃ wo : World, wo = wr := ⟨_, rfl⟩
    have hcl := cnt_le x (L.take k)
    have hlk : (L.take k).length ≤ 2 := by rw [List.length_take]; omega
    have hv3 : v ≤ 3 := by omega
    by_cases hlt : k < L.length
    · obtain ⟨b1, o1, rfl, hF1, g0, g1⟩ := RdP.at_ (Rd.below hr3 hB) hlt
      have hst := cnt_step x L hlt
      have HST := Lib.hid hst
      have HV := Lib.hid hv
      clear hst hv hcl hlk
      generalize L[k] = e at *
      obtain ⟨e0, e1⟩ := e
      simp only at g0 g1 HST
      have i1' : (0 : Int) ≤ (k : Int) := by omega
      go_wp2_with fail
      (with_reducible refine (contains_any e0 e1 x _).mono ?_)
      cases hin : inP e0 e1 x
      · rintro e w4 ⟨rfl, hb4⟩
        rw [hin, if_neg (by simp), Nat.add_zero] at HST
        clear hin
        go_wp2_with fail
        go_roundw
        case rel => exact ⟨k + 1, v, by omega, by go_num, rfl, by rw [HST.out]; exact HV.out, hB.trans (hb4.mono hB.size)⟩
        case measure => simp [RowKit.intOf]; omega
      · rintro e w4 ⟨rfl, hb4⟩
        rw [hin, if_pos rfl] at HST
        clear hin
        go_wp2_with fail
        go_roundw
        case rel => exact ⟨k + 1, v + 1, by omega, by go_num, by go_num, by rw [HST.out]; have := HV.out; omega, hB.trans (hb4.mono hB.size)⟩
        case measure => simp [RowKit.intOf]; omega
    · have hke : L.take k = L := List.take_of_length_le (by omega)
      rw [hke] at hv
      have hvN := hv.trans HN.out
      obtain rfl := hvN
      clear hv hke hcl hlk hv3 HN
      have p0 := (hB.cell (p := ⟨w.heap.size, 0, none⟩) zp).trans p0
      have p1 := (hB.cell (p := ⟨w.heap.size, 1, none⟩) zp).trans p1
      have q0 := (hB.cell (p := ⟨w.heap.size + 1, 0, none⟩) zq).trans q0
      have q1 := (hB.cell (p := ⟨w.heap.size + 1, 1, none⟩) zq).trans q1
      have zp := Nat.lt_of_lt_of_le zp hB.size
      have zq := Nat.lt_of_lt_of_le zq hB.size
      have hBo := hB3.trans (hB.mono hB3.size)
      go_wp2_with fail
      (with_reducible refine (D4.out _).mono ?_)
      rintro e w5 ⟨rfl, hb5⟩
      have hB5 := hBo.trans (hb5.mono hBo.size)
      have p0 := (hb5.cell (p := ⟨w.heap.size, 0, none⟩) zp).trans p0
      have p1 := (hb5.cell (p := ⟨w.heap.size, 1, none⟩) zp).trans p1
      have q0 := (hb5.cell (p := ⟨w.heap.size + 1, 0, none⟩) zq).trans q0
      have q1 := (hb5.cell (p := ⟨w.heap.size + 1, 1, none⟩) zq).trans q1
      have zp := Nat.lt_of_lt_of_le zp hb5.size
      have zq := Nat.lt_of_lt_of_le zq hb5.size
      go_wp2_with fail
      (with_reducible refine (D5.out _).mono ?_)
      rintro e w6 ⟨rfl, hb6⟩
      have hB6 := hB5.trans (hb6.mono hB5.size)
      have p0 := (hb6.cell (p := ⟨w.heap.size, 0, none⟩) zp).trans p0
      have p1 := (hb6.cell (p := ⟨w.heap.size, 1, none⟩) zp).trans p1
      have q0 := (hb6.cell (p := ⟨w.heap.size + 1, 0, none⟩) zq).trans q0
      have q1 := (hb6.cell (p := ⟨w.heap.size + 1, 1, none⟩) zq).trans q1
      have zp := Nat.lt_of_lt_of_le zp hb6.size
      have zq := Nat.lt_of_lt_of_le zq hb6.size
      go_wp2_with fail
      have ha6 := Below.of_alloc (w := w6) (.cells #[.int .i64 m0, .int .i64 m1] 23)
      have hB6a := hB6.trans (ha6.mono hB6.size)
      have p0 := (ha6.cell (p := ⟨w.heap.size, 0, none⟩) zp).trans p0
      have p1 := (ha6.cell (p := ⟨w.heap.size, 1, none⟩) zp).trans p1
      have q0 := (ha6.cell (p := ⟨w.heap.size + 1, 0, none⟩) zq).trans q0
      have q1 := (ha6.cell (p := ⟨w.heap.size + 1, 1, none⟩) zq).trans q1
      have zp := Nat.lt_of_lt_of_le zp ha6.size
      have zq := Nat.lt_of_lt_of_le zq ha6.size
      generalize w6.alloc (.cells #[.int .i64 m0, .int .i64 m1] 23) = w6a at *
      (with_reducible refine (D6.out _).mono ?_)
      rintro e w7 ⟨rfl, hb7⟩
      have hB7 := hB6a.trans (hb7.mono hB6a.size)
      have p0 := (hb7.cell (p := ⟨w.heap.size, 0, none⟩) zp).trans p0
      have p1 := (hb7.cell (p := ⟨w.heap.size, 1, none⟩) zp).trans p1
      have q0 := (hb7.cell (p := ⟨w.heap.size + 1, 0, none⟩) zq).trans q0
      have q1 := (hb7.cell (p := ⟨w.heap.size + 1, 1, none⟩) zq).trans q1
      have zp := Nat.lt_of_lt_of_le zp hb7.size
      have zq := Nat.lt_of_lt_of_le zq hb7.size
      go_wp2_with fail
      (with_reducible refine (awake_any _ (he.below hB7)).mono ?_)
      rintro e w9 ⟨rfl, hb9⟩
      go_wp2_with fail
      go_ret
      exact ⟨rfl, hB7.trans (hb9.mono hB7.size)⟩

set_option maxRecDepth 100000 in
set_option maxHeartbeats 4000000 in
theorem part_tfff (f t a b x i0 i1 m0 m1 : Int) (L : List (Int × Int)) (w : World) (he : Env w) (C0 : ∀ w, Calls Tryd.prog 9 #[.agg #[.int .i64 f, .int .i64 t], .agg #[.int .i64 a, .int .i64 b]] w (Two i0 i1 true w)) (hi : inP i0 i1 x = false) (hc : inP f t x = false) (hL : L.length ≤ 2) (C2 : ∀ w, Calls Tryd.prog 14 #[.agg #[.int .i64 f, .int .i64 t], .agg #[.int .i64 a, .int .i64 b]] w (NewP w L)) (hN : 0 + cntP x L = 0) (C5 : ∀ w, Calls Tryd.prog 11 #[.agg #[.int .i64 f, .int .i64 t], .agg #[.int .i64 a, .int .i64 b]] w (Two m0 m1 false w)) :
    Calls Tryd.prog 6 #[.agg #[.int .i64 f, .int .i64 t], .agg #[.int .i64 a, .int .i64 b], .int .i64 x] w fun e w' => e = .returned (.bool true) ∧ Below w.heap.size w w' := by
  have D0 := Lib.hid C0
  have D2 := Lib.hid C2
  have D5 := Lib.hid C5
  have C1 := fun w => contains_any i0 i1 x w
  rw [hi] at C1
  have D1 := Lib.hid C1
  clear C1 hi
  have C4 := fun w => contains_any f t x w
  rw [hc] at C4
  have D4 := Lib.hid C4
  clear C4
  have HN := Lib.hid hN
  clear C0 C2 C5 hc hN
  go_enter Tryd.func6, Tryd.ntmps6
  go_wp2_with fail
  have hB0 := (Below.of_alloc (w := w) (.cells #[.int .i64 f, .int .i64 t] 23)).alloc (by simp) (.cells #[.int .i64 a, .int .i64 b] 23)
  have p0 := ((Below.of_alloc (w := (w.alloc (.cells #[.int .i64 f, .int .i64 t] 23))) (.cells #[.int .i64 a, .int .i64 b] 23)).cell (p := ⟨w.heap.size, 0, none⟩) (by simp)).trans (box_cell w #[.int .i64 f, .int .i64 t] 23 0 (u := .int .i64 f) rfl)
  have p1 := ((Below.of_alloc (w := (w.alloc (.cells #[.int .i64 f, .int .i64 t] 23))) (.cells #[.int .i64 a, .int .i64 b] 23)).cell (p := ⟨w.heap.size, 1, none⟩) (by simp)).trans (box_cell w #[.int .i64 f, .int .i64 t] 23 1 (u := .int .i64 t) rfl)
  have q0 := box_cell' (w.alloc (.cells #[.int .i64 f, .int .i64 t] 23)) (w.heap.size + 1) (by simp) #[.int .i64 a, .int .i64 b] 23 0 (u := .int .i64 a) rfl
  have q1 := box_cell' (w.alloc (.cells #[.int .i64 f, .int .i64 t] 23)) (w.heap.size + 1) (by simp) #[.int .i64 a, .int .i64 b] 23 1 (u := .int .i64 b) rfl
  have zq : w.heap.size + 1 < ((w.alloc (.cells #[.int .i64 f, .int .i64 t] 23)).alloc (.cells #[.int .i64 a, .int .i64 b] 23)).heap.size := by simp
  generalize ((w.alloc (.cells #[.int .i64 f, .int .i64 t] 23)).alloc (.cells #[.int .i64 a, .int .i64 b] 23)) = w0 at *
  have zp : w.heap.size < w0.heap.size := by omega
  (with_reducible refine (D0.out _).mono ?_)
  rintro e w1 ⟨rfl, hb1⟩
  have hB1 := hB0.trans (hb1.mono hB0.size)
  have p0 := (hb1.cell (p := ⟨w.heap.size, 0, none⟩) zp).trans p0
  have p1 := (hb1.cell (p := ⟨w.heap.size, 1, none⟩) zp).trans p1
  have q0 := (hb1.cell (p := ⟨w.heap.size + 1, 0, none⟩) zq).trans q0
  have q1 := (hb1.cell (p := ⟨w.heap.size + 1, 1, none⟩) zq).trans q1
  have zp := Nat.lt_of_lt_of_le zp hb1.size
  have zq := Nat.lt_of_lt_of_le zq hb1.size
  go_wp2_with fail
  have ha1 := Below.of_alloc (w := w1) (.cells #[.int .i64 i0, .int .i64 i1] 23)
  have hB1a := hB1.trans (ha1.mono hB1.size)
  have p0 := (ha1.cell (p := ⟨w.heap.size, 0, none⟩) zp).trans p0
  have p1 := (ha1.cell (p := ⟨w.heap.size, 1, none⟩) zp).trans p1
  have q0 := (ha1.cell (p := ⟨w.heap.size + 1, 0, none⟩) zq).trans q0
  have q1 := (ha1.cell (p := ⟨w.heap.size + 1, 1, none⟩) zq).trans q1
  have zp := Nat.lt_of_lt_of_le zp ha1.size
  have zq := Nat.lt_of_lt_of_le zq ha1.size
  generalize w1.alloc (.cells #[.int .i64 i0, .int .i64 i1] 23) = w1a at *
  (with_reducible refine (D1.out _).mono ?_)
  rintro e w2 ⟨rfl, hb2⟩
  have hB2 := hB1a.trans (hb2.mono hB1a.size)
  have p0 := (hb2.cell (p := ⟨w.heap.size, 0, none⟩) zp).trans p0
  have p1 := (hb2.cell (p := ⟨w.heap.size, 1, none⟩) zp).trans p1
  have q0 := (hb2.cell (p := ⟨w.heap.size + 1, 0, none⟩) zq).trans q0
  have q1 := (hb2.cell (p := ⟨w.heap.size + 1, 1, none⟩) zq).trans q1
  have zp := Nat.lt_of_lt_of_le zp hb2.size
  have zq := Nat.lt_of_lt_of_le zq hb2.size
  go_wp2_with fail
  (with_reducible refine (D2.out _).mono ?_)
  rintro e w3 ⟨v3, rfl, hr3, hb3⟩
  have hB3 := hB2.trans (hb3.mono hB2.size)
  have p0 := (hb3.cell (p := ⟨w.heap.size, 0, none⟩) zp).trans p0
  have p1 := (hb3.cell (p := ⟨w.heap.size, 1, none⟩) zp).trans p1
  have q0 := (hb3.cell (p := ⟨w.heap.size + 1, 0, none⟩) zq).trans q0
  have q1 := (hb3.cell (p := ⟨w.heap.size + 1, 1, none⟩) zq).trans q1
  have zp := Nat.lt_of_lt_of_le zp hb3.size
  have zq := Nat.lt_of_lt_of_le zq hb3.size
  obtain ⟨A, c, rfl, hc1, hc2, _⟩ := hr3.open_
  unfold maxLen at hc2
  have hL2 : ¬ (2 : Int) < (L.length : Int) := by omega
  go_wp2_with fail
  go_loopw [7, 11] (fun n i wr => PartRel w3 x 0 L n i wr) (fun _ i _ => L.length - (RowKit.intOf i).toNat)
  case atStart => exact ⟨0, 0, Nat.zero_le _, rfl, by first | rfl | simp, by simp [cntP], Below.refl _ _⟩
  case round =>
    obtain ⟨k, v, hk, rfl, rfl, hv, hB⟩ := hrel
    obtain ⟨wo, rfl⟩ : ∃ wo : World, wo = wr := ⟨_, rfl⟩
    have hcl := cnt_le x (L.take k)
    have hlk : (L.take k).length ≤ 2 := by rw [List.length_take]; omega
    have hv3 : v ≤ 3 := by omega
    by_cases hlt : k < L.length
    · obtain ⟨b1, o1, rfl, hF1, g0, g1⟩ := RdP.at_ (Rd.below hr3 hB) hlt
      have hst := cnt_step x L hlt
      have HST := Lib.hid hst
      have HV := Lib.hid hv
      clear hst hv hcl hlk
      generalize L[k] = e at *
      obtain ⟨e0, e1⟩ := e
      simp only at g0 g1 HST
      have i1' : (0 : Int) ≤ (k : Int) := by omega
      go_wp2_with fail
      (with_reducible refine (contains_any e0 e1 x _).mono ?_)
      cases hin : inP e0 e1 x
      · rintro e w4 ⟨rfl, hb4⟩
        rw [hin, if_neg (by simp), Nat.add_zero] at HST
        clear hin
        go_wp2_with fail
        go_roundw
        case rel => exact ⟨k + 1, v, by omega, by go_num, rfl, by rw [HST.out]; exact HV.out, hB.trans (hb4.mono hB.size)⟩
        case measure => simp [RowKit.intOf]; omega
      · rintro e w4 ⟨rfl, hb4⟩
        rw [hin, if_pos rfl] at HST
        clear hin
        go_wp2_with fail
        go_roundw
        case rel => exact ⟨k + 1, v + 1, by omega, by go_num, by go_num, by rw [HST.out]; have := HV.out; omega, hB.trans (hb4.mono hB.size)⟩
        case measure => simp [RowKit.intOf]; omega
    · have hke : L.take k = L := List.take_of_length_le (by omega)
      rw [hke] at hv
      have hvN := hv.trans HN.out
      obtain rfl := hvN
      clear hv hke hcl hlk hv3 HN
      have p0 := (hB.cell (p := ⟨w.heap.size, 0, none⟩) zp).trans p0
      have p1 := (hB.cell (p := ⟨w.heap.size, 1, none⟩) zp).trans p1
      have q0 := (hB.cell (p := ⟨w.heap.size + 1, 0, none⟩) zq).trans q0
      have q1 := (hB.cell (p := ⟨w.heap.size + 1, 1, none⟩) zq).trans q1
      have zp := Nat.lt_of_lt_of_le zp hB.size
      have zq := Nat.lt_of_lt_of_le zq hB.size
      have hBo := hB3.trans (hB.mono hB3.size)
      go_wp2_with fail
      (with_reducible refine (D4.out _).mono ?_)
      rintro e w5 ⟨rfl, hb5⟩
      have hB5 := hBo.trans (hb5.mono hBo.size)
      have p0 := (hb5.cell (p := ⟨w.heap.size, 0, none⟩) zp).trans p0
      have p1 := (hb5.cell (p := ⟨w.heap.size, 1, none⟩) zp).trans p1
      have q0 := (hb5.cell (p := ⟨w.heap.size + 1, 0, none⟩) zq).trans q0
      have q1 := (hb5.cell (p := ⟨w.heap.size + 1, 1, none⟩) zq).trans q1
      have zp := Nat.lt_of_lt_of_le zp hb5.size
      have zq := Nat.lt_of_lt_of_le zq hb5.size
      go_wp2_with fail
      (with_reducible refine (D5.out _).mono ?_)
      rintro e w6 ⟨rfl, hb6⟩
      have hB6 := hB5.trans (hb6.mono hB5.size)
      have p0 := (hb6.cell (p := ⟨w.heap.size, 0, none⟩) zp).trans p0
      have p1 := (hb6.cell (p := ⟨w.heap.size, 1, none⟩) zp).trans p1
      have q0 := (hb6.cell (p := ⟨w.heap.size + 1, 0, none⟩) zq).trans q0
      have q1 := (hb6.cell (p := ⟨w.heap.size + 1, 1, none⟩) zq).trans q1
      have zp := Nat.lt_of_lt_of_le zp hb6.size
      have zq := Nat.lt_of_lt_of_le zq hb6.size
      go_wp2_with fail
      have ha6 := Below.of_alloc (w := w6) (.cells #[.int .i64 m0, .int .i64 m1] 23)
      have hB6a := hB6.trans (ha6.mono hB6.size)
      have p0 := (ha6.cell (p := ⟨w.heap.size, 0, none⟩) zp).trans p0
      have p1 := (ha6.cell (p := ⟨w.heap.size, 1, none⟩) zp).trans p1
      have q0 := (ha6.cell (p := ⟨w.heap.size + 1, 0, none⟩) zq).trans q0
      have q1 := (ha6.cell (p := ⟨w.heap.size + 1, 1, none⟩) zq).trans q1
      have zp := Nat.lt_of_lt_of_le zp ha6.size
      have zq := Nat.lt_of_lt_of_le zq ha6.size
      generalize w6.alloc (.cells #[.int .i64 m0, .int .i64 m1] 23) = w6a at *
      (with_reducible refine (awake_any _ (he.below hB6a)).mono ?_)
      rintro e w9 ⟨rfl, hb9⟩
      go_wp2_with fail
      go_ret
      exact ⟨rfl, hB6a.trans (hb9.mono hB6a.size)⟩

set_option maxRecDepth 100000 in
set_option maxHeartbeats 4000000 in
theorem part_tfft (f t a b x i0 i1 m0 m1 : Int) (L : List (Int × Int)) (w : World) (he : Env w) (C0 : ∀ w, Calls Tryd.prog 9 #[.agg #[.int .i64 f, .int .i64 t], .agg #[.int .i64 a, .int .i64 b]] w (Two i0 i1 true w)) (hi : inP i0 i1 x = false) (hc : inP f t x = false) (hL : L.length ≤ 2) (C2 : ∀ w, Calls Tryd.prog 14 #[.agg #[.int .i64 f, .int .i64 t], .agg #[.int .i64 a, .int .i64 b]] w (NewP w L)) (hN : 0 + cntP x L = 0) (C5 : ∀ w, Calls Tryd.prog 11 #[.agg #[.int .i64 f, .int .i64 t], .agg #[.int .i64 a, .int .i64 b]] w (Two m0 m1 true w)) (hm : inP m0 m1 x = (inP f t x || inP a b x)) :
    Calls Tryd.prog 6 #[.agg #[.int .i64 f, .int .i64 t], .agg #[.int .i64 a, .int .i64 b], .int .i64 x] w fun e w' => e = .returned (.bool true) ∧ Below w.heap.size w w' := by
  have D0 := Lib.hid C0
  have D2 := Lib.hid C2
  have D5 := Lib.hid C5
  have C1 := fun w => contains_any i0 i1 x w
  rw [hi] at C1
  have D1 := Lib.hid C1
  clear C1 hi
  have C4 := fun w => contains_any f t x w
  rw [hc] at C4
  have D4 := Lib.hid C4
  clear C4
  have C6 := fun w => contains_any m0 m1 x w
  rw [hm, hc] at C6
  rw [Bool.false_or] at C6
  have C7 := fun w => contains_any a b x w
  generalize inP a b x = c1 at C6 C7
  have D7 := Lib.hid C7
  clear C7
  have D6 := Lib.hid C6
  clear C6 hm
  have HN := Lib.hid hN
  clear C0 C2 C5 hc hN
  go_enter Tryd.func6, Tryd.ntmps6
  go_wp2_with fail
  have hB0 := (Below.of_alloc (w := w) (.cells #[.int .i64 f, .int .i64 t] 23)).alloc (by simp) (.cells #[.int .i64 a, .int .i64 b] 23)
  have p0 := ((Below.of_alloc (w := (w.alloc (.cells #[.int .i64 f, .int .i64 t] 23))) (.cells #[.int .i64 a, .int .i64 b] 23)).cell (p := ⟨w.heap.size, 0, none⟩) (by simp)).trans (box_cell w #[.int .i64 f, .int .i64 t] 23 0 (u := .int .i64 f) rfl)
  have p1 := ((Below.of_alloc (w := (w.alloc (.cells #[.int .i64 f, .int .i64 t] 23))) (.cells #[.int .i64 a, .int .i64 b] 23)).cell (p := ⟨w.heap.size, 1, none⟩) (by simp)).trans (box_cell w #[.int .i64 f, .int .i64 t] 23 1 (u := .int .i64 t) rfl)
  have q0 := box_cell' (w.alloc (.cells #[.int .i64 f, .int .i64 t] 23)) (w.heap.size + 1) (by simp) #[.int .i64 a, .int .i64 b] 23 0 (u := .int .i64 a) rfl
  have q1 := box_cell' (w.alloc (.cells #[.int .i64 f, .int .i64 t] 23)) (w.heap.size + 1) (by simp) #[.int .i64 a, .int .i64 b] 23 1 (u := .int .i64 b) rfl
  have zq : w.heap.size + 1 < ((w.alloc (.cells #[.int .i64 f, .int .i64 t] 23)).alloc (.cells #[.int .i64 a, .int .i64 b] 23)).heap.size := by simp
  generalize ((w.alloc (.cells #[.int .i64 f, .int .i64 t] 23)).alloc (.cells #[.int .i64 a, .int .i64 b] 23)) = w0 at *
  have zp : w.heap.size < w0.heap.size := by omega
  (with_reducible refine (D0.out _).mono ?_)
  rintro e w1 ⟨rfl, hb1⟩
  have hB1 := hB0.trans (hb1.mono hB0.size)
  have p0 := (hb1.cell (p := ⟨w.heap.size, 0, none⟩) zp).trans p0
  have p1 := (hb1.cell (p := ⟨w.heap.size, 1, none⟩) zp).trans p1
  have q0 := (hb1.cell (p := ⟨w.heap.size + 1, 0, none⟩) zq).trans q0
  have q1 := (hb1.cell (p := ⟨w.heap.size + 1, 1, none⟩) zq).trans q1
  have zp := Nat.lt_of_lt_of_le zp hb1.size
  have zq := Nat.lt_of_lt_of_le zq hb1.size
  go_wp2_with fail
  have ha1 := Below.of_alloc (w := w1) (.cells #[.int .i64 i0, .int .i64 i1] 23)
  have hB1a := hB1.trans (ha1.mono hB1.size)
  have p0 := (ha1.cell (p := ⟨w.heap.size, 0, none⟩) zp).trans p0
  have p1 := (ha1.cell (p := ⟨w.heap.size, 1, none⟩) zp).trans p1
  have q0 := (ha1.cell (p := ⟨w.heap.size + 1, 0, none⟩) zq).trans q0
  have q1 := (ha1.cell (p := ⟨w.heap.size + 1, 1, none⟩) zq).trans q1
  have zp := Nat.lt_of_lt_of_le zp ha1.size
  have zq := Nat.lt_of_lt_of_le zq ha1.size
  generalize w1.alloc (.cells #[.int .i64 i0, .int .i64 i1] 23) = w1a at *
  (with_reducible refine (D1.out _).mono ?_)
  rintro e w2 ⟨rfl, hb2⟩
  have hB2 := hB1a.trans (hb2.mono hB1a.size)
  have p0 := (hb2.cell (p := ⟨w.heap.size, 0, none⟩) zp).trans p0
  have p1 := (hb2.cell (p := ⟨w.heap.size, 1, none⟩) zp).trans p1
  have q0 := (hb2.cell (p := ⟨w.heap.size + 1, 0, none⟩) zq).trans q0
  have q1 := (hb2.cell (p := ⟨w.heap.size + 1, 1, none⟩) zq).trans q1
  have zp := Nat.lt_of_lt_of_le zp hb2.size
  have zq := Nat.lt_of_lt_of_le zq hb2.size
  go_wp2_with fail
  (with_reducible refine (D2.out _).mono ?_)
  rintro e w3 ⟨v3, rfl, hr3, hb3⟩
  have hB3 := hB2.trans (hb3.mono hB2.size)
  have p0 := (hb3.cell (p := ⟨w.heap.size, 0, none⟩) zp).trans p0
  have p1 := (hb3.cell (p := ⟨w.heap.size, 1, none⟩) zp).trans p1
  have q0 := (hb3.cell (p := ⟨w.heap.size + 1, 0, none⟩) zq).trans q0
  have q1 := (hb3.cell (p := ⟨w.heap.size + 1, 1, none⟩) zq).trans q1
  have zp := Nat.lt_of_lt_of_le zp hb3.size
  have zq := Nat.lt_of_lt_of_le zq hb3.size
  obtain ⟨A, c, rfl, hc1, hc2, _⟩ := hr3.open_
  unfold maxLen at hc2
  have hL2 : ¬ (2 : Int) < (L.length : Int) := by omega
  go_wp2_with fail
  go_loopw [7, 11] (fun n i wr => PartRel w3 x 0 L n i wr) (fun _ i _ => L.length - (RowKit.intOf i).toNat)
  case atStart => exact ⟨0, 0, Nat.zero_le _, rfl, by first | rfl | simp, by simp [cntP], Below.refl _ _⟩
  case round =>
    obtain ⟨k, v, hk, rfl, rfl, hv, hB⟩ := hrel
    obtain ⟨wo, rfl⟩ : ∃ wo : World, wo = wr := ⟨_, rfl⟩
    have hcl := cnt_le x (L.take k)
    have hlk : (L.take k).length ≤ 2 := by rw [List.length_take]; omega
    have hv3 : v ≤ 3 := by omega
    by_cases hlt : k < L.length
    · obtain ⟨b1, o1, rfl, hF1, g0, g1⟩ := RdP.at_ (Rd.below hr3 hB) hlt
      have hst := cnt_step x L hlt
      have HST := Lib.hid hst
      have HV := Lib.hid hv
      clear hst hv hcl hlk
      generalize L[k] = e at *
      obtain ⟨e0, e1⟩ := e
      simp only at g0 g1 HST
      have i1' : (0 : Int) ≤ (k : Int) := by omega
      go_wp2_with fail
      (with_reducible refine (contains_any e0 e1 x _).mono ?_)
      cases hin : inP e0 e1 x
      · rintro e w4 ⟨rfl, hb4⟩
        rw [hin, if_neg (by simp), Nat.add_zero] at HST
        clear hin
        go_wp2_with fail
        go_roundw
        case rel => exact ⟨k + 1, v, by omega, by go_num, rfl, by rw [HST.out]; exact HV.out, hB.trans (hb4.mono hB.size)⟩
        case measure => simp [RowKit.intOf]; omega
      · rintro e w4 ⟨rfl, hb4⟩
        rw [hin, if_pos rfl] at HST
        clear hin
        go_wp2_with fail
        go_roundw
        case rel => exact ⟨k + 1, v + 1, by omega, by go_num, by go_num, by rw [HST.out]; have := HV.out; omega, hB.trans (hb4.mono hB.size)⟩
        case measure => simp [RowKit.intOf]; omega
    · have hke : L.take k = L := List.take_of_length_le (by omega)
      rw [hke] at hv
      have hvN := hv.trans HN.out
      obtain rfl := hvN
      clear hv hke hcl hlk hv3 HN
      have p0 := (hB.cell (p := ⟨w.heap.size, 0, none⟩) zp).trans p0
      have p1 := (hB.cell (p := ⟨w.heap.size, 1, none⟩) zp).trans p1
      have q0 := (hB.cell (p := ⟨w.heap.size + 1, 0, none⟩) zq).trans q0
      have q1 := (hB.cell (p := ⟨w.heap.size + 1, 1, none⟩) zq).trans q1
      have zp := Nat.lt_of_lt_of_le zp hB.size
      have zq := Nat.lt_of_lt_of_le zq hB.size
      have hBo := hB3.trans (hB.mono hB3.size)
      go_wp2_with fail
      (with_reducible refine (D4.out _).mono ?_)
      rintro e w5 ⟨rfl, hb5⟩
      have hB5 := hBo.trans (hb5.mono hBo.size)
      have p0 := (hb5.cell (p := ⟨w.heap.size, 0, none⟩) zp).trans p0
      have p1 := (hb5.cell (p := ⟨w.heap.size, 1, none⟩) zp).trans p1
      have q0 := (hb5.cell (p := ⟨w.heap.size + 1, 0, none⟩) zq).trans q0
      have q1 := (hb5.cell (p := ⟨w.heap.size + 1, 1, none⟩) zq).trans q1
      have zp := Nat.lt_of_lt_of_le zp hb5.size
      have zq := Nat.lt_of_lt_of_le zq hb5.size
      go_wp2_with fail
      (with_reducible refine (D5.out _).mono ?_)
      rintro e w6 ⟨rfl, hb6⟩
      have hB6 := hB5.trans (hb6.mono hB5.size)
      have p0 := (hb6.cell (p := ⟨w.heap.size, 0, none⟩) zp).trans p0
      have p1 := (hb6.cell (p := ⟨w.heap.size, 1, none⟩) zp).trans p1
      have q0 := (hb6.cell (p := ⟨w.heap.size + 1, 0, none⟩) zq).trans q0
      have q1 := (hb6.cell (p := ⟨w.heap.size + 1, 1, none⟩) zq).trans q1
      have zp := Nat.lt_of_lt_of_le zp hb6.size
      have zq := Nat.lt_of_lt_of_le zq hb6.size
      go_wp2_with fail
      have ha6 := Below.of_alloc (w := w6) (.cells #[.int .i64 m0, .int .i64 m1] 23)
      have hB6a := hB6.trans (ha6.mono hB6.size)
      have p0 := (ha6.cell (p := ⟨w.heap.size, 0, none⟩) zp).trans p0
      have p1 := (ha6.cell (p := ⟨w.heap.size, 1, none⟩) zp).trans p1
      have q0 := (ha6.cell (p := ⟨w.heap.size + 1, 0, none⟩) zq).trans q0
      have q1 := (ha6.cell (p := ⟨w.heap.size + 1, 1, none⟩) zq).trans q1
      have zp := Nat.lt_of_lt_of_le zp ha6.size
      have zq := Nat.lt_of_lt_of_le zq ha6.size
      generalize w6.alloc (.cells #[.int .i64 m0, .int .i64 m1] 23) = w6a at *
      (with_reducible refine (D6.out _).mono ?_)
      rintro e w7 ⟨rfl, hb7⟩
      have hB7 := hB6a.trans (hb7.mono hB6a.size)
      have p0 := (hb7.cell (p := ⟨w.heap.size, 0, none⟩) zp).trans p0
      have p1 := (hb7.cell (p := ⟨w.heap.size, 1, none⟩) zp).trans p1
      have q0 := (hb7.cell (p := ⟨w.heap.size + 1, 0, none⟩) zq).trans q0
      have q1 := (hb7.cell (p := ⟨w.heap.size + 1, 1, none⟩) zq).trans q1
      have zp := Nat.lt_of_lt_of_le zp hb7.size
      have zq := Nat.lt_of_lt_of_le zq hb7.size
      go_wp2_with fail
      (with_reducible refine (D7.out _).mono ?_)
      rintro e w8 ⟨rfl, hb8⟩
      have hB8 := hB7.trans (hb8.mono hB7.size)
      go_wp2_with fail
      (with_reducible refine (awake_any _ (he.below hB8)).mono ?_)
      rintro e w9 ⟨rfl, hb9⟩
      go_wp2_with fail
      go_ret
      exact ⟨rfl, hB8.trans (hb9.mono hB8.size)⟩

set_option maxRecDepth 100000 in
set_option maxHeartbeats 4000000 in
theorem part_tftf (f t a b x i0 i1 m0 m1 : Int) (L : List (Int × Int)) (w : World) (he : Env w) (C0 : ∀ w, Calls Tryd.prog 9 #[.agg #[.int .i64 f, .int .i64 t], .agg #[.int .i64 a, .int .i64 b]] w (Two i0 i1 true w)) (hi : inP i0 i1 x = false) (hc : inP f t x = true) (hL : L.length ≤ 2) (C2 : ∀ w, Calls Tryd.prog 14 #[.agg #[.int .i64 f, .int .i64 t], .agg #[.int .i64 a, .int .i64 b]] w (NewP w L)) (hN : 0 + cntP x L = 1) (C5 : ∀ w, Calls Tryd.prog 11 #[.agg #[.int .i64 f, .int .i64 t], .agg #[.int .i64 a, .int .i64 b]] w (Two m0 m1 false w)) :
    Calls Tryd.prog 6 #[.agg #[.int .i64 f, .int .i64 t], .agg #[.int .i64 a, .int .i64 b], .int .i64 x] w fun e w' => e = .returned (.bool true) ∧ Below w.heap.size w w' := by
  have D0 := Lib.hid C0
  have D2 := Lib.hid C2
  have D5 := Lib.hid C5
  have C1 := fun w => contains_any i0 i1 x w
  rw [hi] at C1
  have D1 := Lib.hid C1
  clear C1 hi
  have C4 := fun w => contains_any f t x w
  rw [hc] at C4
  have D4 := Lib.hid C4
  clear C4
  have HN := Lib.hid hN
  clear C0 C2 C5 hc hN
  go_enter Tryd.func6, Tryd.ntmps6
  go_wp2_with fail
  have hB0 := (Below.of_alloc (w := w) (.cells #[.int .i64 f, .int .i64 t] 23)).alloc (by simp) (.cells #[.int .i64 a, .int .i64 b] 23)
  have p0 := ((Below.of_alloc (w := (w.alloc (.cells #[.int .i64 f, .int .i64 t] 23))) (.cells #[.int .i64 a, .int .i64 b] 23)).cell (p := ⟨w.heap.size, 0, none⟩) (by simp)).trans (box_cell w #[.int .i64 f, .int .i64 t] 23 0 (u := .int .i64 f) rfl)
  have p1 := ((Below.of_alloc (w := (w.alloc (.cells #[.int .i64 f, .int .i64 t] 23))) (.cells #[.int .i64 a, .int .i64 b] 23)).cell (p := ⟨w.heap.size, 1, none⟩) (by simp)).trans (box_cell w #[.int .i64 f, .int .i64 t] 23 1 (u := .int .i64 t) rfl)
  have q0 := box_cell' (w.alloc (.cells #[.int .i64 f, .int .i64 t] 23)) (w.heap.size + 1) (by simp) #[.int .i64 a, .int .i64 b] 23 0 (u := .int .i64 a) rfl
  have q1 := box_cell' (w.alloc (.cells #[.int .i64 f, .int .i64 t] 23)) (w.heap.size + 1) (by simp) #[.int .i64 a, .int .i64 b] 23 1 (u := .int .i64 b) rfl
  have zq : w.heap.size + 1 < ((w.alloc (.cells #[.int .i64 f, .int .i64 t] 23)).alloc (.cells #[.int .i64 a, .int .i64 b] 23)).heap.size := by simp
  generalize ((w.alloc (.cells #[.int .i64 f, .int .i64 t] 23)).alloc (.cells #[.int .i64 a, .int .i64 b] 23)) = w0 at *
  have zp : w.heap.size < w0.heap.size := by omega
  (with_reducible refine (D0.out _).mono ?_)
  rintro e w1 ⟨rfl, hb1⟩
  have hB1 := hB0.trans (hb1.mono hB0.size)
  have p0 := (hb1.cell (p := ⟨w.heap.size, 0, none⟩) zp).trans p0
  have p1 := (hb1.cell (p := ⟨w.heap.size, 1, none⟩) zp).trans p1
  have q0 := (hb1.cell (p := ⟨w.heap.size + 1, 0, none⟩) zq).trans q0
  have q1 := (hb1.cell (p := ⟨w.heap.size + 1, 1, none⟩) zq).trans q1
  have zp := Nat.lt_of_lt_of_le zp hb1.size
  have zq := Nat.lt_of_lt_of_le zq hb1.size
  go_wp2_with fail
  have ha1 := Below.of_alloc (w := w1) (.cells #[.int .i64 i0, .int .i64 i1] 23)
  have hB1a := hB1.trans (ha1.mono hB1.size)
  have p0 := (ha1.cell (p := ⟨w.heap.size, 0, none⟩) zp).trans p0
  have p1 := (ha1.cell (p := ⟨w.heap.size, 1, none⟩) zp).trans p1
  have q0 := (ha1.cell (p := ⟨w.heap.size + 1, 0, none⟩) zq).trans q0
  have q1 := (ha1.cell (p := ⟨w.heap.size + 1, 1, none⟩) zq).trans q1
  have zp := Nat.lt_of_lt_of_le zp ha1.size
  have zq := Nat.lt_of_lt_of_le zq ha1.size
  generalize w1.alloc (.cells #[.int .i64 i0, .int .i64 i1] 23) = w1a at *
  (with_reducible refine (D1.out _).mono ?_)
  rintro e w2 ⟨rfl, hb2⟩
  have hB2 := hB1a.trans (hb2.mono hB1a.size)
  have p0 := (hb2.cell (p := ⟨w.heap.size, 0, none⟩) zp).trans p0
  have p1 := (hb2.cell (p := ⟨w.heap.size, 1, none⟩) zp).trans p1
  have q0 := (hb2.cell (p := ⟨w.heap.size + 1, 0, none⟩) zq).trans q0
  have q1 := (hb2.cell (p := ⟨w.heap.size + 1, 1, none⟩) zq).trans q1
  have zp := Nat.lt_of_lt_of_le zp hb2.size
  have zq := Nat.lt_of_lt_of_le zq hb2.size
  go_wp2_with fail
  (with_reducible refine (D2.out _).mono ?_)
  rintro e w3 ⟨v3, rfl, hr3, hb3⟩
  have hB3 := hB2.trans (hb3.mono hB2.size)
  have p0 := (hb3.cell (p := ⟨w.heap.size, 0, none⟩) zp).trans p0
  have p1 := (hb3.cell (p := ⟨w.heap.size, 1, none⟩) zp).trans p1
  have q0 := (hb3.cell (p := ⟨w.heap.size + 1, 0, none⟩) zq).trans q0
  have q1 := (hb3.cell (p := ⟨w.heap.size + 1, 1, none⟩) zq).trans q1
  have zp := Nat.lt_of_lt_of_le zp hb3.size
  have zq := Nat.lt_of_lt_of_le zq hb3.size
  obtain ⟨A, c, rfl, hc1, hc2, _⟩ := hr3.open_
  unfold maxLen at hc2
  have hL2 : ¬ (2 : Int) < (L.length : Int) := by omega
  go_wp2_with fail
  go_loopw [7, 11] (fun n i wr => PartRel w3 x 0 L n i wr) (fun _ i _ => L.length - (RowKit.intOf i).toNat)
  case atStart => exact ⟨0, 0, Nat.zero_le _, rfl, by first | rfl | simp, by simp [cntP], Below.refl _ _⟩
  case round =>
    obtain ⟨k, v, hk, rfl, rfl, hv, hB⟩ := hrel
    obtain ⟨wo, rfl⟩ : ∃ wo : World, wo = wr := ⟨_, rfl⟩
    have hcl := cnt_le x (L.take k)
    have hlk : (L.take k).length ≤ 2 := by rw [List.length_take]; omega
    have hv3 : v ≤ 3 := by omega
    by_cases hlt : k < L.length
    · obtain ⟨b1, o1, rfl, hF1, g0, g1⟩ := RdP.at_ (Rd.below hr3 hB) hlt
      have hst := cnt_step x L hlt
      have HST := Lib.hid hst
      have HV := Lib.hid hv
      clear hst hv hcl hlk
      generalize L[k] = e at *
      obtain ⟨e0, e1⟩ := e
      simp only at g0 g1 HST
      have i1' : (0 : Int) ≤ (k : Int) := by omega
      go_wp2_with fail
      (with_reducible refine (contains_any e0 e1 x _).mono ?_)
      cases hin : inP e0 e1 x
      · rintro e w4 ⟨rfl, hb4⟩
        rw [hin, if_neg (by simp), Nat.add_zero] at HST
        clear hin
        go_wp2_with fail
        go_roundw
        case rel => exact ⟨k + 1, v, by omega, by go_num, rfl, by rw [HST.out]; exact HV.out, hB.trans (hb4.mono hB.size)⟩
        case measure => simp [RowKit.intOf]; omega
      · rintro e w4 ⟨rfl, hb4⟩
        rw [hin, if_pos rfl] at HST
        clear hin
        go_wp2_with fail
        go_roundw
        case rel => exact ⟨k + 1, v + 1, by omega, by go_num, by go_num, by rw [HST.out]; have := HV.out; omega, hB.trans (hb4.mono hB.size)⟩
        case measure => simp [RowKit.intOf]; omega
    · have hke : L.take k = L := List.take_of_length_le (by omega)
      rw [hke] at hv
      have hvN := hv.trans HN.out
      obtain rfl := hvN
      clear hv hke hcl hlk hv3 HN
      have p0 := (hB.cell (p := ⟨w.heap.size, 0, none⟩) zp).trans p0
      have p1 := (hB.cell (p := ⟨w.heap.size, 1, none⟩) zp).trans p1
      have q0 := (hB.cell (p := ⟨w.heap.size + 1, 0, none⟩) zq).trans q0
      have q1 := (hB.cell (p := ⟨w.heap.size + 1, 1, none⟩) zq).trans q1
      have zp := Nat.lt_of_lt_of_le zp hB.size
      have zq := Nat.lt_of_lt_of_le zq hB.size
      have hBo := hB3.trans (hB.mono hB3.size)
      go_wp2_with fail
      (with_reducible refine (D4.out _).mono ?_)
      rintro e w5 ⟨rfl, hb5⟩
      have hB5 := hBo.trans (hb5.mono hBo.size)
      have p0 := (hb5.cell (p := ⟨w.heap.size, 0, none⟩) zp).trans p0
      have p1 := (hb5.cell (p := ⟨w.heap.size, 1, none⟩) zp).trans p1
      have q0 := (hb5.cell (p := ⟨w.heap.size + 1, 0, none⟩) zq).trans q0
      have q1 := (hb5.cell (p := ⟨w.heap.size + 1, 1, none⟩) zq).trans q1
      have zp := Nat.lt_of_lt_of_le zp hb5.size
      have zq := Nat.lt_of_lt_of_le zq hb5.size
      go_wp2_with fail
      (with_reducible refine (D5.out _).mono ?_)
      rintro e w6 ⟨rfl, hb6⟩
      have hB6 := hB5.trans (hb6.mono hB5.size)
      have p0 := (hb6.cell (p := ⟨w.heap.size, 0, none⟩) zp).trans p0
      have p1 := (hb6.cell (p := ⟨w.heap.size, 1, none⟩) zp).trans p1
      have q0 := (hb6.cell (p := ⟨w.heap.size + 1, 0, none⟩) zq).trans q0
      have q1 := (hb6.cell (p := ⟨w.heap.size + 1, 1, none⟩) zq).trans q1
      have zp := Nat.lt_of_lt_of_le zp hb6.size
      have zq := Nat.lt_of_lt_of_le zq hb6.size
      go_wp2_with fail
      have ha6 := Below.of_alloc (w := w6) (.cells #[.int .i64 m0, .int .i64 m1] 23)
      have hB6a := hB6.trans (ha6.mono hB6.size)
      have p0 := (ha6.cell (p := ⟨w.heap.size, 0, none⟩) zp).trans p0
      have p1 := (ha6.cell (p := ⟨w.heap.size, 1, none⟩) zp).trans p1
      have q0 := (ha6.cell (p := ⟨w.heap.size + 1, 0, none⟩) zq).trans q0
      have q1 := (ha6.cell (p := ⟨w.heap.size + 1, 1, none⟩) zq).trans q1
      have zp := Nat.lt_of_lt_of_le zp ha6.size
      have zq := Nat.lt_of_lt_of_le zq ha6.size
      generalize w6.alloc (.cells #[.int .i64 m0, .int .i64 m1] 23) = w6a at *
      (with_reducible refine (awake_any _ (he.below hB6a)).mono ?_)
      rintro e w9 ⟨rfl, hb9⟩
      go_wp2_with fail
      go_ret
      exact ⟨rfl, hB6a.trans (hb9.mono hB6a.size)⟩

set_option maxRecDepth 100000 in
set_option maxHeartbeats 4000000 in
theorem part_tftt (f t a b x i0 i1 m0 m1 : Int) (L : List (Int × Int)) (w : World) (he : Env w) (C0 : ∀ w, Calls Tryd.prog 9 #[.agg #[.int .i64 f, .int .i64 t], .agg #[.int .i64 a, .int .i64 b]] w (Two i0 i1 true w)) (hi : inP i0 i1 x = false) (hc : inP f t x = true) (hL : L.length ≤ 2) (C2 : ∀ w, Calls Tryd.prog 14 #[.agg #[.int .i64 f, .int .i64 t], .agg #[.int .i64 a, .int .i64 b]] w (NewP w L)) (hN : 0 + cntP x L = 1) (C5 : ∀ w, Calls Tryd.prog 11 #[.agg #[.int .i64 f, .int .i64 t], .agg #[.int .i64 a, .int .i64 b]] w (Two m0 m1 true w)) (hm : inP m0 m1 x = (inP f t x || inP a b x)) :
    Calls Tryd.prog 6 #[.agg #[.int .i64 f, .int .i64 t], .agg #[.int .i64 a, .int .i64 b], .int .i64 x] w fun e w' => e = .returned (.bool true) ∧ Below w.heap.size w w' := by
  have D0 := Lib.hid C0
  have D2 := Lib.hid C2
  have D5 := Lib.hid C5
  have C1 := fun w => contains_any i0 i1 x w
  rw [hi] at C1
  have D1 := Lib.hid C1
  clear C1 hi
  have C4 := fun w => contains_any f t x w
  rw [hc] at C4
  have D4 := Lib.hid C4
  clear C4
  have C6 := fun w => contains_any m0 m1 x w
  rw [hm, hc] at C6
  rw [Bool.true_or] at C6
  have D6 := Lib.hid C6
  clear C6 hm
  have HN := Lib.hid hN
  clear C0 C2 C5 hc hN
  go_enter Tryd.func6, Tryd.ntmps6
  go_wp2_with fail
  have hB0 := (Below.of_alloc (w := w) (.cells #[.int .i64 f, .int .i64 t] 23)).alloc (by simp) (.cells #[.int .i64 a, .int .i64 b] 23)
  have p0 := ((Below.of_alloc (w := (w.alloc (.cells #[.int .i64 f, .int .i64 t] 23))) (.cells #[.int .i64 a, .int .i64 b] 23)).cell (p := ⟨w.heap.size, 0, none⟩) (by simp)).trans (box_cell w #[.int .i64 f, .int .i64 t] 23 0 (u := .int .i64 f) rfl)
  have p1 := ((Below.of_alloc (w := (w.alloc (.cells #[.int .i64 f, .int .i64 t] 23))) (.cells #[.int .i64 a, .int .i64 b] 23)).cell (p := ⟨w.heap.size, 1, none⟩) (by simp)).trans (box_cell w #[.int .i64 f, .int .i64 t] 23 1 (u := .int .i64 t) rfl)
  have q0 := box_cell' (w.alloc (.cells #[.int .i64 f, .int .i64 t] 23)) (w.heap.size + 1) (by simp) #[.int .i64 a, .int .i64 b] 23 0 (u := .int .i64 a) rfl
  have q1 := box_cell' (w.alloc (.cells #[.int .i64 f, .int .i64 t] 23)) (w.heap.size + 1) (by simp) #[.int .i64 a, .int .i64 b] 23 1 (u := .int .i64 b) rfl
  have zq : w.heap.size + 1 < ((w.alloc (.cells #[.int .i64 f, .int .i64 t] 23)).alloc (.cells #[.int .i64 a, .int .i64 b] 23)).heap.size := by simp
  generalize ((w.alloc (.cells #[.int .i64 f, .int .i64 t] 23)).alloc (.cells #[.int .i64 a, .int .i64 b] 23)) = w0 at *
  have zp : w.heap.size < w0.heap.size := by omega
  (with_reducible refine (D0.out _).mono ?_)
  rintro e w1 ⟨rfl, hb1⟩
  have hB1 := hB0.trans (hb1.mono hB0.size)
  have p0 := (hb1.cell (p := ⟨w.heap.size, 0, none⟩) zp).trans p0
  have p1 := (hb1.cell (p := ⟨w.heap.size, 1, none⟩) zp).trans p1
  have q0 := (hb1.cell (p := ⟨w.heap.size + 1, 0, none⟩) zq).trans q0
  have q1 := (hb1.cell (p := ⟨w.heap.size + 1, 1, none⟩) zq).trans q1
  have zp := Nat.lt_of_lt_of_le zp hb1.size
  have zq := Nat.lt_of_lt_of_le zq hb1.size
  go_wp2_with fail
  have ha1 := Below.of_alloc (w := w1) (.cells #[.int .i64 i0, .int .i64 i1] 23)
  have hB1a := hB1.trans (ha1.mono hB1.size)
  have p0 := (ha1.cell (p := ⟨w.heap.size, 0, none⟩) zp).trans p0
  have p1 := (ha1.cell (p := ⟨w.heap.size, 1, none⟩) zp).trans p1
  have q0 := (ha1.cell (p := ⟨w.heap.size + 1, 0, none⟩) zq).trans q0
  have q1 := (ha1.cell (p := ⟨w.heap.size + 1, 1, none⟩) zq).trans q1
  have zp := Nat.lt_of_lt_of_le zp ha1.size
  have zq := Nat.lt_of_lt_of_le zq ha1.size
  generalize w1.alloc (.cells #[.int .i64 i0, .int .i64 i1] 23) = w1a at *
  (with_reducible refine (D1.out _).mono ?_)
  rintro e w2 ⟨rfl, hb2⟩
  have hB2 := hB1a.trans (hb2.mono hB1a.size)
  have p0 := (hb2.cell (p := ⟨w.heap.size, 0, none⟩) zp).trans p0
  have p1 := (hb2.cell (p := ⟨w.heap.size, 1, none⟩) zp).trans p1
  have q0 := (hb2.cell (p := ⟨w.heap.size + 1, 0, none⟩) zq).trans q0
  have q1 := (hb2.cell (p := ⟨w.heap.size + 1, 1, none⟩) zq).trans q1
  have zp := Nat.lt_of_lt_of_le zp hb2.size
  have zq := Nat.lt_of_lt_of_le zq hb2.size
  go_wp2_with fail
  (with_reducible refine (D2.out _).mono ?_)
  rintro e w3 ⟨v3, rfl, hr3, hb3⟩
  have hB3 := hB2.trans (hb3.mono hB2.size)
  have p0 := (hb3.cell (p := ⟨w.heap.size, 0, none⟩) zp).trans p0
  have p1 := (hb3.cell (p := ⟨w.heap.size, 1, none⟩) zp).trans p1
  have q0 := (hb3.cell (p := ⟨w.heap.size + 1, 0, none⟩) zq).trans q0
  have q1 := (hb3.cell (p := ⟨w.heap.size + 1, 1, none⟩) zq).trans q1
  have zp := Nat.lt_of_lt_of_le zp hb3.size
  have zq := Nat.lt_of_lt_of_le zq hb3.size
  obtain ⟨A, c, rfl, hc1, hc2, _⟩ := hr3.open_
  unfold maxLen at hc2
  have hL2 : ¬ (2 : Int) < (L.length : Int) := by omega
  go_wp2_with fail
  go_loopw [7, 11] (fun n i wr => PartRel w3 x 0 L n i wr) (fun _ i _ => L.length - (RowKit.intOf i).toNat)
  case atStart => exact ⟨0, 0, Nat.zero_le _, rfl, by first | rfl | simp, by simp [cntP], Below.refl _ _⟩
  case round =>
    obtain ⟨k, v, hk, rfl, rfl, hv, hB⟩ := hrel
    obtain ⟨wo, rfl⟩ : ∃ wo : World, wo = wr := ⟨_, rfl⟩
    have hcl := cnt_le x (L.take k)
    have hlk : (L.take k).length ≤ 2 := by rw [List.length_take]; omega
    have hv3 : v ≤ 3 := by omega
    by_cases hlt : k < L.length
    · obtain ⟨b1, o1, rfl, hF1, g0, g1⟩ := RdP.at_ (Rd.below hr3 hB) hlt
      have hst := cnt_step x L hlt
      have HST := Lib.hid hst
      have HV := Lib.hid hv
      clear hst hv hcl hlk
      generalize L[k] = e at *
      obtain ⟨e0, e1⟩ := e
      simp only at g0 g1 HST
      have i1' : (0 : Int) ≤ (k : Int) := by omega
      go_wp2_with fail
      (with_reducible refine (contains_any e0 e1 x _).mono ?_)
      cases hin : inP e0 e1 x
      · rintro e w4 ⟨rfl, hb4⟩
        rw [hin, if_neg (by simp), Nat.add_zero] at HST
        clear hin
        go_wp2_with fail
        go_roundw
        case rel => exact ⟨k + 1, v, by omega, by go_num, rfl, by rw [HST.out]; exact HV.out, hB.trans (hb4.mono hB.size)⟩
        case measure => simp [RowKit.intOf]; omega
      · rintro e w4 ⟨rfl, hb4⟩
        rw [hin, if_pos rfl] at HST
        clear hin
        go_wp2_with fail
        go_roundw
        case rel => exact ⟨k + 1, v + 1, by omega, by go_num, by go_num, by rw [HST.out]; have := HV.out; omega, hB.trans (hb4.mono hB.size)⟩
        case measure => simp [RowKit.intOf]; omega
    · have hke : L.take k = L := List.take_of_length_le (by omega)
      rw [hke] at hv
      have hvN := hv.trans HN.out
      obtain rfl := hvN
      clear hv hke hcl hlk hv3 HN
      have p0 := (hB.cell (p := ⟨w.heap.size, 0, none⟩) zp).trans p0
      have p1 := (hB.cell (p := ⟨w.heap.size, 1, none⟩) zp).trans p1
      have q0 := (hB.cell (p := ⟨w.heap.size + 1, 0, none⟩) zq).trans q0
      have q1 := (hB.cell (p := ⟨w.heap.size + 1, 1, none⟩) zq).trans q1
      have zp := Nat.lt_of_lt_of_le zp hB.size
      have zq := Nat.lt_of_lt_of_le zq hB.size
      have hBo := hB3.trans (hB.mono hB3.size)
      go_wp2_with fail
      (with_reducible refine (D4.out _).mono ?_)
      rintro e w5 ⟨rfl, hb5⟩
      have hB5 := hBo.trans (hb5.mono hBo.size)
      have p0 := (hb5.cell (p := ⟨w.heap.size, 0, none⟩) zp).trans p0
      have p1 := (hb5.cell (p := ⟨w.heap.size, 1, none⟩) zp).trans p1
      have q0 := (hb5.cell (p := ⟨w.heap.size + 1, 0, none⟩) zq).trans q0
      have q1 := (hb5.cell (p := ⟨w.heap.size + 1, 1, none⟩) zq).trans q1
      have zp := Nat.lt_of_lt_of_le zp hb5.size
      have zq := Nat.lt_of_lt_of_le zq hb5.size
      go_wp2_with fail
      (with_reducible refine (D5.out _).mono ?_)
      rintro e w6 ⟨rfl, hb6⟩
      have hB6 := hB5.trans (hb6.mono hB5.size)
      have p0 := (hb6.cell (p := ⟨w.heap.size, 0, none⟩) zp).trans p0
      have p1 := (hb6.cell (p := ⟨w.heap.size, 1, none⟩) zp).trans p1
      have q0 := (hb6.cell (p := ⟨w.heap.size + 1, 0, none⟩) zq).trans q0
      have q1 := (hb6.cell (p := ⟨w.heap.size + 1, 1, none⟩) zq).trans q1
      have zp := Nat.lt_of_lt_of_le zp hb6.size
      have zq := Nat.lt_of_lt_of_le zq hb6.size
      go_wp2_with fail
      have ha6 := Below.of_alloc (w := w6) (.cells #[.int .i64 m0, .int .i64 m1] 23)
      have hB6a := hB6.trans (ha6.mono hB6.size)
      have p0 := (ha6.cell (p := ⟨w.heap.size, 0, none⟩) zp).trans p0
      have p1 := (ha6.cell (p := ⟨w.heap.size, 1, none⟩) zp).trans p1
      have q0 := (ha6.cell (p := ⟨w.heap.size + 1, 0, none⟩) zq).trans q0
      have q1 := (ha6.cell (p := ⟨w.heap.size + 1, 1, none⟩) zq).trans q1
      have zp := Nat.lt_of_lt_of_le zp ha6.size
      have zq := Nat.lt_of_lt_of_le zq ha6.size
      generalize w6.alloc (.cells #[.int .i64 m0, .int .i64 m1] 23) = w6a at *
      (with_reducible refine (D6.out _).mono ?_)
      rintro e w7 ⟨rfl, hb7⟩
      have hB7 := hB6a.trans (hb7.mono hB6a.size)
      have p0 := (hb7.cell (p := ⟨w.heap.size, 0, none⟩) zp).trans p0
      have p1 := (hb7.cell (p := ⟨w.heap.size, 1, none⟩) zp).trans p1
      have q0 := (hb7.cell (p := ⟨w.heap.size + 1, 0, none⟩) zq).trans q0
      have q1 := (hb7.cell (p := ⟨w.heap.size + 1, 1, none⟩) zq).trans q1
      have zp := Nat.lt_of_lt_of_le zp hb7.size
      have zq := Nat.lt_of_lt_of_le zq hb7.size
      go_wp2_with fail
      (with_reducible refine (awake_any _ (he.below hB7)).mono ?_)
      rintro e w9 ⟨rfl, hb9⟩
      go_wp2_with fail
      go_ret
      exact ⟨rfl, hB7.trans (hb9.mono hB7.size)⟩

set_option maxRecDepth 100000 in
set_option maxHeartbeats 4000000 in
theorem part_ttff (f t a b x i0 i1 m0 m1 : Int) (L : List (Int × Int)) (w : World) (he : Env w) (C0 : ∀ w, Calls Tryd.prog 9 #[.agg #[.int .i64 f, .int .i64 t], .agg #[.int .i64 a, .int .i64 b]] w (Two i0 i1 true w)) (hi : inP i0 i1 x = true) (hc : inP f t x = false) (hL : L.length ≤ 2) (C2 : ∀ w, Calls Tryd.prog 14 #[.agg #[.int .i64 f, .int .i64 t], .agg #[.int .i64 a, .int .i64 b]] w (NewP w L)) (hN : 1 + cntP x L = 0) (C5 : ∀ w, Calls Tryd.prog 11 #[.agg #[.int .i64 f, .int .i64 t], .agg #[.int .i64 a, .int .i64 b]] w (Two m0 m1 false w)) :
    Calls Tryd.prog 6 #[.agg #[.int .i64 f, .int .i64 t], .agg #[.int .i64 a, .int .i64 b], .int .i64 x] w fun e w' => e = .returned (.bool true) ∧ Below w.heap.size w w' := by
  have D0 := Lib.hid C0
  have D2 := Lib.hid C2
  have D5 := Lib.hid C5
  have C1 := fun w => contains_any i0 i1 x w
  rw [hi] at C1
  have D1 := Lib.hid C1
  clear C1 hi
  have C4 := fun w => contains_any f t x w
  rw [hc] at C4
  have D4 := Lib.hid C4
  clear C4
  have HN := Lib.hid hN
  clear C0 C2 C5 hc hN
  go_enter Tryd.func6, Tryd.ntmps6
  go_wp2_with fail
  have hB0 := (Below.of_alloc (w := w) (.cells #[.int .i64 f, .int .i64 t] 23)).alloc (by simp) (.cells #[.int .i64 a, .int .i64 b] 23)
  have p0 := ((Below.of_alloc (w := (w.alloc (.cells #[.int .i64 f, .int .i64 t] 23))) (.cells #[.int .i64 a, .int .i64 b] 23)).cell (p := ⟨w.heap.size, 0, none⟩) (by simp)).trans (box_cell w #[.int .i64 f, .int .i64 t] 23 0 (u := .int .i64 f) rfl)
  have p1 := ((Below.of_alloc (w := (w.alloc (.cells #[.int .i64 f, .int .i64 t] 23))) (.cells #[.int .i64 a, .int .i64 b] 23)).cell (p := ⟨w.heap.size, 1, none⟩) (by simp)).trans (box_cell w #[.int .i64 f, .int .i64 t] 23 1 (u := .int .i64 t) rfl)
  have q0 := box_cell' (w.alloc (.cells #[.int .i64 f, .int .i64 t] 23)) (w.heap.size + 1) (by simp) #[.int .i64 a, .int .i64 b] 23 0 (u := .int .i64 a) rfl
  have q1 := box_cell' (w.alloc (.cells #[.int .i64 f, .int .i64 t] 23)) (w.heap.size + 1) (by simp) #[.int .i64 a, .int .i64 b] 23 1 (u := .int .i64 b) rfl
  have zq : w.heap.size + 1 < ((w.alloc (.cells #[.int .i64 f, .int .i64 t] 23)).alloc (.cells #[.int .i64 a, .int .i64 b] 23)).heap.size := by simp
  generalize ((w.alloc (.cells #[.int .i64 f, .int .i64 t] 23)).alloc (.cells #[.int .i64 a, .int .i64 b] 23)) = w0 at *
  have zp : w.heap.size < w0.heap.size := by omega
  (with_reducible refine (D0.out _).mono ?_)
  rintro e w1 ⟨rfl, hb1⟩
  have hB1 := hB0.trans (hb1.mono hB0.size)
  have p0 := (hb1.cell (p := ⟨w.heap.size, 0, none⟩) zp).trans p0
  have p1 := (hb1.cell (p := ⟨w.heap.size, 1, none⟩) zp).trans p1
  have q0 := (hb1.cell (p := ⟨w.heap.size + 1, 0, none⟩) zq).trans q0
  have q1 := (hb1.cell (p := ⟨w.heap.size + 1, 1, none⟩) zq).trans q1
  have zp := Nat.lt_of_lt_of_le zp hb1.size
  have zq := Nat.lt_of_lt_of_le zq hb1.size
  go_wp2_with fail
  have ha1 := Below.of_alloc (w := w1) (.cells #[.int .i64 i0, .int .i64 i1] 23)
  have hB1a := hB1.trans (ha1.mono hB1.size)
  have p0 := (ha1.cell (p := ⟨w.heap.size, 0, none⟩) zp).trans p0
  have p1 := (ha1.cell (p := ⟨w.heap.size, 1, none⟩) zp).trans p1
  have q0 := (ha1.cell (p := ⟨w.heap.size + 1, 0, none⟩) zq).trans q0
  have q1 := (ha1.cell (p := ⟨w.heap.size + 1, 1, none⟩) zq).trans q1
  have zp := Nat.lt_of_lt_of_le zp ha1.size
  have zq := Nat.lt_of_lt_of_le zq ha1.size
  generalize w1.alloc (.cells #[.int .i64 i0, .int .i64 i1] 23) = w1a at *
  (with_reducible refine (D1.out _).mono ?_)
  rintro e w2 ⟨rfl, hb2⟩
  have hB2 := hB1a.trans (hb2.mono hB1a.size)
  have p0 := (hb2.cell (p := ⟨w.heap.size, 0, none⟩) zp).trans p0
  have p1 := (hb2.cell (p := ⟨w.heap.size, 1, none⟩) zp).trans p1
  have q0 := (hb2.cell (p := ⟨w.heap.size + 1, 0, none⟩) zq).trans q0
  have q1 := (hb2.cell (p := ⟨w.heap.size + 1, 1, none⟩) zq).trans q1
  have zp := Nat.lt_of_lt_of_le zp hb2.size
  have zq := Nat.lt_of_lt_of_le zq hb2.size
  go_wp2_with fail
  (with_reducible refine (D2.out _).mono ?_)
  rintro e w3 ⟨v3, rfl, hr3, hb3⟩
  have hB3 := hB2.trans (hb3.mono hB2.size)
  have p0 := (hb3.cell (p := ⟨w.heap.size, 0, none⟩) zp).trans p0
  have p1 := (hb3.cell (p := ⟨w.heap.size, 1, none⟩) zp).trans p1
  have q0 := (hb3.cell (p := ⟨w.heap.size + 1, 0, none⟩) zq).trans q0
  have q1 := (hb3.cell (p := ⟨w.heap.size + 1, 1, none⟩) zq).trans q1
  have zp := Nat.lt_of_lt_of_le zp hb3.size
  have zq := Nat.lt_of_lt_of_le zq hb3.size
  obtain ⟨A, c, rfl, hc1, hc2, _⟩ := hr3.open_
  unfold maxLen at hc2
  have hL2 : ¬ (2 : Int) < (L.length : Int) := by omega
  go_wp2_with fail
  go_loopw [7, 11] (fun n i wr => PartRel w3 x 1 L n i wr) (fun _ i _ => L.length - (RowKit.intOf i).toNat)
  case atStart => exact ⟨0, 1, Nat.zero_le _, rfl, by first | rfl | simp, by simp [cntP], Below.refl _ _⟩
  case round =>
    obtain ⟨k, v, hk, rfl, rfl, hv, hB⟩ := hrel
    obtain ⟨wo, rfl⟩ : ∃ wo : World, wo = wr := ⟨_, rfl⟩
    have hcl := cnt_le x (L.take k)
    have hlk : (L.take k).length ≤ 2 := by rw [List.length_take]; omega
    have hv3 : v ≤ 3 := by omega
    by_cases hlt : k < L.length
    · obtain ⟨b1, o1, rfl, hF1, g0, g1⟩ := RdP.at_ (Rd.below hr3 hB) hlt
      have hst := cnt_step x L hlt
      have HST := Lib.hid hst
      have HV := Lib.hid hv
      clear hst hv hcl hlk
      generalize L[k] = e at *
      obtain ⟨e0, e1⟩ := e
      simp only at g0 g1 HST
      have i1' : (0 : Int) ≤ (k : Int) := by omega
      go_wp2_with fail
      (with_reducible refine (contains_any e0 e1 x _).mono ?_)
      cases hin : inP e0 e1 x
      · rintro e w4 ⟨rfl, hb4⟩
        rw [hin, if_neg (by simp), Nat.add_zero] at HST
        clear hin
        go_wp2_with fail
        go_roundw
        case rel => exact ⟨k + 1, v, by omega, by go_num, rfl, by rw [HST.out]; exact HV.out, hB.trans (hb4.mono hB.size)⟩
        case measure => simp [RowKit.intOf]; omega
      · rintro e w4 ⟨rfl, hb4⟩
        rw [hin, if_pos rfl] at HST
        clear hin
        go_wp2_with fail
        go_roundw
        case rel => exact ⟨k + 1, v + 1, by omega, by go_num, by go_num, by rw [HST.out]; have := HV.out; omega, hB.trans (hb4.mono hB.size)⟩
        case measure => simp [RowKit.intOf]; omega
    · have hke : L.take k = L := List.take_of_length_le (by omega)
      rw [hke] at hv
      have hvN := hv.trans HN.out
      obtain rfl := hvN
      clear hv hke hcl hlk hv3 HN
      have p0 := (hB.cell (p := ⟨w.heap.size, 0, none⟩) zp).trans p0
      have p1 := (hB.cell (p := ⟨w.heap.size, 1, none⟩) zp).trans p1
      have q0 := (hB.cell (p := ⟨w.heap.size + 1, 0, none⟩) zq).trans q0
      have q1 := (hB.cell (p := ⟨w.heap.size + 1, 1, none⟩) zq).trans q1
      have zp := Nat.lt_of_lt_of_le zp hB.size
      have zq := Nat.lt_of_lt_of_le zq hB.size
      have hBo := hB3.trans (hB.mono hB3.size)
      go_wp2_with fail
      (with_reducible refine (D4.out _).mono ?_)
      rintro e w5 ⟨rfl, hb5⟩
      have hB5 := hBo.trans (hb5.mono hBo.size)
      have p0 := (hb5.cell (p := ⟨w.heap.size, 0, none⟩) zp).trans p0
      have p1 := (hb5.cell (p := ⟨w.heap.size, 1, none⟩) zp).trans p1
      have q0 := (hb5.cell (p := ⟨w.heap.size + 1, 0, none⟩) zq).trans q0
      have q1 := (hb5.cell (p := ⟨w.heap.size + 1, 1, none⟩) zq).trans q1
      have zp := Nat.lt_of_lt_of_le zp hb5.size
      have zq := Nat.lt_of_lt_of_le zq hb5.size
      go_wp2_with fail
      (with_reducible refine (D5.out _).mono ?_)
      rintro e w6 ⟨rfl, hb6⟩
      have hB6 := hB5.trans (hb6.mono hB5.size)
      have p0 := (hb6.cell (p := ⟨w.heap.size, 0, none⟩) zp).trans p0
      have p1 := (hb6.cell (p := ⟨w.heap.size, 1, none⟩) zp).trans p1
      have q0 := (hb6.cell (p := ⟨w.heap.size + 1, 0, none⟩) zq).trans q0
      have q1 := (hb6.cell (p := ⟨w.heap.size + 1, 1, none⟩) zq).trans q1
      have zp := Nat.lt_of_lt_of_le zp hb6.size
      have zq := Nat.lt_of_lt_of_le zq hb6.size
      go_wp2_with fail
      have ha6 := Below.of_alloc (w := w6) (.cells #[.int .i64 m0, .int .i64 m1] 23)
      have hB6a := hB6.trans (ha6.mono hB6.size)
      have p0 := (ha6.cell (p := ⟨w.heap.size, 0, none⟩) zp).trans p0
      have p1 := (ha6.cell (p := ⟨w.heap.size, 1, none⟩) zp).trans p1
      have q0 := (ha6.cell (p := ⟨w.heap.size + 1, 0, none⟩) zq).trans q0
      have q1 := (ha6.cell (p := ⟨w.heap.size + 1, 1, none⟩) zq).trans q1
      have zp := Nat.lt_of_lt_of_le zp ha6.size
      have zq := Nat.lt_of_lt_of_le zq ha6.size
      generalize w6.alloc (.cells #[.int .i64 m0, .int .i64 m1] 23) = w6a at *
      (with_reducible refine (awake_any _ (he.below hB6a)).mono ?_)
      rintro e w9 ⟨rfl, hb9⟩
      go_wp2_with fail
      go_ret
      exact ⟨rfl, hB6a.trans (hb9.mono hB6a.size)⟩

set_option maxRecDepth 100000 in
set_option maxHeartbeats 4000000 in
theorem part_ttft (f t a b x i0 i1 m0 m1 : Int) (L : List (Int × Int)) (w : World) (he : Env w) (C0 : ∀ w, Calls Tryd.prog 9 #[.agg #[.int .i64 f, .int .i64 t], .agg #[.int .i64 a, .int .i64 b]] w (Two i0 i1 true w)) (hi : inP i0 i1 x = true) (hc : inP f t x = false) (hL : L.length ≤ 2) (C2 : ∀ w, Calls Tryd.prog 14 #[.agg #[.int .i64 f, .int .i64 t], .agg #[.int .i64 a, .int .i64 b]] w (NewP w L)) (hN : 1 + cntP x L = 0) (C5 : ∀ w, Calls Tryd.prog 11 #[.agg #[.int .i64 f, .int .i64 t], .agg #[.int .i64 a, .int .i64 b]] w (Two m0 m1 true w)) (hm : inP m0 m1 x = (inP f t x || inP a b x)) :
    Calls Tryd.prog 6 #[.agg #[.int .i64 f, .int .i64 t], .agg #[.int .i64 a, .int .i64 b], .int .i64 x] w fun e w' => e = .returned (.bool true) ∧ Below w.heap.size w w' := by
  have D0 := Lib.hid C0
  have D2 := Lib.hid C2
  have D5 := Lib.hid C5
  have C1 := fun w => contains_any i0 i1 x w
  rw [hi] at C1
  have D1 := Lib.hid C1
  clear C1 hi
  have C4 := fun w => contains_any f t x w
  rw [hc] at C4
  have D4 := Lib.hid C4
  clear C4
  have C6 := fun w => contains_any m0 m1 x w
  rw [hm, hc] at C6
  rw [Bool.false_or] at C6
  have C7 := fun w => contains_any a b x w
  generalize inP a b x = c1 at C6 C7
  have D7 := Lib.hid C7
  clear C7
  have D6 := Lib.hid C6
  clear C6 hm
  have HN := Lib.hid hN
  clear C0 C2 C5 hc hN
  go_enter Tryd.func6, Tryd.ntmps6
  go_wp2_with fail
  have hB0 := (Below.of_alloc (w := w) (.cells #[.int .i64 f, .int .i64 t] 23)).alloc (by simp) (.cells #[.int .i64 a, .int .i64 b] 23)
  have p0 := ((Below.of_alloc (w := (w.alloc (.cells #[.int .i64 f, .int .i64 t] 23))) (.cells #[.int .i64 a, .int .i64 b] 23)).cell (p := ⟨w.heap.size, 0, none⟩) (by simp)).trans (box_cell w #[.int .i64 f, .int .i64 t] 23 0 (u := .int .i64 f) rfl)
  have p1 := ((Below.of_alloc (w := (w.alloc (.cells #[.int .i64 f, .int .i64 t] 23))) (.cells #[.int .i64 a, .int .i64 b] 23)).cell (p := ⟨w.heap.size, 1, none⟩) (by simp)).trans (box_cell w #[.int .i64 f, .int .i64 t] 23 1 (u := .int .i64 t) rfl)
  have q0 := box_cell' (w.alloc (.cells #[.int .i64 f, .int .i64 t] 23)) (w.heap.size + 1) (by simp) #[.int .i64 a, .int .i64 b] 23 0 (u := .int .i64 a) rfl
  have q1 := box_cell' (w.alloc (.cells #[.int .i64 f, .int .i64 t] 23)) (w.heap.size + 1) (by simp) #[.int .i64 a, .int .i64 b] 23 1 (u := .int .i64 b) rfl
  have zq : w.heap.size + 1 < ((w.alloc (.cells #[.int .i64 f, .int .i64 t] 23)).alloc (.cells #[.int .i64 a, .int .i64 b] 23)).heap.size := by simp
  generalize ((w.alloc (.cells #[.int .i64 f, .int .i64 t] 23)).alloc (.cells #[.int .i64 a, .int .i64 b] 23)) = w0 at *
  have zp : w.heap.size < w0.heap.size := by omega
  (with_reducible refine (D0.out _).mono ?_)
  rintro e w1 ⟨rfl, hb1⟩
  have hB1 := hB0.trans (hb1.mono hB0.size)
  have p0 := (hb1.cell (p := ⟨w.heap.size, 0, none⟩) zp).trans p0
  have p1 := (hb1.cell (p := ⟨w.heap.size, 1, none⟩) zp).trans p1
  have q0 := (hb1.cell (p := ⟨w.heap.size + 1, 0, none⟩) zq).trans q0
  have q1 := (hb1.cell (p := ⟨w.heap.size + 1, 1, none⟩) zq).trans q1
  have zp := Nat.lt_of_lt_of_le zp hb1.size
  have zq := Nat.lt_of_lt_of_le zq hb1.size
  go_wp2_with fail
  have ha1 := Below.of_alloc (w := w1) (.cells #[.int .i64 i0, .int .i64 i1] 23)
  have hB1a := hB1.trans (ha1.mono hB1.size)
  have p0 := (ha1.cell (p := ⟨w.heap.size, 0, none⟩) zp).trans p0
  have p1 := (ha1.cell (p := ⟨w.heap.size, 1, none⟩) zp).trans p1
  have q0 := (ha1.cell (p := ⟨w.heap.size + 1, 0, none⟩) zq).trans q0
  have q1 := (ha1.cell (p := ⟨w.heap.size + 1, 1, none⟩) zq).trans q1
  have zp := Nat.lt_of_lt_of_le zp ha1.size
  have zq := Nat.lt_of_lt_of_le zq ha1.size
  generalize w1.alloc (.cells #[.int .i64 i0, .int .i64 i1] 23) = w1a at *
  (with_reducible refine (D1.out _).mono ?_)
  rintro e w2 ⟨rfl, hb2⟩
  have hB2 := hB1a.trans (hb2.mono hB1a.size)
  have p0 := (hb2.cell (p := ⟨w.heap.size, 0, none⟩) zp).trans p0
  have p1 := (hb2.cell (p := ⟨w.heap.size, 1, none⟩) zp).trans p1
  have q0 := (hb2.cell (p := ⟨w.heap.size + 1, 0, none⟩) zq).trans q0
  have q1 := (hb2.cell (p := ⟨w.heap.size + 1, 1, none⟩) zq).trans q1
  have zp := Nat.lt_of_lt_of_le zp hb2.size
  have zq := Nat.lt_of_lt_of_le zq hb2.size
  go_wp2_with fail
  (with_reducible refine (D2.out _).mono ?_)
  rintro e w3 ⟨v3, rfl, hr3, hb3⟩
  have hB3 := hB2.trans (hb3.mono hB2.size)
  have p0 := (hb3.cell (p := ⟨w.heap.size, 0, none⟩) zp).trans p0
  have p1 := (hb3.cell (p := ⟨w.heap.size, 1, none⟩) zp).trans p1
  have q0 := (hb3.cell (p := ⟨w.heap.size + 1, 0, none⟩) zq).trans q0
  have q1 := (hb3.cell (p := ⟨w.heap.size + 1, 1, none⟩) zq).trans q1
  have zp := Nat.lt_of_lt_of_le zp hb3.size
  have zq := Nat.lt_of_lt_of_le zq hb3.size
  obtain ⟨A, c, rfl, hc1, hc2, _⟩ := hr3.open_
  unfold maxLen at hc2
  have hL2 : ¬ (2 : Int) < (L.length : Int) := by omega
  go_wp2_with fail
  go_loopw [7, 11] (fun n i wr => PartRel w3 x 1 L n i wr) (fun _ i _ => L.length - (RowKit.intOf i).toNat)
  case atStart => exact ⟨0, 1, Nat.zero_le _, rfl, by first | rfl | simp, by simp [cntP], Below.refl _ _⟩
  case round =>
    obtain ⟨k, v, hk, rfl, rfl, hv, hB⟩ := hrel
    obtain ⟨wo, rfl⟩ : ∃ wo : World, wo = wr := ⟨_, rfl⟩
    have hcl := cnt_le x (L.take k)
    have hlk : (L.take k).length ≤ 2 := by rw [List.length_take]; omega
    have hv3 : v ≤ 3 := by omega
    by_cases hlt : k < L.length
    · obtain ⟨b1, o1, rfl, hF1, g0, g1⟩ := RdP.at_ (Rd.below hr3 hB) hlt
      have hst := cnt_step x L hlt
      have HST := Lib.hid hst
      have HV := Lib.hid hv
      clear hst hv hcl hlk
      generalize L[k] = e at *
      obtain ⟨e0, e1⟩ := e
      simp only at g0 g1 HST
      have i1' : (0 : Int) ≤ (k : Int) := by omega
      go_wp2_with fail
      (with_reducible refine (contains_any e0 e1 x _).mono ?_)
      cases hin : inP e0 e1 x
      · rintro e w4 ⟨rfl, hb4⟩
        rw [hin, if_neg (by simp), Nat.add_zero] at HST
        clear hin
        go_wp2_with fail
        go_roundw
        case rel => exact ⟨k + 1, v, by omega, by go_num, rfl, by rw [HST.out]; exact HV.out, hB.trans (hb4.mono hB.size)⟩
        case measure => simp [RowKit.intOf]; omega
      · rintro e w4 ⟨rfl, hb4⟩
        rw [hin, if_pos rfl] at HST
        clear hin
        go_wp2_with fail
        go_roundw
        case rel => exact ⟨k + 1, v + 1, by omega, by go_num, by go_num, by rw [HST.out]; have := HV.out; omega, hB.trans (hb4.mono hB.size)⟩
        case measure => simp [RowKit.intOf]; omega
    · have hke : L.take k = L := List.take_of_length_le (by omega)
      rw [hke] at hv
      have hvN := hv.trans HN.out
      obtain rfl := hvN
      clear hv hke hcl hlk hv3 HN
      have p0 := (hB.cell (p := ⟨w.heap.size, 0, none⟩) zp).trans p0
      have p1 := (hB.cell (p := ⟨w.heap.size, 1, none⟩) zp).trans p1
      have q0 := (hB.cell (p := ⟨w.heap.size + 1, 0, none⟩) zq).trans q0
      have q1 := (hB.cell (p := ⟨w.heap.size + 1, 1, none⟩) zq).trans q1
      have zp := Nat.lt_of_lt_of_le zp hB.size
      have zq := Nat.lt_of_lt_of_le zq hB.size
      have hBo := hB3.trans (hB.mono hB3.size)
      go_wp2_with fail
      (with_reducible refine (D4.out _).mono ?_)
      rintro e w5 ⟨rfl, hb5⟩
      have hB5 := hBo.trans (hb5.mono hBo.size)
      have p0 := (hb5.cell (p := ⟨w.heap.size, 0, none⟩) zp).trans p0
      have p1 := (hb5.cell (p := ⟨w.heap.size, 1, none⟩) zp).trans p1
      have q0 := (hb5.cell (p := ⟨w.heap.size + 1, 0, none⟩) zq).trans q0
      have q1 := (hb5.cell (p := ⟨w.heap.size + 1, 1, none⟩) zq).trans q1
      have zp := Nat.lt_of_lt_of_le zp hb5.size
      have zq := Nat.lt_of_lt_of_le zq hb5.size
      go_wp2_with fail
      (with_reducible refine (D5.out _).mono ?_)
      rintro e w6 ⟨rfl, hb6⟩
      have hB6 := hB5.trans (hb6.mono hB5.size)
      have p0 := (hb6.cell (p := ⟨w.heap.size, 0, none⟩) zp).trans p0
      have p1 := (hb6.cell (p := ⟨w.heap.size, 1, none⟩) zp).trans p1
      have q0 := (hb6.cell (p := ⟨w.heap.size + 1, 0, none⟩) zq).trans q0
      have q1 := (hb6.cell (p := ⟨w.heap.size + 1, 1, none⟩) zq).trans q1
      have zp := Nat.lt_of_lt_of_le zp hb6.size
      have zq := Nat.lt_of_lt_of_le zq hb6.size
      go_wp2_with fail
      have ha6 := Below.of_alloc (w := w6) (.cells #[.int .i64 m0, .int .i64 m1] 23)
      have hB6a := hB6.trans (ha6.mono hB6.size)
      have p0 := (ha6.cell (p := ⟨w.heap.size, 0, none⟩) zp).trans p0
      have p1 := (ha6.cell (p := ⟨w.heap.size, 1, none⟩) zp).trans p1
      have q0 := (ha6.cell (p := ⟨w.heap.size + 1, 0, none⟩) zq).trans q0
      have q1 := (ha6.cell (p := ⟨w.heap.size + 1, 1, none⟩) zq).trans q1
      have zp := Nat.lt_of_lt_of_le zp ha6.size
      have zq := Nat.lt_of_lt_of_le zq ha6.size
      generalize w6.alloc (.cells #[.int .i64 m0, .int .i64 m1] 23) = w6a at *
      (with_reducible refine (D6.out _).mono ?_)
      rintro e w7 ⟨rfl, hb7⟩
      have hB7 := hB6a.trans (hb7.mono hB6a.size)
      have p0 := (hb7.cell (p := ⟨w.heap.size, 0, none⟩) zp).trans p0
      have p1 := (hb7.cell (p := ⟨w.heap.size, 1, none⟩) zp).trans p1
      have q0 := (hb7.cell (p := ⟨w.heap.size + 1, 0, none⟩) zq).trans q0
      have q1 := (hb7.cell (p := ⟨w.heap.size + 1, 1, none⟩) zq).trans q1
      have zp := Nat.lt_of_lt_of_le zp hb7.size
      have zq := Nat.lt_of_lt_of_le zq hb7.size
      go_wp2_with fail
      (with_reducible refine (D7.out _).mono ?_)
      rintro e w8 ⟨rfl, hb8⟩
      have hB8 := hB7.trans (hb8.mono hB7.size)
      go_wp2_with fail
      (with_reducible refine (awake_any _ (he.below hB8)).mono ?_)
      rintro e w9 ⟨rfl, hb9⟩
      go_wp2_with fail
      go_ret
      exact ⟨rfl, hB8.trans (hb9.mono hB8.size)⟩

set_option maxRecDepth 100000 in
set_option maxHeartbeats 4000000 in
theorem part_tttf (f t a b x i0 i1 m0 m1 : Int) (L : List (Int × Int)) (w : World) (he : Env w) (C0 : ∀ w, Calls Tryd.prog 9 #[.agg #[.int .i64 f, .int .i64 t], .agg #[.int .i64 a, .int .i64 b]] w (Two i0 i1 true w)) (hi : inP i0 i1 x = true) (hc : inP f t x = true) (hL : L.length ≤ 2) (C2 : ∀ w, Calls Tryd.prog 14 #[.agg #[.int .i64 f, .int .i64 t], .agg #[.int .i64 a, .int .i64 b]] w (NewP w L)) (hN : 1 + cntP x L = 1) (C5 : ∀ w, Calls Tryd.prog 11 #[.agg #[.int .i64 f, .int .i64 t], .agg #[.int .i64 a, .int .i64 b]] w (Two m0 m1 false w)) :
    Calls Tryd.prog 6 #[.agg #[.int .i64 f, .int .i64 t], .agg #[.int .i64 a, .int .i64 b], .int .i64 x] w fun e w' => e = .returned (.bool true) ∧ Below w.heap.size w w' := by
  have D0 := Lib.hid C0
  have D2 := Lib.hid C2
  have D5 := Lib.hid C5
  have C1 := fun w => contains_any i0 i1 x w
  rw [hi] at C1
  have D1 := Lib.hid C1
  clear C1 hi
  have C4 := fun w => contains_any f t x w
  rw [hc] at C4
  have D4 := Lib.hid C4
  clear C4
  have HN := Lib.hid hN
  clear C0 C2 C5 hc hN
  go_enter Tryd.func6, Tryd.ntmps6
  go_wp2_with fail
  have hB0 := (Below.of_alloc (w := w) (.cells #[.int .i64 f, .int .i64 t] 23)).alloc (by simp) (.cells #[.int .i64 a, .int .i64 b] 23)
  have p0 := ((Below.of_alloc (w := (w.alloc (.cells #[.int .i64 f, .int .i64 t] 23))) (.cells #[.int .i64 a, .int .i64 b] 23)).cell (p := ⟨w.heap.size, 0, none⟩) (by simp)).trans (box_cell w #[.int .i64 f, .int .i64 t] 23 0 (u := .int .i64 f) rfl)
  have p1 := ((Below.of_alloc (w := (w.alloc (.cells #[.int .i64 f, .int .i64 t] 23))) (.cells #[.int .i64 a, .int .i64 b] 23)).cell (p := ⟨w.heap.size, 1, none⟩) (by simp)).trans (box_cell w #[.int .i64 f, .int .i64 t] 23 1 (u := .int .i64 t) rfl)
  have q0 := box_cell' (w.alloc (.cells #[.int .i64 f, .int .i64 t] 23)) (w.heap.size + 1) (by simp) #[.int .i64 a, .int .i64 b] 23 0 (u := .int .i64 a) rfl
  have q1 := box_cell' (w.alloc (.cells #[.int .i64 f, .int .i64 t] 23)) (w.heap.size + 1) (by simp) #[.int .i64 a, .int .i64 b] 23 1 (u := .int .i64 b) rfl
  have zq : w.heap.size + 1 < ((w.alloc (.cells #[.int .i64 f, .int .i64 t] 23)).alloc (.cells #[.int .i64 a, .int .i64 b] 23)).heap.size := by simp
  generalize ((w.alloc (.cells #[.int .i64 f, .int .i64 t] 23)).alloc (.cells #[.int .i64 a, .int .i64 b] 23)) = w0 at *
  have zp : w.heap.size < w0.heap.size := by omega
  (with_reducible refine (D0.out _).mono ?_)
  rintro e w1 ⟨rfl, hb1⟩
  have hB1 := hB0.trans (hb1.mono hB0.size)
  have p0 := (hb1.cell (p := ⟨w.heap.size, 0, none⟩) zp).trans p0
  have p1 := (hb1.cell (p := ⟨w.heap.size, 1, none⟩) zp).trans p1
  have q0 := (hb1.cell (p := ⟨w.heap.size + 1, 0, none⟩) zq).trans q0
  have q1 := (hb1.cell (p := ⟨w.heap.size + 1, 1, none⟩) zq).trans q1
  have zp := Nat.lt_of_lt_of_le zp hb1.size
  have zq := Nat.lt_of_lt_of_le zq hb1.size
  go_wp2_with fail
  have ha1 := Below.of_alloc (w := w1) (.cells #[.int .i64 i0, .int .i64 i1] 23)
  have hB1a := hB1.trans (ha1.mono hB1.size)
  have p0 := (ha1.cell (p := ⟨w.heap.size, 0, none⟩) zp).trans p0
  have p1 := (ha1.cell (p := ⟨w.heap.size, 1, none⟩) zp).trans p1
  have q0 := (ha1.cell (p := ⟨w.heap.size + 1, 0, none⟩) zq).trans q0
  have q1 := (ha1.cell (p := ⟨w.heap.size + 1, 1, none⟩) zq).trans q1
  have zp := Nat.lt_of_lt_of_le zp ha1.size
  have zq := Nat.lt_of_lt_of_le zq ha1.size
  generalize w1.alloc (.cells #[.int .i64 i0, .int .i64 i1] 23) = w1a at *
  (with_reducible refine (D1.out _).mono ?_)
  rintro e w2 ⟨rfl, hb2⟩
  have hB2 := hB1a.trans (hb2.mono hB1a.size)
  have p0 := (hb2.cell (p := ⟨w.heap.size, 0, none⟩) zp).trans p0
  have p1 := (hb2.cell (p := ⟨w.heap.size, 1, none⟩) zp).trans p1
  have q0 := (hb2.cell (p := ⟨w.heap.size + 1, 0, none⟩) zq).trans q0
  have q1 := (hb2.cell (p := ⟨w.heap.size + 1, 1, none⟩) zq).trans q1
  have zp := Nat.lt_of_lt_of_le zp hb2.size
  have zq := Nat.lt_of_lt_of_le zq hb2.size
  go_wp2_with fail
  (with_reducible refine (D2.out _).mono ?_)
  rintro e w3 ⟨v3, rfl, hr3, hb3⟩
  have hB3 := hB2.trans (hb3.mono hB2.size)
  have p0 := (hb3.cell (p := ⟨w.heap.size, 0, none⟩) zp).trans p0
  have p1 := (hb3.cell (p := ⟨w.heap.size, 1, none⟩) zp).trans p1
  have q0 := (hb3.cell (p := ⟨w.heap.size + 1, 0, none⟩) zq).trans q0
  have q1 := (hb3.cell (p := ⟨w.heap.size + 1, 1, none⟩) zq).trans q1
  have zp := Nat.lt_of_lt_of_le zp hb3.size
  have zq := Nat.lt_of_lt_of_le zq hb3.size
  obtain ⟨A, c, rfl, hc1, hc2, _⟩ := hr3.open_
  unfold maxLen at hc2
  have hL2 : ¬ (2 : Int) < (L.length : Int) := by omega
  go_wp2_with fail
  go_loopw [7, 11] (fun n i wr => PartRel w3 x 1 L n i wr) (fun _ i _ => L.length - (RowKit.intOf i).toNat)
  case atStart => exact ⟨0, 1, Nat.zero_le _, rfl, by first | rfl | simp, by simp [cntP], Below.refl _ _⟩
  case round =>
    obtain ⟨k, v, hk, rfl, rfl, hv, hB⟩ := hrel
    obtain ⟨wo, rfl⟩ : ∃ wo : World, wo = wr := ⟨_, rfl⟩
    have hcl := cnt_le x (L.take k)
    have hlk : (L.take k).length ≤ 2 := by rw [List.length_take]; omega
    have hv3 : v ≤ 3 := by omega
    by_cases hlt : k < L.length
    · obtain ⟨b1, o1, rfl, hF1, g0, g1⟩ := RdP.at_ (Rd.below hr3 hB) hlt
      have hst := cnt_step x L hlt
      have HST := Lib.hid hst
      have HV := Lib.hid hv
      clear hst hv hcl hlk
      generalize L[k] = e at *
      obtain ⟨e0, e1⟩ := e
      simp only at g0 g1 HST
      have i1' : (0 : Int) ≤ (k : Int) := by omega
      go_wp2_with fail
      (with_reducible refine (contains_any e0 e1 x _).mono ?_)
      cases hin : inP e0 e1 x
      · rintro e w4 ⟨rfl, hb4⟩
        rw [hin, if_neg (by simp), Nat.add_zero] at HST
        clear hin
        go_wp2_with fail
        go_roundw
        case rel => exact ⟨k + 1, v, by omega, by go_num, rfl, by rw [HST.out]; exact HV.out, hB.trans (hb4.mono hB.size)⟩
        case measure => simp [RowKit.intOf]; omega
      · rintro e w4 ⟨rfl, hb4⟩
        rw [hin, if_pos rfl] at HST
        clear hin
        go_wp2_with fail
        go_roundw
        case rel => exact ⟨k + 1, v + 1, by omega, by go_num, by go_num, by rw [HST.out]; have := HV.out; omega, hB.trans (hb4.mono hB.size)⟩
        case measure => simp [RowKit.intOf]; omega
    · have hke : L.take k = L := List.take_of_length_le (by omega)
      rw [hke] at hv
      have hvN := hv.trans HN.out
      obtain rfl := hvN
      clear hv hke hcl hlk hv3 HN
      have p0 := (hB.cell (p := ⟨w.heap.size, 0, none⟩) zp).trans p0
      have p1 := (hB.cell (p := ⟨w.heap.size, 1, none⟩) zp).trans p1
      have q0 := (hB.cell (p := ⟨w.heap.size + 1, 0, none⟩) zq).trans q0
      have q1 := (hB.cell (p := ⟨w.heap.size + 1, 1, none⟩) zq).trans q1
      have zp := Nat.lt_of_lt_of_le zp hB.size
      have zq := Nat.lt_of_lt_of_le zq hB.size
      have hBo := hB3.trans (hB.mono hB3.size)
      go_wp2_with fail
      (with_reducible refine (D4.out _).mono ?_)
      rintro e w5 ⟨rfl, hb5⟩
      have hB5 := hBo.trans (hb5.mono hBo.size)
      have p0 := (hb5.cell (p := ⟨w.heap.size, 0, none⟩) zp).trans p0
      have p1 := (hb5.cell (p := ⟨w.heap.size, 1, none⟩) zp).trans p1
      have q0 := (hb5.cell (p := ⟨w.heap.size + 1, 0, none⟩) zq).trans q0
      have q1 := (hb5.cell (p := ⟨w.heap.size + 1, 1, none⟩) zq).trans q1
      have zp := Nat.lt_of_lt_of_le zp hb5.size
      have zq := Nat.lt_of_lt_of_le zq hb5.size
      go_wp2_with fail
      (with_reducible refine (D5.out _).mono ?_)
      rintro e w6 ⟨rfl, hb6⟩
      have hB6 := hB5.trans (hb6.mono hB5.size)
      have p0 := (hb6.cell (p := ⟨w.heap.size, 0, none⟩) zp).trans p0
      have p1 := (hb6.cell (p := ⟨w.heap.size, 1, none⟩) zp).trans p1
      have q0 := (hb6.cell (p := ⟨w.heap.size + 1, 0, none⟩) zq).trans q0
      have q1 := (hb6.cell (p := ⟨w.heap.size + 1, 1, none⟩) zq).trans q1
      have zp := Nat.lt_of_lt_of_le zp hb6.size
      have zq := Nat.lt_of_lt_of_le zq hb6.size
      go_wp2_with fail
      have ha6 := Below.of_alloc (w := w6) (.cells #[.int .i64 m0, .int .i64 m1] 23)
      have hB6a := hB6.trans (ha6.mono hB6.size)
      have p0 := (ha6.cell (p := ⟨w.heap.size, 0, none⟩) zp).trans p0
      have p1 := (ha6.cell (p := ⟨w.heap.size, 1, none⟩) zp).trans p1
      have q0 := (ha6.cell (p := ⟨w.heap.size + 1, 0, none⟩) zq).trans q0
      have q1 := (ha6.cell (p := ⟨w.heap.size + 1, 1, none⟩) zq).trans q1
      have zp := Nat.lt_of_lt_of_le zp ha6.size
      have zq := Nat.lt_of_lt_of_le zq ha6.size
      generalize w6.alloc (.cells #[.int .i64 m0, .int .i64 m1] 23) = w6a at *
      (with_reducible refine (awake_any _ (he.below hB6a)).mono ?_)
      rintro e w9 ⟨rfl, hb9⟩
      go_wp2_with fail
      go_ret
      exact ⟨rfl, hB6a.trans (hb9.mono hB6a.size)⟩

set_option maxRecDepth 100000 in
set_option maxHeartbeats 4000000 in
theorem part_tttt (f t a b x i0 i1 m0 m1 : Int) (L : List (Int × Int)) (w : World) (he : Env w) (C0 : ∀ w, Calls Tryd.prog 9 #[.agg #[.int .i64 f, .int .i64 t], .agg #[.int .i64 a, .int .i64 b]] w (Two i0 i1 true w)) (hi : inP i0 i1 x = true) (hc : inP f t x = true) (hL : L.length ≤ 2) (C2 : ∀ w, Calls Tryd.prog 14 #[.agg #[.int .i64 f, .int .i64 t], .agg #[.int .i64 a, .int .i64 b]] w (NewP w L)) (hN : 1 + cntP x L = 1) (C5 : ∀ w, Calls Tryd.prog 11 #[.agg #[.int .i64 f, .int .i64 t], .agg #[.int .i64 a, .int .i64 b]] w (Two m0 m1 true w)) (hm : inP m0 m1 x = (inP f t x || inP a b x)) :
    Calls Tryd.prog 6 #[.agg #[.int .i64 f, .int .i64 t], .agg #[.int .i64 a, .int .i64 b], .int .i64 x] w fun e w' => e = .returned (.bool true) ∧ Below w.heap.size w w' := by
  have D0 := Lib.hid C0
  have D2 := Lib.hid C2
  have D5 := Lib.hid C5
  have C1 := fun w => contains_any i0 i1 x w
  rw [hi] at C1
  have D1 := Lib.hid C1
  clear C1 hi
  have C4 := fun w => contains_any f t x w
  rw [hc] at C4
  have D4 := Lib.hid C4
  clear C4
  have C6 := fun w => contains_any m0 m1 x w
  rw [hm, hc] at C6
  rw [Bool.true_or] at C6
  have D6 := Lib.hid C6
  clear C6 hm
  have HN := Lib.hid hN
  clear C0 C2 C5 hc hN
  go_enter Tryd.func6, Tryd.ntmps6
  go_wp2_with fail
  have hB0 := (Below.of_alloc (w := w) (.cells #[.int .i64 f, .int .i64 t] 23)).alloc (by simp) (.cells #[.int .i64 a, .int .i64 b] 23)
  have p0 := ((Below.of_alloc (w := (w.alloc (.cells #[.int .i64 f, .int .i64 t] 23))) (.cells #[.int .i64 a, .int .i64 b] 23)).cell (p := ⟨w.heap.size, 0, none⟩) (by simp)).trans (box_cell w #[.int .i64 f, .int .i64 t] 23 0 (u := .int .i64 f) rfl)
  have p1 := ((Below.of_alloc (w := (w.alloc (.cells #[.int .i64 f, .int .i64 t] 23))) (.cells #[.int .i64 a, .int .i64 b] 23)).cell (p := ⟨w.heap.size, 1, none⟩) (by simp)).trans (box_cell w #[.int .i64 f, .int .i64 t] 23 1 (u := .int .i64 t) rfl)
  have q0 := box_cell' (w.alloc (.cells #[.int .i64 f, .int .i64 t] 23)) (w.heap.size + 1) (by simp) #[.int .i64 a, .int .i64 b] 23 0 (u := .int .i64 a) rfl
  have q1 := box_cell' (w.alloc (.cells #[.int .i64 f, .int .i64 t] 23)) (w.heap.size + 1) (by simp) #[.int .i64 a, .int .i64 b] 23 1 (u := .int .i64 b) rfl
  have zq : w.heap.size + 1 < ((w.alloc (.cells #[.int .i64 f, .int .i64 t] 23)).alloc (.cells #[.int .i64 a, .int .i64 b] 23)).heap.size := by simp
  generalize ((w.alloc (.cells #[.int .i64 f, .int .i64 t] 23)).alloc (.cells #[.int .i64 a, .int .i64 b] 23)) = w0 at *
  have zp : w.heap.size < w0.heap.size := by omega
  (with_reducible refine (D0.out _).mono ?_)
  rintro e w1 ⟨rfl, hb1⟩
  have hB1 := hB0.trans (hb1.mono hB0.size)
  have p0 := (hb1.cell (p := ⟨w.heap.size, 0, none⟩) zp).trans p0
  have p1 := (hb1.cell (p := ⟨w.heap.size, 1, none⟩) zp).trans p1
  have q0 := (hb1.cell (p := ⟨w.heap.size + 1, 0, none⟩) zq).trans q0
  have q1 := (hb1.cell (p := ⟨w.heap.size + 1, 1, none⟩) zq).trans q1
  have zp := Nat.lt_of_lt_of_le zp hb1.size
  have zq := Nat.lt_of_lt_of_le zq hb1.size
  go_wp2_with fail
  have ha1 := Below.of_alloc (w := w1) (.cells #[.int .i64 i0, .int .i64 i1] 23)
  have hB1a := hB1.trans (ha1.mono hB1.size)
  have p0 := (ha1.cell (p := ⟨w.heap.size, 0, none⟩) zp).trans p0
  have p1 := (ha1.cell (p := ⟨w.heap.size, 1, none⟩) zp).trans p1
  have q0 := (ha1.cell (p := ⟨w.heap.size + 1, 0, none⟩) zq).trans q0
  have q1 := (ha1.cell (p := ⟨w.heap.size + 1, 1, none⟩) zq).trans q1
  have zp := Nat.lt_of_lt_of_le zp ha1.size
  have zq := Nat.lt_of_lt_of_le zq ha1.size
  generalize w1.alloc (.cells #[.int .i64 i0, .int .i64 i1] 23) = w1a at *
  (with_reducible refine (D1.out _).mono ?_)
  rintro e w2 ⟨rfl, hb2⟩
  have hB2 := hB1a.trans (hb2.mono hB1a.size)
  have p0 := (hb2.cell (p := ⟨w.heap.size, 0, none⟩) zp).trans p0
  have p1 := (hb2.cell (p := ⟨w.heap.size, 1, none⟩) zp).trans p1
  have q0 := (hb2.cell (p := ⟨w.heap.size + 1, 0, none⟩) zq).trans q0
  have q1 := (hb2.cell (p := ⟨w.heap.size + 1, 1, none⟩) zq).trans q1
  have zp := Nat.lt_of_lt_of_le zp hb2.size
  have zq := Nat.lt_of_lt_of_le zq hb2.size
  go_wp2_with fail
  (with_reducible refine (D2.out _).mono ?_)
  rintro e w3 ⟨v3, rfl, hr3, hb3⟩
  have hB3 := hB2.trans (hb3.mono hB2.size)
  have p0 := (hb3.cell (p := ⟨w.heap.size, 0, none⟩) zp).trans p0
  have p1 := (hb3.cell (p := ⟨w.heap.size, 1, none⟩) zp).trans p1
  have q0 := (hb3.cell (p := ⟨w.heap.size + 1, 0, none⟩) zq).trans q0
  have q1 := (hb3.cell (p := ⟨w.heap.size + 1, 1, none⟩) zq).trans q1
  have zp := Nat.lt_of_lt_of_le zp hb3.size
  have zq := Nat.lt_of_lt_of_le zq hb3.size
  obtain ⟨A, c, rfl, hc1, hc2, _⟩ := hr3.open_
  unfold maxLen at hc2
  have hL2 : ¬ (2 : Int) < (L.length : Int) := by omega
  go_wp2_with fail
  go_loopw [7, 11] (fun n i wr => PartRel w3 x 1 L n i wr) (fun _ i _ => L.length - (RowKit.intOf i).toNat)
  case atStart => exact ⟨0, 1, Nat.zero_le _, rfl, by first | rfl | simp, by simp [cntP], Below.refl _ _⟩
  case round =>
    obtain ⟨k, v, hk, rfl, rfl, hv, hB⟩ := hrel
    obtain ⟨wo, rfl⟩ : ∃ wo : World, wo = wr := ⟨_, rfl⟩
    have hcl := cnt_le x (L.take k)
    have hlk : (L.take k).length ≤ 2 := by rw [List.length_take]; omega
    have hv3 : v ≤ 3 := by omega
    by_cases hlt : k < L.length
    · obtain ⟨b1, o1, rfl, hF1, g0, g1⟩ := RdP.at_ (Rd.below hr3 hB) hlt
      have hst := cnt_step x L hlt
      have HST := Lib.hid hst
      have HV := Lib.hid hv
      clear hst hv hcl hlk
      generalize L[k] = e at *
      obtain ⟨e0, e1⟩ := e
      simp only at g0 g1 HST
      have i1' : (0 : Int) ≤ (k : Int) := by omega
      go_wp2_with fail
      (with_reducible refine (contains_any e0 e1 x _).mono ?_)
      cases hin : inP e0 e1 x
      · rintro e w4 ⟨rfl, hb4⟩
        rw [hin, if_neg (by simp), Nat.add_zero] at HST
        clear hin
        go_wp2_with fail
        go_roundw
        case rel => exact ⟨k + 1, v, by omega, by go_num, rfl, by rw [HST.out]; exact HV.out, hB.trans (hb4.mono hB.size)⟩
        case measure => simp [RowKit.intOf]; omega
      · rintro e w4 ⟨rfl, hb4⟩
        rw [hin, if_pos rfl] at HST
        clear hin
        go_wp2_with fail
        go_roundw
        case rel => exact ⟨k + 1, v + 1, by omega, by go_num, by go_num, by rw [HST.out]; have := HV.out; omega, hB.trans (hb4.mono hB.size)⟩
        case measure => simp [RowKit.intOf]; omega
    · have hke : L.take k = L := List.take_of_length_le (by omega)
      rw [hke] at hv
      have hvN := hv.trans HN.out
      obtain rfl := hvN
      clear hv hke hcl hlk hv3 HN
      have p0 := (hB.cell (p := ⟨w.heap.size, 0, none⟩) zp).trans p0
      have p1 := (hB.cell (p := ⟨w.heap.size, 1, none⟩) zp).trans p1
      have q0 := (hB.cell (p := ⟨w.heap.size + 1, 0, none⟩) zq).trans q0
      have q1 := (hB.cell (p := ⟨w.heap.size + 1, 1, none⟩) zq).trans q1
      have zp := Nat.lt_of_lt_of_le zp hB.size
      have zq := Nat.lt_of_lt_of_le zq hB.size
      have hBo := hB3.trans (hB.mono hB3.size)
      go_wp2_with fail
      (with_reducible refine (D4.out _).mono ?_)
      rintro e w5 ⟨rfl, hb5⟩
      have hB5 := hBo.trans (hb5.mono hBo.size)
      have p0 := (hb5.cell (p := ⟨w.heap.size, 0, none⟩) zp).trans p0
      have p1 := (hb5.cell (p := ⟨w.heap.size, 1, none⟩) zp).trans p1
      have q0 := (hb5.cell (p := ⟨w.heap.size + 1, 0, none⟩) zq).trans q0
      have q1 := (hb5.cell (p := ⟨w.heap.size + 1, 1, none⟩) zq).trans q1
      have zp := Nat.lt_of_lt_of_le zp hb5.size
      have zq := Nat.lt_of_lt_of_le zq hb5.size
      go_wp2_with fail
      (with_reducible refine (D5.out _).mono ?_)
      rintro e w6 ⟨rfl, hb6⟩
      have hB6 := hB5.trans (hb6.mono hB5.size)
      have p0 := (hb6.cell (p := ⟨w.heap.size, 0, none⟩) zp).trans p0
      have p1 := (hb6.cell (p := ⟨w.heap.size, 1, none⟩) zp).trans p1
      have q0 := (hb6.cell (p := ⟨w.heap.size + 1, 0, none⟩) zq).trans q0
      have q1 := (hb6.cell (p := ⟨w.heap.size + 1, 1, none⟩) zq).trans q1
      have zp := Nat.lt_of_lt_of_le zp hb6.size
      have zq := Nat.lt_of_lt_of_le zq hb6.size
      go_wp2_with fail
      have ha6 := Below.of_alloc (w := w6) (.cells #[.int .i64 m0, .int .i64 m1] 23)
      have hB6a := hB6.trans (ha6.mono hB6.size)
      have p0 := (ha6.cell (p := ⟨w.heap.size, 0, none⟩) zp).trans p0
      have p1 := (ha6.cell (p := ⟨w.heap.size, 1, none⟩) zp).trans p1
      have q0 := (ha6.cell (p := ⟨w.heap.size + 1, 0, none⟩) zq).trans q0
      have q1 := (ha6.cell (p := ⟨w.heap.size + 1, 1, none⟩) zq).trans q1
      have zp := Nat.lt_of_lt_of_le zp ha6.size
      have zq := Nat.lt_of_lt_of_le zq ha6.size
      generalize w6.alloc (.cells #[.int .i64 m0, .int .i64 m1] 23) = w6a at *
      (with_reducible refine (D6.out _).mono ?_)
      rintro e w7 ⟨rfl, hb7⟩
      have hB7 := hB6a.trans (hb7.mono hB6a.size)
      have p0 := (hb7.cell (p := ⟨w.heap.size, 0, none⟩) zp).trans p0
      have p1 := (hb7.cell (p := ⟨w.heap.size, 1, none⟩) zp).trans p1
      have q0 := (hb7.cell (p := ⟨w.heap.size + 1, 0, none⟩) zq).trans q0
      have q1 := (hb7.cell (p := ⟨w.heap.size + 1, 1, none⟩) zq).trans q1
      have zp := Nat.lt_of_lt_of_le zp hb7.size
      have zq := Nat.lt_of_lt_of_le zq hb7.size
      go_wp2_with fail
      (with_reducible refine (awake_any _ (he.below hB7)).mono ?_)
      rintro e w9 ⟨rfl, hb9⟩
      go_wp2_with fail
      go_ret
      exact ⟨rfl, hB7.trans (hb9.mono hB7.size)⟩

theorem inter_form (f t a b : Int) : (ovP f t a b = true ∧ interP f t a b = (max f a, min t b, true)) ∨ (ovP f t a b = false ∧ interP f t a b = (0, 0, false)) := by
  unfold interP
  cases ovP f t a b <;> simp
theorem merge_form (f t a b : Int) : (∃ m n, mergeP f t a b = (m, n, true)) ∨ mergeP f t a b = (0, 0, false) := by
  unfold mergeP
  split
  · exact .inl ⟨_, _, rfl⟩
  · exact .inr rfl
theorem lawPartition_any (f t a b x : Int) (w : World) (he : Env w) :
    Calls Tryd.prog 6 #[.agg #[.int .i64 f, .int .i64 t], .agg #[.int .i64 a, .int .i64 b], .int .i64 x] w fun e w' => e = .returned (.bool true) ∧ Below w.heap.size w w' := by
  have CI := fun w => inter_any f t a b w
  have CM := fun w => merge_any f t a b w
  have CS := fun w => sub_any f t a b w
  have hl := sub_len f t a b
  have hin := @part_in f t a b x
  have hout := @part_out f t a b x
  unfold n0P at hin hout
  rcases inter_form f t a b with ⟨ho, hI⟩ | ⟨ho, hI⟩
  · rw [hI] at CI
    rcases merge_form f t a b with ⟨m, n, hM⟩ | hM
    · have hmi := merge_in (x := x) hM
      rw [hM] at CM
      cases hi : inP (max f a) (min t b) x <;> cases hc : inP f t x
      · have hN := hout hc; rw [if_neg (by rw [hi]; simp)] at hN
        exact part_tfft f t a b x _ _ m n _ w he CI hi hc hl CS hN CM hmi
      · have hN := hin hc; rw [if_neg (by rw [hi]; simp)] at hN
        exact part_tftt f t a b x _ _ m n _ w he CI hi hc hl CS hN CM hmi
      · have hN := hout hc; rw [if_pos ⟨ho, hi⟩] at hN
        exact part_ttft f t a b x _ _ m n _ w he CI hi hc hl CS hN CM hmi
      · have hN := hin hc; rw [if_pos ⟨ho, hi⟩] at hN
        exact part_tttt f t a b x _ _ m n _ w he CI hi hc hl CS hN CM hmi
    · rw [hM] at CM
      cases hi : inP (max f a) (min t b) x <;> cases hc : inP f t x
      · have hN := hout hc; rw [if_neg (by rw [hi]; simp)] at hN
        exact part_tfff f t a b x _ _ _ _ _ w he CI hi hc hl CS hN CM
      · have hN := hin hc; rw [if_neg (by rw [hi]; simp)] at hN
        exact part_tftf f t a b x _ _ _ _ _ w he CI hi hc hl CS hN CM
      · have hN := hout hc; rw [if_pos ⟨ho, hi⟩] at hN
        exact part_ttff f t a b x _ _ _ _ _ w he CI hi hc hl CS hN CM
      · have hN := hin hc; rw [if_pos ⟨ho, hi⟩] at hN
        exact part_tttf f t a b x _ _ _ _ _ w he CI hi hc hl CS hN CM
  · rw [hI] at CI
    rcases merge_form f t a b with ⟨m, n, hM⟩ | hM
    · have hmi := merge_in (x := x) hM
      rw [hM] at CM
      cases hc : inP f t x
      · have hN := hout hc; rw [if_neg (by rw [ho]; simp)] at hN
        exact part_ffft f t a b x _ _ m n _ w he CI hc hl CS hN CM hmi
      · have hN := hin hc; rw [if_neg (by rw [ho]; simp)] at hN
        exact part_fftt f t a b x _ _ m n _ w he CI hc hl CS hN CM hmi
    · rw [hM] at CM
      cases hc : inP f t x
      · have hN := hout hc; rw [if_neg (by rw [ho]; simp)] at hN
        exact part_ffff f t a b x _ _ _ _ _ w he CI hc hl CS hN CM
      · have hN := hin hc; rw [if_neg (by rw [ho]; simp)] at hN
        exact part_fftf f t a b x _ _ _ _ _ w he CI hc hl CS hN CM
end Go.Proofs.YtipngnejiddkdaaDoor
