/-
  Periods: the chapter's examples; lists that are the same.
-/
import Derived.Test.YtipngnejiddkdaaDoorPerI
import Derived.RegionTactic
namespace Go.Proofs.YtipngnejiddkdaaDoor
open Go.RowKit Go.Lib

theorem ex_text : textP 3 1099511627776 = [91, 51, 44, 32, 102, 111, 114, 101, 118, 101, 114, 41] := by
  unfold textP
  rw [if_pos (by decide), if_pos rfl, show (3 : Int).toNat = 3 from rfl, decDigits_one (by omega)]
  decide
theorem ex_merge (w : World) : Calls Tryd.prog 11 #[.agg #[.int .i64 3, .int .i64 7], .agg #[.int .i64 7, .int .i64 9]] w (Two 3 9 true w) := by
  have h := merge_any 3 7 7 9 w
  have e : mergeP 3 7 7 9 = (3, 9, true) := by decide
  rw [e] at h; exact h
theorem ex_parse1 (w : World) (he : Env w) : Calls Tryd.prog 18 #[.string ⟨#[91, 48, 55, 44, 32, 57, 41]⟩] w (Per3 (0, 0, 1) w) := by
  have h := parse_any ⟨#[91, 48, 55, 44, 32, 57, 41]⟩ w (by decide) he
  have e : progP (⟨#[91, 48, 55, 44, 32, 57, 41]⟩ : ByteArray).data.toList = (0, 0, 1) := by decide
  rw [e] at h; exact h
theorem ex_parse2 (w : World) (he : Env w) : Calls Tryd.prog 18 #[.string ⟨#[91, 57, 44, 32, 55, 41]⟩] w (Per3 (0, 0, 6) w) := by
  have h := parse_any ⟨#[91, 57, 44, 32, 55, 41]⟩ w (by decide) he
  have e : progP (⟨#[91, 57, 44, 32, 55, 41]⟩ : ByteArray).data.toList = (0, 0, 6) := by decide
  rw [e] at h; exact h
theorem ex_sub (w : World) : Calls Tryd.prog 14 #[.agg #[.int .i64 3, .int .i64 9], .agg #[.int .i64 5, .int .i64 6]] w (NewP w [(3, 5), (6, 9)]) := by
  have h := sub_any 3 9 5 6 w
  have e : subP 3 9 5 6 = [(3, 5), (6, 9)] := by decide
  rw [e] at h; exact h
theorem ex_adj (w : World) : Calls Tryd.prog 29 #[.agg #[.int .i64 3, .int .i64 7], .agg #[.int .i64 7, .int .i64 9]] w fun e w' => e = .returned (.bool true) ∧ Below w.heap.size w w' := by
  have h := adjacent_any 3 7 7 9 w
  have e : adP 3 7 7 9 = true := by decide
  rw [e] at h; exact h
theorem ex_over (w : World) : Calls Tryd.prog 27 #[.agg #[.int .i64 3, .int .i64 7], .agg #[.int .i64 7, .int .i64 9]] w fun e w' => e = .returned (.bool false) ∧ Below w.heap.size w w' := by
  have h := overlaps_any 3 7 7 9 w
  have e : ovP 3 7 7 9 = false := by decide
  rw [e] at h; exact h

set_option maxRecDepth 100000 in
set_option maxHeartbeats 2000000 in
theorem awake_any (w : World) (he : Env w) :
    Calls Tryd.prog 16 #[] w fun e w' => e = .returned (.bool true) ∧ Below w.heap.size w w' := by
  go_enter Tryd.func16, Tryd.ntmps16
  go_wp2_with fail
  have hB0 := (Below.of_alloc (w := w) (.cells #[.int .i64 3, .int .i64 7] 23)).alloc (by simp) (.cells #[.int .i64 7, .int .i64 9] 23)
  have p0 := (((Below.of_alloc (w := w.alloc (.cells #[.int .i64 3, .int .i64 7] 23)) (.cells #[.int .i64 7, .int .i64 9] 23))).cell (p := ⟨w.heap.size, 0, none⟩) (by simp)).trans (box_cell w _ _ 0 rfl)
  have p1 := (((Below.of_alloc (w := w.alloc (.cells #[.int .i64 3, .int .i64 7] 23)) (.cells #[.int .i64 7, .int .i64 9] 23))).cell (p := ⟨w.heap.size, 1, none⟩) (by simp)).trans (box_cell w _ _ 1 rfl)
  have q0 := box_cell' (w.alloc (.cells #[.int .i64 3, .int .i64 7] 23)) (w.heap.size + 1) (by simp) #[.int .i64 7, .int .i64 9] 23 0 rfl
  have q1 := box_cell' (w.alloc (.cells #[.int .i64 3, .int .i64 7] 23)) (w.heap.size + 1) (by simp) #[.int .i64 7, .int .i64 9] 23 1 rfl
  have sz : w.heap.size + 1 < ((w.alloc (.cells #[.int .i64 3, .int .i64 7] 23)).alloc (.cells #[.int .i64 7, .int .i64 9] 23)).heap.size := by simp
  generalize (w.alloc (.cells #[.int .i64 3, .int .i64 7] 23)).alloc (.cells #[.int .i64 7, .int .i64 9] 23) = w0 at *
  have sz' : w.heap.size < w0.heap.size := by omega
  (with_reducible refine (ex_merge _).mono ?_)
  rintro e w1 ⟨rfl, hb1⟩
  have hB1 := hB0.trans (hb1.mono hB0.size)
  have p0 := (hb1.cell (p := ⟨w.heap.size, 0, none⟩) sz').trans p0
  have p1 := (hb1.cell (p := ⟨w.heap.size, 1, none⟩) sz').trans p1
  have q0 := (hb1.cell (p := ⟨w.heap.size + 1, 0, none⟩) sz).trans q0
  have q1 := (hb1.cell (p := ⟨w.heap.size + 1, 1, none⟩) sz).trans q1
  have sz := Nat.lt_of_lt_of_le sz hb1.size
  have sz' := Nat.lt_of_lt_of_le sz' hb1.size
  go_wp2_with fail
  have ha1a := Below.of_alloc (w := w1) (.cells #[.int .i64 3, .int .i64 9] 23)
  have hB1a := hB1.trans (ha1a.mono hB1.size)
  have p0 := (ha1a.cell (p := ⟨w.heap.size, 0, none⟩) sz').trans p0
  have p1 := (ha1a.cell (p := ⟨w.heap.size, 1, none⟩) sz').trans p1
  have q0 := (ha1a.cell (p := ⟨w.heap.size + 1, 0, none⟩) sz).trans q0
  have q1 := (ha1a.cell (p := ⟨w.heap.size + 1, 1, none⟩) sz).trans q1
  have sz := Nat.lt_of_lt_of_le sz ha1a.size
  have sz' := Nat.lt_of_lt_of_le sz' ha1a.size
  have m0 := box_cell w1 #[.int .i64 3, .int .i64 9] 23 0 rfl
  have m1 := box_cell w1 #[.int .i64 3, .int .i64 9] 23 1 rfl
  have szm : w1.heap.size < (w1.alloc (.cells #[.int .i64 3, .int .i64 9] 23)).heap.size := by simp
  generalize w1.alloc (.cells #[.int .i64 3, .int .i64 9] 23) = w1a at *
  (with_reducible refine (ex_parse1 _ (he.below hB1a)).mono ?_)
  rintro e w2 ⟨rfl, hb2⟩
  have hB2 := hB1a.trans (hb2.mono hB1a.size)
  have p0 := (hb2.cell (p := ⟨w.heap.size, 0, none⟩) sz').trans p0
  have p1 := (hb2.cell (p := ⟨w.heap.size, 1, none⟩) sz').trans p1
  have q0 := (hb2.cell (p := ⟨w.heap.size + 1, 0, none⟩) sz).trans q0
  have q1 := (hb2.cell (p := ⟨w.heap.size + 1, 1, none⟩) sz).trans q1
  have m0 := (hb2.cell (p := ⟨w1.heap.size, 0, none⟩) szm).trans m0
  have m1 := (hb2.cell (p := ⟨w1.heap.size, 1, none⟩) szm).trans m1
  have sz := Nat.lt_of_lt_of_le sz hb2.size
  have sz' := Nat.lt_of_lt_of_le sz' hb2.size
  have szm := Nat.lt_of_lt_of_le szm hb2.size
  go_wp2_with fail
  have ha2a := Below.of_alloc (w := w2) (.cells #[.int .i64 0, .int .i64 0] 23)
  have hB2a := hB2.trans (ha2a.mono hB2.size)
  have p0 := (ha2a.cell (p := ⟨w.heap.size, 0, none⟩) sz').trans p0
  have p1 := (ha2a.cell (p := ⟨w.heap.size, 1, none⟩) sz').trans p1
  have q0 := (ha2a.cell (p := ⟨w.heap.size + 1, 0, none⟩) sz).trans q0
  have q1 := (ha2a.cell (p := ⟨w.heap.size + 1, 1, none⟩) sz).trans q1
  have m0 := (ha2a.cell (p := ⟨w1.heap.size, 0, none⟩) szm).trans m0
  have m1 := (ha2a.cell (p := ⟨w1.heap.size, 1, none⟩) szm).trans m1
  have sz := Nat.lt_of_lt_of_le sz ha2a.size
  have sz' := Nat.lt_of_lt_of_le sz' ha2a.size
  have szm := Nat.lt_of_lt_of_le szm ha2a.size
  generalize w2.alloc (.cells #[.int .i64 0, .int .i64 0] 23) = w2a at *
  (with_reducible refine (ex_parse2 _ (he.below hB2a)).mono ?_)
  rintro e w3 ⟨rfl, hb3⟩
  have hB3 := hB2a.trans (hb3.mono hB2a.size)
  have p0 := (hb3.cell (p := ⟨w.heap.size, 0, none⟩) sz').trans p0
  have p1 := (hb3.cell (p := ⟨w.heap.size, 1, none⟩) sz').trans p1
  have q0 := (hb3.cell (p := ⟨w.heap.size + 1, 0, none⟩) sz).trans q0
  have q1 := (hb3.cell (p := ⟨w.heap.size + 1, 1, none⟩) sz).trans q1
  have m0 := (hb3.cell (p := ⟨w1.heap.size, 0, none⟩) szm).trans m0
  have m1 := (hb3.cell (p := ⟨w1.heap.size, 1, none⟩) szm).trans m1
  have sz := Nat.lt_of_lt_of_le sz hb3.size
  have sz' := Nat.lt_of_lt_of_le sz' hb3.size
  have szm := Nat.lt_of_lt_of_le szm hb3.size
  go_wp2_with fail
  have ha3a := Below.of_alloc (w := w3) (.cells #[.int .i64 0, .int .i64 0] 23)
  have hB3a := hB3.trans (ha3a.mono hB3.size)
  have p0 := (ha3a.cell (p := ⟨w.heap.size, 0, none⟩) sz').trans p0
  have p1 := (ha3a.cell (p := ⟨w.heap.size, 1, none⟩) sz').trans p1
  have q0 := (ha3a.cell (p := ⟨w.heap.size + 1, 0, none⟩) sz).trans q0
  have q1 := (ha3a.cell (p := ⟨w.heap.size + 1, 1, none⟩) sz).trans q1
  have m0 := (ha3a.cell (p := ⟨w1.heap.size, 0, none⟩) szm).trans m0
  have m1 := (ha3a.cell (p := ⟨w1.heap.size, 1, none⟩) szm).trans m1
  have sz := Nat.lt_of_lt_of_le sz ha3a.size
  have sz' := Nat.lt_of_lt_of_le sz' ha3a.size
  have szm := Nat.lt_of_lt_of_le szm ha3a.size
  generalize w3.alloc (.cells #[.int .i64 0, .int .i64 0] 23) = w3a at *
  (with_reducible refine (ex_sub _).mono ?_)
  rintro e w4 ⟨v4, rfl, hr4, hb4⟩
  have hB4 := hB3a.trans (hb4.mono hB3a.size)
  have p0 := (hb4.cell (p := ⟨w.heap.size, 0, none⟩) sz').trans p0
  have p1 := (hb4.cell (p := ⟨w.heap.size, 1, none⟩) sz').trans p1
  have q0 := (hb4.cell (p := ⟨w.heap.size + 1, 0, none⟩) sz).trans q0
  have q1 := (hb4.cell (p := ⟨w.heap.size + 1, 1, none⟩) sz).trans q1
  have m0 := (hb4.cell (p := ⟨w1.heap.size, 0, none⟩) szm).trans m0
  have m1 := (hb4.cell (p := ⟨w1.heap.size, 1, none⟩) szm).trans m1
  have sz := Nat.lt_of_lt_of_le sz hb4.size
  have sz' := Nat.lt_of_lt_of_le sz' hb4.size
  have szm := Nat.lt_of_lt_of_le szm hb4.size
  obtain ⟨A4, c4, rfl, _, _, _⟩ := hr4.open_
  go_wp2_with fail
  (with_reducible refine (ex_adj _).mono ?_)
  rintro e w5 ⟨rfl, hb5⟩
  have hB5 := hB4.trans (hb5.mono hB4.size)
  have p0 := (hb5.cell (p := ⟨w.heap.size, 0, none⟩) sz').trans p0
  have p1 := (hb5.cell (p := ⟨w.heap.size, 1, none⟩) sz').trans p1
  have q0 := (hb5.cell (p := ⟨w.heap.size + 1, 0, none⟩) sz).trans q0
  have q1 := (hb5.cell (p := ⟨w.heap.size + 1, 1, none⟩) sz).trans q1
  go_wp2_with fail
  (with_reducible refine (ex_over _).mono ?_)
  rintro e w6 ⟨rfl, hb6⟩
  have hB6 := hB5.trans (hb6.mono hB5.size)
  have hr6 := (hr4.below hb5).below hb6
  obtain ⟨b, off, hA, _, l0, l1⟩ := RdP.at_ hr6 (k := 0) (by simp)
  obtain rfl := hA
  simp only [Nat.zero_mul, Nat.add_zero, List.getElem_cons_zero] at l0 l1
  go_wp2_with fail
  (with_reducible refine (text_any 3 1099511627776 _ (he.below hB6)).mono ?_)
  rw [ex_text]
  rintro e w7 ⟨rfl, hb7⟩
  go_wp2_with fail
  go_ret
  exact ⟨rfl, hB6.trans (hb7.mono hB6.size)⟩

def SameRel (w0 : World) (n : Nat) (i : Value) (w : World) : Prop := ∃ k : Nat, k ≤ n ∧ i = .int .i64 k ∧ Below w0.heap.size w0 w
set_option maxRecDepth 100000 in
set_option maxHeartbeats 800000 in
theorem same_same (v u : Value) (xs : List (Int × Int)) (w : World) (hv : RdP w (· < w.heap.size) v xs) (hu : RdP w (· < w.heap.size) u xs) :
    Calls Tryd.prog 13 #[v, u] w fun e w' => e = .returned (.bool true) ∧ Below w.heap.size w w' := by
  obtain ⟨A, c, rfl, hc1, hc2, hc3⟩ := hv.open_
  obtain ⟨A', c', rfl, hc1', hc2', hc3'⟩ := hu.open_
  unfold maxLen at hc2 hc2'
  go_enter Tryd.func13, Tryd.ntmps13
  go_wp2_with fail
  go_loopw [5] (fun i wr => SameRel w xs.length i wr) (fun i _ => xs.length - (RowKit.intOf i).toNat)
  case atStart => exact ⟨0, Nat.zero_le _, rfl, Below.refl _ _⟩
  case round =>
    obtain ⟨k, hk, rfl, hB⟩ := hrel
    obtain ⟨wo, rfl⟩ : ∃ wo : World, wo = wr := ⟨_, rfl⟩
    by_cases hlt : k < xs.length
    · obtain ⟨b1, o1, rfl, hF1, g0, g1⟩ := RdP.at_ (Rd.below hv hB) hlt
      obtain ⟨b2, o2, rfl, hF2, f0, f1⟩ := RdP.at_ (Rd.below hu hB) hlt
      generalize xs[k] = x at *
      obtain ⟨x0, x1⟩ := x
      simp only at g0 g1 f0 f1
      have i1 : (0 : Int) ≤ (k : Int) := by omega
      go_wp2_with fail
      go_region
      all_goals
        go_wp2_with fail
        go_roundw
        case rel => exact ⟨k + 1, by omega, by go_num, hB.drew⟩
        case measure => simp [RowKit.intOf]; omega
    · go_wp2_with fail
      go_ret
      exact ⟨rfl, hB⟩
end Go.Proofs.YtipngnejiddkdaaDoor
