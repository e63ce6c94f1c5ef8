/-
  PeriodParse and PeriodBack: the walks.
-/
import Derived.Test.YtipngnejiddkdaaDoorPerJ
namespace Go.Proofs.YtipngnejiddkdaaDoor
open Go.RowKit Go.Lib

theorem parse_text {l : List UInt8} {a b : Int} (h : progP l = (a, b, 0)) : textP a b = l := by
  by_cases hf : ∃ ds t, Form l ds t
  · obtain ⟨ds, t, hf⟩ := hf
    rw [prog_form hf] at h
    obtain ⟨rfl, hd, ht⟩ := hf
    unfold resP at h
    by_cases hev : t = forever
    · rw [if_pos hev] at h
      by_cases hv : 1099511627776 ≤ val ds
      · rw [if_pos hv] at h; simp at h
      · rw [if_neg hv] at h
        simp only [Prod.mk.injEq, and_true] at h
        obtain ⟨rfl, rfl⟩ := h
        unfold textP
        rw [if_pos (by unfold validP; rw [decide_eq_true_eq]; omega), if_pos rfl, Int.toNat_natCast, good_dec hd, hev]
    · rw [if_neg hev] at h
      by_cases hv : val t ≤ val ds ∨ 1099511627776 ≤ val t
      · rw [if_pos hv] at h; simp at h
      · rw [if_neg hv] at h
        simp only [Prod.mk.injEq, and_true] at h
        obtain ⟨rfl, rfl⟩ := h
        have hg : goodN t = true := by rcases ht with h | h; (exact h); exact absurd h hev
        unfold textP
        rw [if_pos (by unfold validP; rw [decide_eq_true_eq]; omega), if_neg (by omega), Int.toNat_natCast, Int.toNat_natCast, good_dec hd, good_dec hg]
  · rw [prog_none (fun ds t h => hf ⟨ds, t, h⟩)] at h
    simp at h
theorem text_parse {f t : Int} (h : validP f t = true) : progP (textP f t) = (f, t, 0) := by
  have hv := h
  unfold validP at hv
  rw [decide_eq_true_eq] at hv
  unfold textP
  rw [if_pos h]
  obtain ⟨F, rfl⟩ := Int.eq_ofNat_of_zero_le hv.1
  obtain ⟨T, rfl⟩ := Int.eq_ofNat_of_zero_le (show 0 ≤ t by omega)
  rw [Int.toNat_natCast, Int.toNat_natCast]
  by_cases hT : (T : Int) = 1099511627776
  · rw [if_pos hT, prog_form (ds := decDigits F) (t := forever) ⟨rfl, dec_good F, .inr rfl⟩]
    unfold resP
    rw [if_pos rfl, dec_val, if_neg (by omega), hT]
  · rw [if_neg hT, prog_form (ds := decDigits F) (t := decDigits T) ⟨rfl, dec_good F, .inl (dec_good T)⟩]
    unfold resP
    rw [if_neg (good_not_forever (dec_good T)), dec_val, dec_val, if_neg (by omega)]
theorem text_len (f t : Int) : (textP f t).length ≤ 40 := by
  unfold textP
  split
  · rename_i h
    unfold validP at h
    rw [decide_eq_true_eq] at h
    have h1 := dec_len 12 f.toNat (by omega)
    have h2 := dec_len 12 t.toNat (by omega)
    split
    · simp [forever]; omega
    · simp; omega
  · simp

set_option maxRecDepth 100000 in
set_option maxHeartbeats 1000000 in
theorem lawParse_long (s : ByteArray) (w : World) (hl : 60 < s.size) (he : Env w) :
    Calls Tryd.prog 5 #[.string s] w fun e w' => e = .returned (.bool true) ∧ Below w.heap.size w w' := by
  have q1 : (60 : Int) < (s.size : Int) := by omega
  go_enter Tryd.func5, Tryd.ntmps5
  go_wp2_with fail
  (with_reducible refine (awake_any _ he).mono ?_)
  rintro e w1 ⟨rfl, hb1⟩
  go_wp2_with fail
  go_ret
  exact ⟨rfl, hb1⟩

set_option maxRecDepth 100000 in
set_option maxHeartbeats 1000000 in
theorem lawParse_short (s : ByteArray) (a b c : Int) (w : World) (hl : ¬ 60 < s.size) (he : Env w) (hp : progP s.data.toList = (a, b, c)) :
    Calls Tryd.prog 5 #[.string s] w fun e w' => e = .returned (.bool true) ∧ Below w.heap.size w w' := by
  have q1 : ¬ (60 : Int) < (s.size : Int) := by omega
  have C1 := Lib.hid (fun w he => parse_any s w (by omega) he)
  have C2 := Lib.hid (fun w => refParse_any s w (by omega))
  rw [← parse_same] at C2
  rw [hp] at C1 C2
  have HP := Lib.hid hp
  clear hp
  go_enter Tryd.func5, Tryd.ntmps5
  go_wp2_with fail
  (with_reducible refine (C1.out _ he).mono ?_)
  rintro e w1 ⟨rfl, hb1⟩
  go_wp2_with fail
  have ha1 := Below.of_alloc (w := w1) (.cells #[.int .i64 a, .int .i64 b] 23)
  have hB1 := hb1.trans (ha1.mono hb1.size)
  have m0 := box_cell w1 #[.int .i64 a, .int .i64 b] 23 0 rfl
  have m1 := box_cell w1 #[.int .i64 a, .int .i64 b] 23 1 rfl
  have szm : w1.heap.size < (w1.alloc (.cells #[.int .i64 a, .int .i64 b] 23)).heap.size := by simp
  generalize w1.alloc (.cells #[.int .i64 a, .int .i64 b] 23) = w1a at *
  (with_reducible refine (C2.out _).mono ?_)
  rintro e w2 ⟨rfl, hb2⟩
  have hB2 := hB1.trans (hb2.mono hB1.size)
  have m0 := (hb2.cell (p := ⟨w1.heap.size, 0, none⟩) szm).trans m0
  have m1 := (hb2.cell (p := ⟨w1.heap.size, 1, none⟩) szm).trans m1
  have szm := Nat.lt_of_lt_of_le szm hb2.size
  have hB3 := hB2.alloc hB2.size (.cells #[.int .i64 a, .int .i64 b] 23)
  by_cases hc : c = 0
  · subst hc
    have ht := parse_text HP.out
    go_wp2_with fail
    (with_reducible refine (text_any a b _ (he.below hB3)).mono ?_)
    rw [ht]
    rintro e w4 ⟨rfl, hb4⟩
    have hB4 := hB3.trans (hb4.mono hB3.size)
    clear ht
    go_wp2_with fail
    (with_reducible refine (awake_any _ (he.below hB4)).mono ?_)
    rintro e w5 ⟨rfl, hb5⟩
    go_wp2_with fail
    go_ret
    exact ⟨rfl, hB4.trans (hb5.mono hB4.size)⟩
  · have b1 : (c != 0) = true := by rw [bne_iff_ne]; exact hc
    have HC := Lib.hid hc
    clear hc
    go_wp2_with fail
    (with_reducible refine (awake_any _ (he.below hB3)).mono ?_)
    rintro e w5 ⟨rfl, hb5⟩
    go_wp2_with fail
    go_ret
    exact ⟨rfl, hB3.trans (hb5.mono hB3.size)⟩

theorem lawParse_any (s : ByteArray) (w : World) (he : Env w) :
    Calls Tryd.prog 5 #[.string s] w fun e w' => e = .returned (.bool true) ∧ Below w.heap.size w w' := by
  by_cases hl : 60 < s.size
  · exact lawParse_long s w hl he
  · rcases hp : progP s.data.toList with ⟨a, b, c⟩
    exact lawParse_short s a b c w hl he hp

set_option maxRecDepth 100000 in
set_option maxHeartbeats 1000000 in
theorem lawBack_no (f t : Int) (w : World) (he : Env w) (h : validP f t = false) :
    Calls Tryd.prog 4 #[.agg #[.int .i64 f, .int .i64 t]] w fun e w' => e = .returned (.bool true) ∧ Below w.heap.size w w' := by
  have ht : textP f t = [] := by unfold textP; rw [h]; simp
  have C1 := Lib.hid (fun w he => text_any f t w he)
  rw [ht] at C1
  have C2 := Lib.hid (fun w he => parse_any ⟨#[]⟩ w (by decide) he)
  rw [show progP (⟨#[]⟩ : ByteArray).data.toList = (0, 0, 1) by decide] at C2
  have HV := Lib.hid h
  clear h ht
  go_enter Tryd.func4, Tryd.ntmps4
  go_wp2_with fail
  have hB0 := Below.of_alloc (w := w) (.cells #[.int .i64 f, .int .i64 t] 23)
  have m0 := box_cell w #[.int .i64 f, .int .i64 t] 23 0 rfl
  have m1 := box_cell w #[.int .i64 f, .int .i64 t] 23 1 rfl
  have szm : w.heap.size < (w.alloc (.cells #[.int .i64 f, .int .i64 t] 23)).heap.size := by simp
  generalize w.alloc (.cells #[.int .i64 f, .int .i64 t] 23) = w0 at *
  (with_reducible refine (C1.out _ (he.below hB0)).mono ?_)
  rintro e w1 ⟨rfl, hb1⟩
  have hB1 := hB0.trans (hb1.mono hB0.size)
  have m0 := (hb1.cell (p := ⟨w.heap.size, 0, none⟩) szm).trans m0
  have m1 := (hb1.cell (p := ⟨w.heap.size, 1, none⟩) szm).trans m1
  have szm := Nat.lt_of_lt_of_le szm hb1.size
  go_wp2_with fail
  (with_reducible refine (C2.out _ (he.below hB1)).mono ?_)
  rintro e w2 ⟨rfl, hb2⟩
  have hB2 := hB1.trans (hb2.mono hB1.size)
  have m0 := (hb2.cell (p := ⟨w.heap.size, 0, none⟩) szm).trans m0
  have m1 := (hb2.cell (p := ⟨w.heap.size, 1, none⟩) szm).trans m1
  have szm := Nat.lt_of_lt_of_le szm hb2.size
  have hB3 := hB2.alloc hB2.size (.cells #[.int .i64 0, .int .i64 0] 23)
  go_wp2_with fail
  (with_reducible refine (refValid_any f t _).mono ?_)
  rw [HV.out]
  rintro e w4 ⟨rfl, hb4⟩
  have hB4 := hB3.trans (hb4.mono hB3.size)
  go_wp2_with fail
  (with_reducible refine (awake_any _ (he.below hB4)).mono ?_)
  rintro e w5 ⟨rfl, hb5⟩
  go_wp2_with fail
  go_ret
  exact ⟨rfl, hB4.trans (hb5.mono hB4.size)⟩

set_option maxRecDepth 100000 in
set_option maxHeartbeats 1000000 in
theorem lawBack_yes (f t : Int) (w : World) (he : Env w) (h : validP f t = true) :
    Calls Tryd.prog 4 #[.agg #[.int .i64 f, .int .i64 t]] w fun e w' => e = .returned (.bool true) ∧ Below w.heap.size w w' := by
  have C1 := Lib.hid (fun w he => text_any f t w he)
  have C3 := Lib.hid (fun w => refText_any f t w)
  have C2 := Lib.hid (fun w he => parse_any ⟨(textP f t).toArray⟩ w (by rw [mk_size]; have := text_len f t; omega) he)
  rw [show (⟨(textP f t).toArray⟩ : ByteArray).data.toList = textP f t from rfl, text_parse h] at C2
  have HV := Lib.hid h
  clear h
  generalize textP f t = l at *
  go_enter Tryd.func4, Tryd.ntmps4
  go_wp2_with fail
  have hB0 := Below.of_alloc (w := w) (.cells #[.int .i64 f, .int .i64 t] 23)
  have m0 := box_cell w #[.int .i64 f, .int .i64 t] 23 0 rfl
  have m1 := box_cell w #[.int .i64 f, .int .i64 t] 23 1 rfl
  have szm : w.heap.size < (w.alloc (.cells #[.int .i64 f, .int .i64 t] 23)).heap.size := by simp
  generalize w.alloc (.cells #[.int .i64 f, .int .i64 t] 23) = w0 at *
  (with_reducible refine (C1.out _ (he.below hB0)).mono ?_)
  rintro e w1 ⟨rfl, hb1⟩
  have hB1 := hB0.trans (hb1.mono hB0.size)
  have m0 := (hb1.cell (p := ⟨w.heap.size, 0, none⟩) szm).trans m0
  have m1 := (hb1.cell (p := ⟨w.heap.size, 1, none⟩) szm).trans m1
  have szm := Nat.lt_of_lt_of_le szm hb1.size
  go_wp2_with fail
  (with_reducible refine (C2.out _ (he.below hB1)).mono ?_)
  rintro e w2 ⟨rfl, hb2⟩
  have hB2 := hB1.trans (hb2.mono hB1.size)
  have m0 := (hb2.cell (p := ⟨w.heap.size, 0, none⟩) szm).trans m0
  have m1 := (hb2.cell (p := ⟨w.heap.size, 1, none⟩) szm).trans m1
  have szm := Nat.lt_of_lt_of_le szm hb2.size
  go_wp2_with fail
  have ha3 := Below.of_alloc (w := w2) (.cells #[.int .i64 f, .int .i64 t] 23)
  have hB3 := hB2.trans (ha3.mono hB2.size)
  have n0 := box_cell w2 #[.int .i64 f, .int .i64 t] 23 0 rfl
  have n1 := box_cell w2 #[.int .i64 f, .int .i64 t] 23 1 rfl
  have m0 := (ha3.cell (p := ⟨w.heap.size, 0, none⟩) szm).trans m0
  have m1 := (ha3.cell (p := ⟨w.heap.size, 1, none⟩) szm).trans m1
  have szm := Nat.lt_of_lt_of_le szm ha3.size
  have szn : w2.heap.size < (w2.alloc (.cells #[.int .i64 f, .int .i64 t] 23)).heap.size := by simp
  generalize w2.alloc (.cells #[.int .i64 f, .int .i64 t] 23) = w3 at *
  (with_reducible refine (refValid_any f t _).mono ?_)
  rw [HV.out]
  rintro e w4 ⟨rfl, hb4⟩
  have hB4 := hB3.trans (hb4.mono hB3.size)
  have m0 := (hb4.cell (p := ⟨w.heap.size, 0, none⟩) szm).trans m0
  have m1 := (hb4.cell (p := ⟨w.heap.size, 1, none⟩) szm).trans m1
  have n0 := (hb4.cell (p := ⟨w2.heap.size, 0, none⟩) szn).trans n0
  have n1 := (hb4.cell (p := ⟨w2.heap.size, 1, none⟩) szn).trans n1
  have szm := Nat.lt_of_lt_of_le szm hb4.size
  have szn := Nat.lt_of_lt_of_le szn hb4.size
  go_wp2_with fail
  (with_reducible refine (C3.out _).mono ?_)
  rintro e w5 ⟨rfl, hb5⟩
  have hB5 := hB4.trans (hb5.mono hB4.size)
  have m0 := (hb5.cell (p := ⟨w.heap.size, 0, none⟩) szm).trans m0
  have m1 := (hb5.cell (p := ⟨w.heap.size, 1, none⟩) szm).trans m1
  have n0 := (hb5.cell (p := ⟨w2.heap.size, 0, none⟩) szn).trans n0
  have n1 := (hb5.cell (p := ⟨w2.heap.size, 1, none⟩) szn).trans n1
  clear C1 C2 C3
  go_wp2_with fail
  (with_reducible refine (awake_any _ (he.below hB5)).mono ?_)
  rintro e w6 ⟨rfl, hb6⟩
  go_wp2_with fail
  go_ret
  exact ⟨rfl, hB5.trans (hb6.mono hB5.size)⟩

theorem lawBack_any (f t : Int) (w : World) (he : Env w) :
    Calls Tryd.prog 4 #[.agg #[.int .i64 f, .int .i64 t]] w fun e w' => e = .returned (.bool true) ∧ Below w.heap.size w w' := by
  cases h : validP f t
  · exact lawBack_no f t w he h
  · exact lawBack_yes f t w he h
end Go.Proofs.YtipngnejiddkdaaDoor
