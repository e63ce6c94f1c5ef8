/-
  Periods: their texts, of the program and of the reference.
-/
import Derived.Test.YtipngnejiddkdaaDoorPerF
namespace Go.Proofs.YtipngnejiddkdaaDoor
open Go.RowKit Go.Lib

/-- what the library's own variables read as: the search's limit (any integer) and the table of powers -/
structure Env (w : World) : Prop where
  max : ∃ m, w.cell? ⟨0, 0, none⟩ = some (.int .i64 m)
  tab : Lib.TabIs Tryd.prog w "internal/strconv.uint64pow10" .u64 Lib.pow10Tab
theorem tab_below {w w' : World} (h : Lib.TabIs Tryd.prog w "internal/strconv.uint64pow10" .u64 Lib.pow10Tab) (hb : Below w.heap.size w w') : Lib.TabIs Tryd.prog w' "internal/strconv.uint64pow10" .u64 Lib.pow10Tab := by
  unfold Lib.TabIs World.var? at *
  cases hg : Tryd.prog.globalNamed "internal/strconv.uint64pow10" with
  | none => simp [hg] at h
  | some g =>
    simp only [hg, Option.bind_some] at h ⊢
    have hlt : g < w.heap.size := by
      rcases Nat.lt_or_ge g w.heap.size with h' | h'
      · exact h'
      · rw [Array.getElem?_eq_none h'] at h; simp at h
    rw [hb.block g hlt]; exact h
theorem Env.below {w w' : World} (h : Env w) (hb : Below w.heap.size w w') : Env w' := by
  obtain ⟨⟨m, hm⟩, ht⟩ := h
  exact ⟨⟨m, (hb.cell (World.block_lt_of_cell? w _ hm)).trans hm⟩, tab_below ht hb⟩
theorem below_drewN' {w : World} (n : Nat) : Below w.heap.size w (w.drewN n) := ⟨rfl, rfl, rfl, Nat.le_refl _, fun _ _ => rfl⟩
theorem below_grow {w : World} (k : Nat) (os : Array Obj) : Below w.heap.size w (Sort.grow (w.drewN k) os) := by
  refine ⟨rfl, rfl, rfl, ?_, fun b hb => ?_⟩
  · show w.heap.size ≤ (w.heap ++ os).size
    rw [Array.size_append]; omega
  · show (w.heap ++ os)[b]? = w.heap[b]?
    exact Array.getElem?_append_left hb
theorem itoa_any (n : Nat) (w : World) (hn : n ≤ 1099511627776) (he : Env w) :
    Calls Tryd.prog 33 #[.int .i64 (n : Int)] w fun e w' => e = .returned (.string ⟨(decDigits n).toArray⟩) ∧ Below w.heap.size w w' := by
  refine (Tryd.strconv_Itoa (n : Int) (by omega) (by omega) w he.tab).mono ?_
  rintro e w' ⟨rfl, k, os, rfl⟩
  refine ⟨?_, below_grow k os⟩
  have : Lib.itoa (n : Int) = decDigits n := by unfold Lib.itoa; rw [if_neg (by omega)]; simp
  rw [this]

def textP (f t : Int) : List UInt8 := if validP f t = true then 91 :: (decDigits f.toNat ++ 44 :: 32 :: ((if t = 1099511627776 then forever else decDigits t.toNat) ++ [41])) else []
theorem text_mk (a b : List UInt8) : ((((⟨#[91]⟩ : ByteArray) ++ ⟨a.toArray⟩) ++ (⟨#[44, 32]⟩ : ByteArray)) ++ (⟨b.toArray⟩ : ByteArray)) ++ (⟨#[41]⟩ : ByteArray) = ⟨(91 :: (a ++ 44 :: 32 :: (b ++ [41]))).toArray⟩ := by
  apply data_inj
  simp only [app_data]
  simp
theorem text_mk_forever (a : List UInt8) : ((((⟨#[91]⟩ : ByteArray) ++ ⟨a.toArray⟩) ++ (⟨#[44, 32]⟩ : ByteArray)) ++ (⟨#[102, 111, 114, 101, 118, 101, 114]⟩ : ByteArray)) ++ (⟨#[41]⟩ : ByteArray) = ⟨(91 :: (a ++ 44 :: 32 :: (forever ++ [41]))).toArray⟩ := text_mk a forever
theorem mk_size (l : List UInt8) : (⟨l.toArray⟩ : ByteArray).size = l.length := by rw [← str_len]

set_option maxHeartbeats 1000000 in
theorem text_none (f t : Int) (w : World) (h : validP f t = false) :
    Calls Tryd.prog 17 #[.agg #[.int .i64 f, .int .i64 t]] w fun e w' => e = .returned (.string ⟨#[]⟩) ∧ Below w.heap.size w w' := by
  have HV := Lib.hid h
  clear h
  go_enter Tryd.func17, Tryd.ntmps17
  go_wp2_with fail
  (with_reducible refine (valid_any f t _).mono ?_)
  rw [HV.out]
  rintro e w1 ⟨rfl, hb1⟩
  go_wp2_with fail
  go_ret
  exact ⟨rfl, (Below.of_alloc (w := w) _).trans (hb1.mono (by simp))⟩

set_option maxHeartbeats 1000000 in
theorem text_yes (F T : Nat) (w : World) (h : validP F T = true) (hT : (T : Int) < 1099511627776) (hF : (F : Int) ≤ 1099511627776) (he : Env w) :
    Calls Tryd.prog 17 #[.agg #[.int .i64 F, .int .i64 T]] w fun e w' => e = .returned (.string ⟨(91 :: (decDigits F ++ 44 :: 32 :: (decDigits T ++ [41]))).toArray⟩) ∧ Below w.heap.size w w' := by
  have HV := Lib.hid h
  clear h
  have l1 := dec_len 12 F (by omega)
  have l2 := dec_len 12 T (by omega)
  rw [← mk_size] at l1 l2
  have hne : ((T : Int) != 1099511627776) = true := by rw [bne_iff_ne]; omega
  go_enter Tryd.func17, Tryd.ntmps17
  go_wp2_with fail
  (with_reducible refine (valid_any F T _).mono ?_)
  rw [HV.out]
  rintro e w1 ⟨rfl, hb1⟩
  have hB1 := (Below.of_alloc (w := w) _).trans (hb1.mono (by simp))
  have hs1 : w.heap.size < w1.heap.size := by have := hb1.size; simp at this; omega
  have c0 := (hb1.cell (p := ⟨w.heap.size, 0, none⟩) (by simp)).trans (box_cell w _ _ 0 rfl)
  have c1 := (hb1.cell (p := ⟨w.heap.size, 1, none⟩) (by simp)).trans (box_cell w _ _ 1 rfl)
  clear hb1
  go_wp2_with fail
  (with_reducible refine (itoa_any T _ (by omega) (he.below hB1)).mono ?_)
  rintro e w2 ⟨rfl, hb2⟩
  have hB2 := hB1.trans (hb2.mono hB1.size)
  have c0 := (hb2.cell (p := ⟨w.heap.size, 0, none⟩) hs1).trans c0
  clear c1
  go_wp2_with fail
  (with_reducible refine (itoa_any F _ (by omega) (he.below hB2)).mono ?_)
  rintro e w3 ⟨rfl, hb3⟩
  have hB3 := hB2.trans (hb3.mono hB2.size)
  have hmk := Lib.hid (text_mk (decDigits F) (decDigits T))
  generalize (⟨(decDigits F).toArray⟩ : ByteArray) = A at *
  generalize (⟨(decDigits T).toArray⟩ : ByteArray) = B at *
  go_wp2_with fail
  go_ret
  exact ⟨congrArg (fun s => Ending.returned (.string s)) hmk.out, hB3⟩

set_option maxHeartbeats 1000000 in
theorem text_ever (F : Nat) (w : World) (h : validP F 1099511627776 = true) (hF : (F : Int) ≤ 1099511627776) (he : Env w) :
    Calls Tryd.prog 17 #[.agg #[.int .i64 F, .int .i64 1099511627776]] w fun e w' => e = .returned (.string ⟨(91 :: (decDigits F ++ 44 :: 32 :: (forever ++ [41]))).toArray⟩) ∧ Below w.heap.size w w' := by
  have HV := Lib.hid h
  clear h
  have l1 := dec_len 12 F (by omega)
  rw [← mk_size] at l1
  go_enter Tryd.func17, Tryd.ntmps17
  go_wp2_with fail
  (with_reducible refine (valid_any F 1099511627776 _).mono ?_)
  rw [HV.out]
  rintro e w1 ⟨rfl, hb1⟩
  have hB1 := (Below.of_alloc (w := w) _).trans (hb1.mono (by simp))
  have hs1 : w.heap.size < w1.heap.size := by have := hb1.size; simp at this; omega
  have c0 := (hb1.cell (p := ⟨w.heap.size, 0, none⟩) (by simp)).trans (box_cell w _ _ 0 rfl)
  have c1 := (hb1.cell (p := ⟨w.heap.size, 1, none⟩) (by simp)).trans (box_cell w _ _ 1 rfl)
  clear hb1
  go_wp2_with fail
  (with_reducible refine (itoa_any F _ (by omega) (he.below hB1)).mono ?_)
  rintro e w3 ⟨rfl, hb3⟩
  have hB3 := hB1.trans (hb3.mono hB1.size)
  have hmk := Lib.hid (text_mk_forever (decDigits F))
  generalize (⟨(decDigits F).toArray⟩ : ByteArray) = A at *
  go_wp2_with fail
  go_ret
  exact ⟨congrArg (fun s => Ending.returned (.string s)) hmk.out, hB3⟩

theorem text_any (f t : Int) (w : World) (he : Env w) :
    Calls Tryd.prog 17 #[.agg #[.int .i64 f, .int .i64 t]] w fun e w' => e = .returned (.string ⟨(textP f t).toArray⟩) ∧ Below w.heap.size w w' := by
  cases h : validP f t
  · have ht : textP f t = [] := by unfold textP; rw [h]; simp
    rw [ht]; exact text_none f t w h
  · have hv := h
    unfold validP at hv
    rw [decide_eq_true_eq] at hv
    unfold textP
    rw [if_pos h]
    obtain ⟨F, rfl⟩ := Int.eq_ofNat_of_zero_le hv.1
    obtain ⟨T, rfl⟩ := Int.eq_ofNat_of_zero_le (show 0 ≤ t by omega)
    rw [Int.toNat_natCast, Int.toNat_natCast]
    by_cases hT : (T : Int) = 1099511627776
    · rw [if_pos hT]
      rw [hT] at h ⊢
      exact text_ever F w h (by omega) he
    · rw [if_neg hT]; exact text_yes F T w h (by omega) (by omega) he

set_option maxHeartbeats 1000000 in
theorem refText_none (f t : Int) (w : World) (h : validP f t = false) :
    Calls Tryd.prog 20 #[.agg #[.int .i64 f, .int .i64 t]] w fun e w' => e = .returned (.string ⟨#[]⟩) ∧ Below w.heap.size w w' := by
  have HV := Lib.hid h
  clear h
  go_enter Tryd.func20, Tryd.ntmps20
  go_wp2_with fail
  (with_reducible refine (refValid_any f t _).mono ?_)
  rw [HV.out]
  rintro e w1 ⟨rfl, hb1⟩
  go_wp2_with fail
  go_ret
  exact ⟨rfl, (Below.of_alloc (w := w) _).trans (hb1.mono (by simp))⟩

set_option maxHeartbeats 1000000 in
theorem refText_yes (F T : Nat) (w : World) (h : validP F T = true) (hT : (T : Int) < 1099511627776) (hF : (F : Int) ≤ 1099511627776) :
    Calls Tryd.prog 20 #[.agg #[.int .i64 F, .int .i64 T]] w fun e w' => e = .returned (.string ⟨(91 :: (decDigits F ++ 44 :: 32 :: (decDigits T ++ [41]))).toArray⟩) ∧ Below w.heap.size w w' := by
  have HV := Lib.hid h
  clear h
  have l1 := dec_len 12 F (by omega)
  have l2 := dec_len 12 T (by omega)
  rw [← mk_size] at l1 l2
  have hne : ((T : Int) != 1099511627776) = true := by rw [bne_iff_ne]; omega
  go_enter Tryd.func20, Tryd.ntmps20
  go_wp2_with fail
  (with_reducible refine (refValid_any F T _).mono ?_)
  rw [HV.out]
  rintro e w1 ⟨rfl, hb1⟩
  have hB1 := (Below.of_alloc (w := w) _).trans (hb1.mono (by simp))
  have hs1 : w.heap.size < w1.heap.size := by have := hb1.size; simp at this; omega
  have c0 := (hb1.cell (p := ⟨w.heap.size, 0, none⟩) (by simp)).trans (box_cell w _ _ 0 rfl)
  have c1 := (hb1.cell (p := ⟨w.heap.size, 1, none⟩) (by simp)).trans (box_cell w _ _ 1 rfl)
  clear hb1
  go_wp2_with fail
  (with_reducible refine (refNumber_any T _ (by omega)).mono ?_)
  rintro e w2 ⟨rfl, rfl⟩
  go_wp2_with fail
  (with_reducible refine (refNumber_any F _ (by omega)).mono ?_)
  rintro e w3 ⟨rfl, rfl⟩
  have hmk := Lib.hid (text_mk (decDigits F) (decDigits T))
  generalize (⟨(decDigits F).toArray⟩ : ByteArray) = A at *
  generalize (⟨(decDigits T).toArray⟩ : ByteArray) = B at *
  go_wp2_with fail
  go_ret
  exact ⟨congrArg (fun s => Ending.returned (.string s)) hmk.out, hB1⟩

set_option maxHeartbeats 1000000 in
theorem refText_ever (F : Nat) (w : World) (h : validP F 1099511627776 = true) (hF : (F : Int) ≤ 1099511627776) :
    Calls Tryd.prog 20 #[.agg #[.int .i64 F, .int .i64 1099511627776]] w fun e w' => e = .returned (.string ⟨(91 :: (decDigits F ++ 44 :: 32 :: (forever ++ [41]))).toArray⟩) ∧ Below w.heap.size w w' := by
  have HV := Lib.hid h
  clear h
  have l1 := dec_len 12 F (by omega)
  rw [← mk_size] at l1
  go_enter Tryd.func20, Tryd.ntmps20
  go_wp2_with fail
  (with_reducible refine (refValid_any F 1099511627776 _).mono ?_)
  rw [HV.out]
  rintro e w1 ⟨rfl, hb1⟩
  have hB1 := (Below.of_alloc (w := w) _).trans (hb1.mono (by simp))
  have hs1 : w.heap.size < w1.heap.size := by have := hb1.size; simp at this; omega
  have c0 := (hb1.cell (p := ⟨w.heap.size, 0, none⟩) (by simp)).trans (box_cell w _ _ 0 rfl)
  have c1 := (hb1.cell (p := ⟨w.heap.size, 1, none⟩) (by simp)).trans (box_cell w _ _ 1 rfl)
  clear hb1
  go_wp2_with fail
  (with_reducible refine (refNumber_any F _ (by omega)).mono ?_)
  rintro e w3 ⟨rfl, rfl⟩
  have hmk := Lib.hid (text_mk_forever (decDigits F))
  generalize (⟨(decDigits F).toArray⟩ : ByteArray) = A at *
  go_wp2_with fail
  go_ret
  exact ⟨congrArg (fun s => Ending.returned (.string s)) hmk.out, hB1⟩

theorem refText_any (f t : Int) (w : World) :
    Calls Tryd.prog 20 #[.agg #[.int .i64 f, .int .i64 t]] w fun e w' => e = .returned (.string ⟨(textP f t).toArray⟩) ∧ Below w.heap.size w w' := by
  cases h : validP f t
  · have ht : textP f t = [] := by unfold textP; rw [h]; simp
    rw [ht]; exact refText_none f t w h
  · have hv := h
    unfold validP at hv
    rw [decide_eq_true_eq] at hv
    unfold textP
    rw [if_pos h]
    obtain ⟨F, rfl⟩ := Int.eq_ofNat_of_zero_le hv.1
    obtain ⟨T, rfl⟩ := Int.eq_ofNat_of_zero_le (show 0 ≤ t by omega)
    rw [Int.toNat_natCast, Int.toNat_natCast]
    by_cases hT : (T : Int) = 1099511627776
    · rw [if_pos hT]
      rw [hT] at h ⊢
      exact refText_ever F w h (by omega)
    · rw [if_neg hT]; exact refText_yes F T w h (by omega) (by omega)

end Go.Proofs.YtipngnejiddkdaaDoor
