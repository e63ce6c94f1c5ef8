/-
  Values: the reference's reading.
-/
import Derived.Test.YthfclmkeadpcbaaCodecL
namespace Go.Proofs.Ythfclmkeadpcbaa
open Go.RowKit Go.Lib

set_option maxHeartbeats 1600000 in
theorem refValue_any_at (v : Value) (l : List UInt8) (k : Nat) (w : World) (hv : RdB w (· < w.heap.size) v l) (hk : k < l.length) :
    Calls Try.prog 35 #[v, .int .i64 (k : Int)] w (Value3 (decV1 l k (l[k]'hk).toNat) w) := by
  obtain ⟨A, cp, rfl, hc1, hc2, hc3⟩ := hv.open_
  unfold maxLen at hc2
  obtain ⟨bb, off, rfl, hF, hcell⟩ := Rd.plain hv (by omega) (by omega)
  have hc := hcell k _ (bv_get hk)
  clear hcell
  have hbx := Below.of_alloc (w := w) (.cells #[.int .i64 0, .int .i64 0, .string ⟨#[]⟩] 37)
  have hC := fun (W : World) (h : Below w.heap.size w W) => refInt_any (· < W.heap.size) _ l ((k : Int) + 1) W (hv.below h)
  have hT := fun (W : World) (h : Below w.heap.size w W) => refText_any (· < W.heap.size) _ l ((k : Int) + 1) 200 W (hv.below h)
  have hTb := decT_bd l ((k : Int) + 1) 200
  have HC := Lib.hid hC
  have HT := Lib.hid hT
  have h256 : (l[k]'hk).toNat < 256 := (l[k]'hk).toNat_lt
  clear hC hT
  unfold decV1
  generalize (l[k]'hk).toNat = c at *
  by_cases q0 : c = 0
  · subst q0
    simp only [if_true]
    go_enter Try.func35, Try.ntmps35
    go_wp2_with fail
    exact bodyPost_ret (v := .tuple #[.agg #[.int .i64 0, .int .i64 0, .string ⟨#[]⟩], .int .i64 ((k : Int) + 1), .int .i64 0]) (by simp [results, Try.results35, go_sem]) rfl ⟨rfl, below1 _⟩
  · rw [if_neg q0]
    by_cases q1 : c = 1
    · subst q1
      simp only [if_true]
      generalize decI l ((k : Int) + 1) = r at *
      obtain ⟨n, m, e⟩ := r
      simp only
      by_cases he : e = 0
      · subst he
        simp only [ne_eq, not_true_eq_false, if_false]
        by_cases hr : n < -1125899906842624 ∨ 1125899906842624 < n
        · rw [if_pos hr]
          rcases hr with hr | hr
          · clear HT
            go_enter Try.func35, Try.ntmps35
            go_wp2_with fail
            (with_reducible refine (HC.out _ hbx).mono ?_)
            rintro _ _ ⟨rfl, rfl⟩
            go_wp2_with fail
            exact bodyPost_ret (v := .tuple #[.agg #[.int .i64 0, .int .i64 0, .string ⟨#[]⟩], .int .i64 0, .int .i64 6]) (by simp [results, Try.results35, go_sem]) rfl ⟨rfl, below1 _⟩
          · have hr' : ¬ n < -1125899906842624 := by omega
            clear HT
            go_enter Try.func35, Try.ntmps35
            go_wp2_with fail
            (with_reducible refine (HC.out _ hbx).mono ?_)
            rintro _ _ ⟨rfl, rfl⟩
            go_wp2_with fail
            exact bodyPost_ret (v := .tuple #[.agg #[.int .i64 0, .int .i64 0, .string ⟨#[]⟩], .int .i64 0, .int .i64 6]) (by simp [results, Try.results35, go_sem]) rfl ⟨rfl, below1 _⟩
        · rw [if_neg hr]
          have r1 : ¬ n < -1125899906842624 := by omega
          have r2 : ¬ 1125899906842624 < n := by omega
          clear hr HT
          go_enter Try.func35, Try.ntmps35
          go_wp2_with fail
          (with_reducible refine (HC.out _ hbx).mono ?_)
          rintro _ _ ⟨rfl, rfl⟩
          go_wp2_with fail
          exact bodyPost_ret (v := .tuple #[.agg #[.int .i64 1, .int .i64 n, .string ⟨#[]⟩], .int .i64 m, .int .i64 0]) (by simp [results, Try.results35, go_sem]) rfl ⟨rfl, below1 _⟩
      · simp only [ne_eq, he, not_false_eq_true, if_true]
        have b1 : (e != 0) = true := by rw [bne_iff_ne]; exact he
        have b2 : (e == 0) = false := beq_eq_false_iff_ne.2 he
        have HE := Lib.hid he
        clear he HT
        go_enter Try.func35, Try.ntmps35
        go_wp2_with fail
        (with_reducible refine (HC.out _ hbx).mono ?_)
        rintro _ _ ⟨rfl, rfl⟩
        go_wp2_with fail
        exact bodyPost_ret (v := .tuple #[.agg #[.int .i64 0, .int .i64 0, .string ⟨#[]⟩], .int .i64 0, .int .i64 e]) (by simp [results, Try.results35, go_sem]) rfl ⟨rfl, below1 _⟩
    · rw [if_neg q1]
      by_cases q2 : c = 2
      · subst q2
        simp only [if_true]
        generalize decT l ((k : Int) + 1) 200 = r at *
        obtain ⟨x, m, e⟩ := r
        simp only at hTb ⊢
        by_cases he : e = 0
        · subst he
          simp only [ne_eq, not_true_eq_false, if_false]
          have hx : x.length ≤ 200 := by omega
          have hvx := validV_text hx
          have hxs := strB_size x
          have hxl : (strB x).data.toList = x := by simp [strB]
          cases hp : printB x
          · simp only [if_true]
            have HP := Lib.hid ((congrArg printB hxl).trans hp)
            have HX := Lib.hid hxs
            clear hp hvx hxs hxl HC
            go_enter Try.func35, Try.ntmps35
            go_wp2_with fail
            (with_reducible refine (HT.out _ hbx).mono ?_)
            rintro _ _ ⟨rfl, rfl⟩
            go_wp2_with fail
            (with_reducible refine (refPrintable_any (strB x) _ ?_).mono ?_)
            · rw [HX.out]; simp only [maxLen]; omega
            rintro e w1 ⟨rfl, rfl⟩
            rw [HP.out]
            go_wp2_with fail
            exact bodyPost_ret (v := .tuple #[.agg #[.int .i64 0, .int .i64 0, .string ⟨#[]⟩], .int .i64 0, .int .i64 1]) (by simp [results, Try.results35, go_sem]) rfl ⟨rfl, below1 _⟩
          · simp only [Bool.true_eq_false, if_false]
            have HP := Lib.hid ((congrArg printB hxl).trans hp)
            have HX := Lib.hid hxs
            clear hp hvx hxs hxl HC
            go_enter Try.func35, Try.ntmps35
            go_wp2_with fail
            (with_reducible refine (HT.out _ hbx).mono ?_)
            rintro _ _ ⟨rfl, rfl⟩
            go_wp2_with fail
            (with_reducible refine (refPrintable_any (strB x) _ ?_).mono ?_)
            · rw [HX.out]; simp only [maxLen]; omega
            rintro e w1 ⟨rfl, rfl⟩
            rw [HP.out]
            go_wp2_with fail
            exact bodyPost_ret (v := .tuple #[.agg #[.int .i64 2, .int .i64 0, .string (strB x)], .int .i64 m, .int .i64 0]) (by simp [results, Try.results35, go_sem]) rfl ⟨rfl, below1 _⟩
        · simp only [ne_eq, he, not_false_eq_true, if_true]
          have b1 : (e != 0) = true := by rw [bne_iff_ne]; exact he
          have b2 : (e == 0) = false := beq_eq_false_iff_ne.2 he
          have HE := Lib.hid he
          clear he HC hTb
          go_enter Try.func35, Try.ntmps35
          go_wp2_with fail
          (with_reducible refine (HT.out _ hbx).mono ?_)
          rintro _ _ ⟨rfl, rfl⟩
          go_wp2_with fail
          exact bodyPost_ret (v := .tuple #[.agg #[.int .i64 0, .int .i64 0, .string ⟨#[]⟩], .int .i64 0, .int .i64 e]) (by simp [results, Try.results35, go_sem]) rfl ⟨rfl, below1 _⟩
      · rw [if_neg q2]
        clear hTb HC HT
        by_cases q3 : c = 3
        · subst q3
          simp only [true_or, if_true]
          go_enter Try.func35, Try.ntmps35
          go_wp2_with fail
          exact bodyPost_ret (v := .tuple #[.agg #[.int .i64 3, .int .i64 (((3 : Nat) : Int) - 3), .string ⟨#[]⟩], .int .i64 ((k : Int) + 1), .int .i64 0]) (by simp [results, Try.results35, go_sem]) rfl ⟨rfl, below1 _⟩
        · by_cases q4 : c = 4
          · subst q4
            simp only [or_true, if_true]
            go_enter Try.func35, Try.ntmps35
            go_wp2_with fail
            exact bodyPost_ret (v := .tuple #[.agg #[.int .i64 3, .int .i64 (((4 : Nat) : Int) - 3), .string ⟨#[]⟩], .int .i64 ((k : Int) + 1), .int .i64 0]) (by simp [results, Try.results35, go_sem]) rfl ⟨rfl, below1 _⟩
          · rw [if_neg (by omega)]
            have b0 : ((c : Int) == 0) = false := beq_eq_false_iff_ne.2 (by omega)
            have b1 : ((c : Int) == 1) = false := beq_eq_false_iff_ne.2 (by omega)
            have b2 : ((c : Int) == 2) = false := beq_eq_false_iff_ne.2 (by omega)
            have b3 : ((c : Int) == 3) = false := beq_eq_false_iff_ne.2 (by omega)
            have b4 : ((c : Int) == 4) = false := beq_eq_false_iff_ne.2 (by omega)
            clear q0 q1 q2 q3 q4
            go_enter Try.func35, Try.ntmps35
            go_wp2_with fail
            exact bodyPost_ret (v := .tuple #[.agg #[.int .i64 0, .int .i64 0, .string ⟨#[]⟩], .int .i64 0, .int .i64 1]) (by simp [results, Try.results35, go_sem]) rfl ⟨rfl, below1 _⟩

set_option maxHeartbeats 800000 in
theorem refValue_any (v : Value) (l : List UInt8) (k : Int) (w : World) (hv : RdB w (· < w.heap.size) v l) :
    Calls Try.prog 35 #[v, .int .i64 k] w (Value3 (decV l k) w) := by
  unfold decV
  by_cases h : k < 0 ∨ (l.length : Int) < k
  · rw [if_pos h]
    obtain ⟨A, cp, rfl, hc1, hc2, hc3⟩ := hv.open_
    unfold maxLen at hc2
    rcases h with h | h
    · go_enter Try.func35, Try.ntmps35
      go_wp2_with fail
      exact bodyPost_ret (v := .tuple #[.agg #[.int .i64 0, .int .i64 0, .string ⟨#[]⟩], .int .i64 0, .int .i64 6]) (by simp [results, Try.results35, go_sem]) rfl ⟨rfl, below1 _⟩
    · have h' : ¬ k < 0 := by omega
      go_enter Try.func35, Try.ntmps35
      go_wp2_with fail
      exact bodyPost_ret (v := .tuple #[.agg #[.int .i64 0, .int .i64 0, .string ⟨#[]⟩], .int .i64 0, .int .i64 6]) (by simp [results, Try.results35, go_sem]) rfl ⟨rfl, below1 _⟩
  · rw [if_neg h]
    obtain ⟨n, rfl⟩ := Int.eq_ofNat_of_zero_le (show 0 ≤ k by omega)
    rw [Int.toNat_natCast]
    by_cases hn : n < l.length
    · rw [List.getElem?_eq_getElem hn]
      exact refValue_any_at v l n w hv hn
    · rw [List.getElem?_eq_none (by omega)]
      obtain rfl : n = l.length := by omega
      obtain ⟨A, cp, rfl, hc1, hc2, hc3⟩ := hv.open_
      unfold maxLen at hc2
      clear hn h
      go_enter Try.func35, Try.ntmps35
      go_wp2_with fail
      exact bodyPost_ret (v := .tuple #[.agg #[.int .i64 0, .int .i64 0, .string ⟨#[]⟩], .int .i64 0, .int .i64 2]) (by simp [results, Try.results35, go_sem]) rfl ⟨rfl, below1 _⟩

end Go.Proofs.Ythfclmkeadpcbaa
