/-
  Values: reading them.
-/
import Derived.Test.YthfclmkeadpcbaaCodecK
namespace Go.Proofs.Ythfclmkeadpcbaa
open Go.RowKit Go.Lib

def zeroV : Val := ⟨0, 0, ⟨#[]⟩⟩
/-- what is read behind the first byte c -/
def decV1 (l : List UInt8) (k : Nat) (c : Nat) : Val × Int × Int :=
  if c = 0 then (zeroV, (k : Int) + 1, 0)
  else if c = 1 then
    if (decI l ((k : Int) + 1)).2.2 ≠ 0 then (zeroV, 0, (decI l ((k : Int) + 1)).2.2)
    else if (decI l ((k : Int) + 1)).1 < -1125899906842624 ∨ 1125899906842624 < (decI l ((k : Int) + 1)).1 then (zeroV, 0, 6)
    else (⟨1, (decI l ((k : Int) + 1)).1, ⟨#[]⟩⟩, (decI l ((k : Int) + 1)).2.1, 0)
  else if c = 2 then
    if (decT l ((k : Int) + 1) 200).2.2 ≠ 0 then (zeroV, 0, (decT l ((k : Int) + 1) 200).2.2)
    else if printB (decT l ((k : Int) + 1) 200).1 = false then (zeroV, 0, 1)
    else (⟨2, 0, strB (decT l ((k : Int) + 1) 200).1⟩, (decT l ((k : Int) + 1) 200).2.1, 0)
  else if c = 3 ∨ c = 4 then (⟨3, (c : Int) - 3, ⟨#[]⟩⟩, (k : Int) + 1, 0)
  else (zeroV, 0, 1)
def decV (l : List UInt8) (k : Int) : Val × Int × Int :=
  if k < 0 ∨ (l.length : Int) < k then (zeroV, 0, 6)
  else match l[k.toNat]? with
    | none => (zeroV, 0, 2)
    | some c => decV1 l k.toNat c.toNat

def Value3 (r : Val × Int × Int) (w0 : World) (e : Ending) (w : World) : Prop :=
  e = .returned (.tuple #[.agg #[.int .i64 r.1.kind, .int .i64 r.1.int, .string r.1.text], .int .i64 r.2.1, .int .i64 r.2.2]) ∧ Below w0.heap.size w0 w

theorem validV_text {l : List UInt8} (h : l.length ≤ 200) : validV ⟨2, 0, strB l⟩ = printB l := by
  simp [validV, strB_size, h]
  simp [strB]

set_option maxHeartbeats 1600000 in
theorem value_any_at (v : Value) (l : List UInt8) (k : Nat) (w : World) (hv : RdB w (· < w.heap.size) v l) (hk : k < l.length) :
    Calls Try.prog 34 #[v, .int .i64 (k : Int)] w (Value3 (decV1 l k (l[k]'hk).toNat) w) := by
  obtain ⟨A, cp, rfl, hc1, hc2, hc3⟩ := hv.open_
  unfold maxLen at hc2
  obtain ⟨bb, off, rfl, hF, hcell⟩ := Rd.plain hv (by omega) (by omega)
  have hc := hcell k _ (bv_get hk)
  clear hcell
  have hbx := Below.of_alloc (w := w) (.cells #[.int .i64 0, .int .i64 0, .string ⟨#[]⟩] 37)
  have hC := fun (W : World) (h : Below w.heap.size w W) => int_any (· < W.heap.size) _ l ((k : Int) + 1) W (hv.below h)
  have hT := fun (W : World) (h : Below w.heap.size w W) => text_any (· < W.heap.size) _ l ((k : Int) + 1) 200 W (hv.below h)
  have hTb := decT_bd l ((k : Int) + 1) 200
  have HC := Lib.hid hC
  have HT := Lib.hid hT
  have h256 : (l[k]'hk).toNat < 256 := (l[k]'hk).toNat_lt
  clear hC hT
  unfold decV1
  generalize (l[k]'hk).toNat = c at *
  by_cases q0 : c = 0
  · subst q0
    simp only [if_true]
    go_enter Try.func34, Try.ntmps34
    go_wp2_with fail
    exact bodyPost_ret (v := .tuple #[.agg #[.int .i64 0, .int .i64 0, .string ⟨#[]⟩], .int .i64 ((k : Int) + 1), .int .i64 0]) (by simp [results, Try.results34, go_sem]) rfl ⟨rfl, below1 _⟩
  · rw [if_neg q0]
    by_cases q1 : c = 1
    · subst q1
      simp only [if_true]
      generalize decI l ((k : Int) + 1) = r at *
      obtain ⟨n, m, e⟩ := r
      simp only
      by_cases he : e = 0
      · subst he
        simp only [ne_eq, not_true_eq_false, if_false]
        by_cases hr : n < -1125899906842624 ∨ 1125899906842624 < n
        · rw [if_pos hr]
          rcases hr with hr | hr
          · clear HT
            go_enter Try.func34, Try.ntmps34
            go_wp2_with fail
            (with_reducible refine (HC.out _ hbx).mono ?_)
            rintro _ _ ⟨rfl, rfl⟩
            go_wp2_with fail
            exact bodyPost_ret (v := .tuple #[.agg #[.int .i64 0, .int .i64 0, .string ⟨#[]⟩], .int .i64 0, .int .i64 6]) (by simp [results, Try.results34, go_sem]) rfl ⟨rfl, below1 _⟩
          · have hr' : ¬ n < -1125899906842624 := by omega
            clear HT
            go_enter Try.func34, Try.ntmps34
            go_wp2_with fail
            (with_reducible refine (HC.out _ hbx).mono ?_)
            rintro _ _ ⟨rfl, rfl⟩
            go_wp2_with fail
            exact bodyPost_ret (v := .tuple #[.agg #[.int .i64 0, .int .i64 0, .string ⟨#[]⟩], .int .i64 0, .int .i64 6]) (by simp [results, Try.results34, go_sem]) rfl ⟨rfl, below1 _⟩
        · rw [if_neg hr]
          have r1 : ¬ n < -1125899906842624 := by omega
          have r2 : ¬ 1125899906842624 < n := by omega
          clear hr HT
          go_enter Try.func34, Try.ntmps34
          go_wp2_with fail
          (with_reducible refine (HC.out _ hbx).mono ?_)
          rintro _ _ ⟨rfl, rfl⟩
          go_wp2_with fail
          exact bodyPost_ret (v := .tuple #[.agg #[.int .i64 1, .int .i64 n, .string ⟨#[]⟩], .int .i64 m, .int .i64 0]) (by simp [results, Try.results34, go_sem]) rfl ⟨rfl, below1 _⟩
      · simp only [ne_eq, he, not_false_eq_true, if_true]
        have b1 : (e != 0) = true := by rw [bne_iff_ne]; exact he
        have b2 : (e == 0) = false := beq_eq_false_iff_ne.2 he
        have HE := Lib.hid he
        clear he HT
        go_enter Try.func34, Try.ntmps34
        go_wp2_with fail
        (with_reducible refine (HC.out _ hbx).mono ?_)
        rintro _ _ ⟨rfl, rfl⟩
        go_wp2_with fail
        exact bodyPost_ret (v := .tuple #[.agg #[.int .i64 0, .int .i64 0, .string ⟨#[]⟩], .int .i64 0, .int .i64 e]) (by simp [results, Try.results34, go_sem]) rfl ⟨rfl, below1 _⟩
    · rw [if_neg q1]
      by_cases q2 : c = 2
      · subst q2
        simp only [if_true]
        generalize decT l ((k : Int) + 1) 200 = r at *
        obtain ⟨x, m, e⟩ := r
        simp only at hTb ⊢
        by_cases he : e = 0
        · subst he
          simp only [ne_eq, not_true_eq_false, if_false]
          have hx : x.length ≤ 200 := by omega
          have hvx := validV_text hx
          have hxs := strB_size x
          have hxl : (strB x).data.toList = x := by simp [strB]
          cases hp : printB x
          · simp only [if_true]
            have HP := Lib.hid (hvx.trans hp)
            have HX := Lib.hid hxs
            clear hp hvx hxs hxl HC
            go_enter Try.func34, Try.ntmps34
            go_wp2_with fail
            (with_reducible refine (HT.out _ hbx).mono ?_)
            rintro _ _ ⟨rfl, rfl⟩
            go_wp2_with fail
            (with_reducible refine (validValue_any 2 0 (strB x) _ ?_).mono ?_)
            · rw [HX.out]; simp only [maxLen]; omega
            rintro e w1 ⟨rfl, rfl⟩
            rw [HP.out]
            go_wp2_with fail
            exact bodyPost_ret (v := .tuple #[.agg #[.int .i64 0, .int .i64 0, .string ⟨#[]⟩], .int .i64 0, .int .i64 1]) (by simp [results, Try.results34, go_sem]) rfl ⟨rfl, below3 _ _ _⟩
          · simp only [Bool.true_eq_false, if_false]
            have HP := Lib.hid (hvx.trans hp)
            have HX := Lib.hid hxs
            clear hp hvx hxs hxl HC
            go_enter Try.func34, Try.ntmps34
            go_wp2_with fail
            (with_reducible refine (HT.out _ hbx).mono ?_)
            rintro _ _ ⟨rfl, rfl⟩
            go_wp2_with fail
            (with_reducible refine (validValue_any 2 0 (strB x) _ ?_).mono ?_)
            · rw [HX.out]; simp only [maxLen]; omega
            rintro e w1 ⟨rfl, rfl⟩
            rw [HP.out]
            go_wp2_with fail
            exact bodyPost_ret (v := .tuple #[.agg #[.int .i64 2, .int .i64 0, .string (strB x)], .int .i64 m, .int .i64 0]) (by simp [results, Try.results34, go_sem]) rfl ⟨rfl, below3 _ _ _⟩
        · simp only [ne_eq, he, not_false_eq_true, if_true]
          have b1 : (e != 0) = true := by rw [bne_iff_ne]; exact he
          have b2 : (e == 0) = false := beq_eq_false_iff_ne.2 he
          have HE := Lib.hid he
          clear he HC hTb
          go_enter Try.func34, Try.ntmps34
          go_wp2_with fail
          (with_reducible refine (HT.out _ hbx).mono ?_)
          rintro _ _ ⟨rfl, rfl⟩
          go_wp2_with fail
          exact bodyPost_ret (v := .tuple #[.agg #[.int .i64 0, .int .i64 0, .string ⟨#[]⟩], .int .i64 0, .int .i64 e]) (by simp [results, Try.results34, go_sem]) rfl ⟨rfl, below1 _⟩
      · rw [if_neg q2]
        clear hTb HC HT
        by_cases q3 : c = 3
        · subst q3
          simp only [true_or, if_true]
          go_enter Try.func34, Try.ntmps34
          go_wp2_with fail
          exact bodyPost_ret (v := .tuple #[.agg #[.int .i64 3, .int .i64 (((3 : Nat) : Int) - 3), .string ⟨#[]⟩], .int .i64 ((k : Int) + 1), .int .i64 0]) (by simp [results, Try.results34, go_sem]) rfl ⟨rfl, below1 _⟩
        · by_cases q4 : c = 4
          · subst q4
            simp only [or_true, if_true]
            go_enter Try.func34, Try.ntmps34
            go_wp2_with fail
            exact bodyPost_ret (v := .tuple #[.agg #[.int .i64 3, .int .i64 (((4 : Nat) : Int) - 3), .string ⟨#[]⟩], .int .i64 ((k : Int) + 1), .int .i64 0]) (by simp [results, Try.results34, go_sem]) rfl ⟨rfl, below1 _⟩
          · rw [if_neg (by omega)]
            have b0 : ((c : Int) == 0) = false := beq_eq_false_iff_ne.2 (by omega)
            have b1 : ((c : Int) == 1) = false := beq_eq_false_iff_ne.2 (by omega)
            have b2 : ((c : Int) == 2) = false := beq_eq_false_iff_ne.2 (by omega)
            have b3 : ((c : Int) == 3) = false := beq_eq_false_iff_ne.2 (by omega)
            have b4 : ((c : Int) == 4) = false := beq_eq_false_iff_ne.2 (by omega)
            clear q0 q1 q2 q3 q4
            go_enter Try.func34, Try.ntmps34
            go_wp2_with fail
            exact bodyPost_ret (v := .tuple #[.agg #[.int .i64 0, .int .i64 0, .string ⟨#[]⟩], .int .i64 0, .int .i64 1]) (by simp [results, Try.results34, go_sem]) rfl ⟨rfl, below1 _⟩

set_option maxHeartbeats 800000 in
theorem value_any (v : Value) (l : List UInt8) (k : Int) (w : World) (hv : RdB w (· < w.heap.size) v l) :
    Calls Try.prog 34 #[v, .int .i64 k] w (Value3 (decV l k) w) := by
  unfold decV
  by_cases h : k < 0 ∨ (l.length : Int) < k
  · rw [if_pos h]
    obtain ⟨A, cp, rfl, hc1, hc2, hc3⟩ := hv.open_
    unfold maxLen at hc2
    rcases h with h | h
    · go_enter Try.func34, Try.ntmps34
      go_wp2_with fail
      exact bodyPost_ret (v := .tuple #[.agg #[.int .i64 0, .int .i64 0, .string ⟨#[]⟩], .int .i64 0, .int .i64 6]) (by simp [results, Try.results34, go_sem]) rfl ⟨rfl, below1 _⟩
    · have h' : ¬ k < 0 := by omega
      go_enter Try.func34, Try.ntmps34
      go_wp2_with fail
      exact bodyPost_ret (v := .tuple #[.agg #[.int .i64 0, .int .i64 0, .string ⟨#[]⟩], .int .i64 0, .int .i64 6]) (by simp [results, Try.results34, go_sem]) rfl ⟨rfl, below1 _⟩
  · rw [if_neg h]
    obtain ⟨n, rfl⟩ := Int.eq_ofNat_of_zero_le (show 0 ≤ k by omega)
    rw [Int.toNat_natCast]
    by_cases hn : n < l.length
    · rw [List.getElem?_eq_getElem hn]
      exact value_any_at v l n w hv hn
    · rw [List.getElem?_eq_none (by omega)]
      obtain rfl : n = l.length := by omega
      obtain ⟨A, cp, rfl, hc1, hc2, hc3⟩ := hv.open_
      unfold maxLen at hc2
      clear hn h
      go_enter Try.func34, Try.ntmps34
      go_wp2_with fail
      exact bodyPost_ret (v := .tuple #[.agg #[.int .i64 0, .int .i64 0, .string ⟨#[]⟩], .int .i64 0, .int .i64 2]) (by simp [results, Try.results34, go_sem]) rfl ⟨rfl, below1 _⟩

end Go.Proofs.Ythfclmkeadpcbaa
