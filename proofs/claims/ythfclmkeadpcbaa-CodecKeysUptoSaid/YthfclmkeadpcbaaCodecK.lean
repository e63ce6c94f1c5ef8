/-
  Periods: reading them.
-/
import Derived.Test.YthfclmkeadpcbaaCodecJ
namespace Go.Proofs.Ythfclmkeadpcbaa
open Go.RowKit Go.Lib

theorem bcell {W w1 : World} (hb : Below W.heap.size W w1) : (∀ b o, b < W.heap.size → w1.cell? ⟨b, o, none⟩ = W.cell? ⟨b, o, none⟩) ∧ (∀ b o, b < W.heap.size → w1.frozen? ⟨b, o, none⟩ = W.frozen? ⟨b, o, none⟩) :=
  ⟨fun b o h => hb.cell (p := ⟨b, o, none⟩) h, fun b o h => hb.frozen (p := ⟨b, o, none⟩) h⟩
theorem below1 {w : World} (a : Obj) : Below w.heap.size w (w.alloc a) := Below.of_alloc a
theorem below2 {w : World} (a b : Obj) : Below w.heap.size w ((w.alloc a).alloc b) := (below1 a).alloc (by simp) b
theorem below3 {w : World} (a b c : Obj) : Below w.heap.size w (((w.alloc a).alloc b).alloc c) := (below2 a b).alloc (by simp; omega) c

def decP (l : List UInt8) (k : Int) : (Int × Int) × Int × Int :=
  if (decI l k).2.2 ≠ 0 then ((0, 0), 0, (decI l k).2.2)
  else if (decI l (decI l k).2.1).2.2 ≠ 0 then ((0, 0), 0, (decI l (decI l k).2.1).2.2)
  else if validP (decI l k).1 (decI l (decI l k).2.1).1 = false then ((0, 0), 0, 6)
  else (((decI l k).1, (decI l (decI l k).2.1).1), (decI l (decI l k).2.1).2.1, 0)

def Period3 (r : (Int × Int) × Int × Int) (w0 : World) (e : Ending) (w : World) : Prop :=
  e = .returned (.tuple #[.agg #[.int .i64 r.1.1, .int .i64 r.1.2], .int .i64 r.2.1, .int .i64 r.2.2]) ∧ Below w0.heap.size w0 w

set_option maxHeartbeats 800000 in
theorem period_any (v : Value) (l : List UInt8) (k : Int) (w : World) (hv : RdB w (· < w.heap.size) v l) :
    Calls Try.prog 31 #[v, .int .i64 k] w (Period3 (decP l k) w) := by
  have hC := fun (W : World) (h : Below w.heap.size w W) => int_any (· < W.heap.size) v l k W (hv.below h)
  have hD := fun (W : World) (h : Below w.heap.size w W) => int_any (· < W.heap.size) v l (decI l k).2.1 W (hv.below h)
  unfold decP
  generalize decI l k = r at *
  obtain ⟨a, k1, e1⟩ := r
  simp only at hD ⊢
  generalize decI l k1 = q at *
  obtain ⟨b, k2, e2⟩ := q
  simp only
  have HC := Lib.hid hC
  have HD := Lib.hid hD
  clear hC hD
  have hbx := Below.of_alloc (w := w) (.cells #[.int .i64 0, .int .i64 0] 44)
  by_cases he1 : e1 = 0
  · subst he1
    simp only [ne_eq, not_true_eq_false, if_false]
    by_cases he2 : e2 = 0
    · subst he2
      simp only [not_true_eq_false, if_false]
      cases hp : validP a b
      · simp only [if_true]
        have HP := Lib.hid hp
        clear hp
        go_enter Try.func31, Try.ntmps31
        go_wp2_with fail
        (with_reducible refine (HC.out _ hbx).mono ?_)
        rintro _ _ ⟨rfl, rfl⟩
        go_wp2_with fail
        (with_reducible refine (HD.out _ hbx).mono ?_)
        rintro _ _ ⟨rfl, rfl⟩
        go_wp2_with fail
        (with_reducible refine (periodValid_any a b _).mono ?_)
        rintro e w1 ⟨rfl, rfl⟩
        rw [HP.out]
        go_wp2_with fail
        exact bodyPost_ret (v := .tuple #[.agg #[.int .i64 0, .int .i64 0], .int .i64 0, .int .i64 6]) (by simp [results, Try.results31, go_sem]) rfl ⟨rfl, below3 _ _ _⟩
      · simp only [Bool.true_eq_false, if_false]
        have HP := Lib.hid hp
        clear hp
        go_enter Try.func31, Try.ntmps31
        go_wp2_with fail
        (with_reducible refine (HC.out _ hbx).mono ?_)
        rintro _ _ ⟨rfl, rfl⟩
        go_wp2_with fail
        (with_reducible refine (HD.out _ hbx).mono ?_)
        rintro _ _ ⟨rfl, rfl⟩
        go_wp2_with fail
        (with_reducible refine (periodValid_any a b _).mono ?_)
        rintro e w1 ⟨rfl, rfl⟩
        rw [HP.out]
        go_wp2_with fail
        exact bodyPost_ret (v := .tuple #[.agg #[.int .i64 a, .int .i64 b], .int .i64 k2, .int .i64 0]) (by simp [results, Try.results31, go_sem]) rfl ⟨rfl, below3 _ _ _⟩
    · simp only [he2, not_false_eq_true, if_true]
      have b1 : (e2 != 0) = true := by rw [bne_iff_ne]; exact he2
      have HE := Lib.hid he2
      clear he2
      go_enter Try.func31, Try.ntmps31
      go_wp2_with fail
      (with_reducible refine (HC.out _ hbx).mono ?_)
      rintro _ _ ⟨rfl, rfl⟩
      go_wp2_with fail
      (with_reducible refine (HD.out _ hbx).mono ?_)
      rintro _ _ ⟨rfl, rfl⟩
      go_wp2_with fail
      exact bodyPost_ret (v := .tuple #[.agg #[.int .i64 0, .int .i64 0], .int .i64 0, .int .i64 e2]) (by simp [results, Try.results31, go_sem]) rfl ⟨rfl, below1 _⟩
  · simp only [ne_eq, he1, not_false_eq_true, if_true]
    have b1 : (e1 != 0) = true := by rw [bne_iff_ne]; exact he1
    have HE := Lib.hid he1
    clear he1
    go_enter Try.func31, Try.ntmps31
    go_wp2_with fail
    (with_reducible refine (HC.out _ hbx).mono ?_)
    rintro _ _ ⟨rfl, rfl⟩
    go_wp2_with fail
    exact bodyPost_ret (v := .tuple #[.agg #[.int .i64 0, .int .i64 0], .int .i64 0, .int .i64 e1]) (by simp [results, Try.results31, go_sem]) rfl ⟨rfl, below1 _⟩

set_option maxHeartbeats 800000 in
theorem refPeriod_any (v : Value) (l : List UInt8) (k : Int) (w : World) (hv : RdB w (· < w.heap.size) v l) :
    Calls Try.prog 32 #[v, .int .i64 k] w (Period3 (decP l k) w) := by
  have hC := fun (W : World) (h : Below w.heap.size w W) => refInt_any (· < W.heap.size) v l k W (hv.below h)
  have hD := fun (W : World) (h : Below w.heap.size w W) => refInt_any (· < W.heap.size) v l (decI l k).2.1 W (hv.below h)
  unfold decP
  generalize decI l k = r at *
  obtain ⟨a, k1, e1⟩ := r
  simp only at hD ⊢
  generalize decI l k1 = q at *
  obtain ⟨b, k2, e2⟩ := q
  simp only
  have HC := Lib.hid hC
  have HD := Lib.hid hD
  clear hC hD
  have hbx := Below.of_alloc (w := w) (.cells #[.int .i64 0, .int .i64 0] 44)
  by_cases he1 : e1 = 0
  · subst he1
    simp only [ne_eq, not_true_eq_false, if_false]
    by_cases he2 : e2 = 0
    · subst he2
      simp only [not_true_eq_false, if_false]
      cases hp : validP a b
      · simp only [if_true]
        have hq : a < 0 ∨ b ≤ a ∨ 1099511627776 < b := by
          simp only [validP, Bool.and_eq_false_iff, decide_eq_false_iff_not] at hp
          omega
        clear hp
        by_cases q1 : a < 0
        · clear hq
          go_enter Try.func32, Try.ntmps32
          go_wp2_with fail
          (with_reducible refine (HC.out _ hbx).mono ?_)
          rintro _ _ ⟨rfl, rfl⟩
          go_wp2_with fail
          (with_reducible refine (HD.out _ hbx).mono ?_)
          rintro _ _ ⟨rfl, rfl⟩
          go_wp2_with fail
          exact bodyPost_ret (v := .tuple #[.agg #[.int .i64 0, .int .i64 0], .int .i64 0, .int .i64 6]) (by simp [results, Try.results32, go_sem]) rfl ⟨rfl, below1 _⟩
        · by_cases q2 : b ≤ a
          · clear hq
            go_enter Try.func32, Try.ntmps32
            go_wp2_with fail
            (with_reducible refine (HC.out _ hbx).mono ?_)
            rintro _ _ ⟨rfl, rfl⟩
            go_wp2_with fail
            (with_reducible refine (HD.out _ hbx).mono ?_)
            rintro _ _ ⟨rfl, rfl⟩
            go_wp2_with fail
            exact bodyPost_ret (v := .tuple #[.agg #[.int .i64 0, .int .i64 0], .int .i64 0, .int .i64 6]) (by simp [results, Try.results32, go_sem]) rfl ⟨rfl, below1 _⟩
          · have q3 : 1099511627776 < b := by omega
            clear hq
            go_enter Try.func32, Try.ntmps32
            go_wp2_with fail
            (with_reducible refine (HC.out _ hbx).mono ?_)
            rintro _ _ ⟨rfl, rfl⟩
            go_wp2_with fail
            (with_reducible refine (HD.out _ hbx).mono ?_)
            rintro _ _ ⟨rfl, rfl⟩
            go_wp2_with fail
            exact bodyPost_ret (v := .tuple #[.agg #[.int .i64 0, .int .i64 0], .int .i64 0, .int .i64 6]) (by simp [results, Try.results32, go_sem]) rfl ⟨rfl, below1 _⟩
      · simp only [Bool.true_eq_false, if_false]
        have hq : 0 ≤ a ∧ a < b ∧ b ≤ 1099511627776 := by
          simp only [validP, Bool.and_eq_true, decide_eq_true_eq] at hp
          omega
        clear hp
        obtain ⟨q1, q2, q3⟩ := hq
        go_enter Try.func32, Try.ntmps32
        go_wp2_with fail
        (with_reducible refine (HC.out _ hbx).mono ?_)
        rintro _ _ ⟨rfl, rfl⟩
        go_wp2_with fail
        (with_reducible refine (HD.out _ hbx).mono ?_)
        rintro _ _ ⟨rfl, rfl⟩
        go_wp2_with fail
        exact bodyPost_ret (v := .tuple #[.agg #[.int .i64 a, .int .i64 b], .int .i64 k2, .int .i64 0]) (by simp [results, Try.results32, go_sem]) rfl ⟨rfl, below1 _⟩
    · simp only [he2, not_false_eq_true, if_true]
      have b1 : (e2 != 0) = true := by rw [bne_iff_ne]; exact he2
      have HE := Lib.hid he2
      clear he2
      go_enter Try.func32, Try.ntmps32
      go_wp2_with fail
      (with_reducible refine (HC.out _ hbx).mono ?_)
      rintro _ _ ⟨rfl, rfl⟩
      go_wp2_with fail
      (with_reducible refine (HD.out _ hbx).mono ?_)
      rintro _ _ ⟨rfl, rfl⟩
      go_wp2_with fail
      exact bodyPost_ret (v := .tuple #[.agg #[.int .i64 0, .int .i64 0], .int .i64 0, .int .i64 e2]) (by simp [results, Try.results32, go_sem]) rfl ⟨rfl, below1 _⟩
  · simp only [ne_eq, he1, not_false_eq_true, if_true]
    have b1 : (e1 != 0) = true := by rw [bne_iff_ne]; exact he1
    have HE := Lib.hid he1
    clear he1
    go_enter Try.func32, Try.ntmps32
    go_wp2_with fail
    (with_reducible refine (HC.out _ hbx).mono ?_)
    rintro _ _ ⟨rfl, rfl⟩
    go_wp2_with fail
    exact bodyPost_ret (v := .tuple #[.agg #[.int .i64 0, .int .i64 0], .int .i64 0, .int .i64 e1]) (by simp [results, Try.results32, go_sem]) rfl ⟨rfl, below1 _⟩

end Go.Proofs.Ythfclmkeadpcbaa
