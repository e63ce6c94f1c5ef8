/-
  Periods.
-/
import Derived.Test.YthfclmkeadpcbaaCodecF
import Derived.Deep.RegionHeld3
namespace Go.Proofs.Ythfclmkeadpcbaa
open Go.RowKit Go.Lib

def validP (f t : Int) : Bool := decide (0 ≤ f) && decide (f < t) && decide (t ≤ 1099511627776)

set_option maxHeartbeats 400000 in
theorem periodValid_any (f t : Int) (w : World) :
    Calls Try.prog 46 #[.agg #[.int .i64 f, .int .i64 t]] w fun e w' => e = .returned (.bool (validP f t)) ∧ w.alloc (.cells #[.int .i64 f, .int .i64 t] 44) = w' := by
  go_enter Try.func46, Try.ntmps46
  go_wp2
  all_goals go_ret
  all_goals refine ⟨ret_bool ?_, by first | rfl | (simp_all; done)⟩
  all_goals simp_all [validP]
  all_goals omega

set_option maxHeartbeats 400000 in
theorem putPeriod_any (v : Value) (l : List UInt8) (f t : Int) (w : World) (f1 : -9223372036854775808 ≤ f) (f2 : f ≤ 9223372036854775807) (t1 : -9223372036854775808 ≤ t) (t2 : t ≤ 9223372036854775807)
    (hv : RdB w (· < w.heap.size) v l) (hl : l.length ≤ 140737488354000) :
    Calls Try.prog 27 #[v, .agg #[.int .i64 f, .int .i64 t]] w (NewB w (l ++ (encI f ++ encI t))) := by
  obtain ⟨A, c, rfl, hc1, hc2, hA⟩ := hv.view
  have e1 := encI_length f
  go_enter Try.func27, Try.ntmps27
  go_wp2_with fail
  have hA' := hA.box (.cells #[.int .i64 f, .int .i64 t] 44)
  have HA := Lib.hid hA'
  clear hA' hA
  go_region_held3 (fun w' => w'.cell? ⟨w.heap.size, 0, none⟩ = some (.int .i64 f) ∧ w'.cell? ⟨w.heap.size, 1, none⟩ = some (.int .i64 t))
    (first | go_keep | (go_split_ands; constructor <;> (refine (hg2.below.cell ?_).trans ?_ <;> first | assumption | (simp; done))) | (go_split_ands; constructor <;> (refine (hg1.below.cell ?_).trans ?_ <;> first | assumption | (simp; done))))
    (first
      | (go_at_call 43; ((with_reducible refine (grow_any A _ c _ hc1).mono ?_)); rintro e w' ⟨rfl, rfl⟩)
      | (go_at_call 42; ((with_reducible refine (put_any (w.heap.size + 1) (.slice A l.length l.length) l f _ f1 f2 ?_ ?_ ?_).mono ?_)); exact HA.out; simp; omega; rintro e w1 ⟨v1, rfl, ho1, hg1⟩)
      | (go_at_call 42; ((with_reducible refine (put_any (w.heap.size + 1) v1 (l ++ encI f) t _ t1 t2 ?_ ?_ ?_).mono ?_)); exact ho1.app; (have := hg1.size; simp at this; omega); (simp; omega); rintro e w2 ⟨v2, rfl, ho2, hg2⟩))
  go_wp2
  go_ret
  exact ⟨v2, rfl, by rw [← List.append_assoc]; exact own_base ho2 (Nat.le_succ _), (Below.of_alloc (w := w) (.cells #[.int .i64 f, .int .i64 t] 44)).drew.trans ((hg1.below.trans hg2.below).mono (Nat.le_succ _))⟩

set_option maxHeartbeats 400000 in
theorem refPutPeriod_any (v : Value) (l : List UInt8) (f t : Int) (w : World) (f1 : -9223372036854775808 ≤ f) (f2 : f ≤ 9223372036854775807) (t1 : -9223372036854775808 ≤ t) (t2 : t ≤ 9223372036854775807)
    (hv : RdB w (· < w.heap.size) v l) (hl : l.length ≤ 140737488354000) :
    Calls Try.prog 33 #[v, .agg #[.int .i64 f, .int .i64 t]] w (NewB w (l ++ (encI f ++ encI t))) := by
  have e1 := encI_length f
  go_enter Try.func33, Try.ntmps33
  go_wp2_with fail
  have hv' := hv.below' (Below.of_alloc (.cells #[.int .i64 f, .int .i64 t] 44))
  have HV := Lib.hid hv'
  clear hv' hv
  go_region_held3 (fun w' => w'.cell? ⟨w.heap.size, 0, none⟩ = some (.int .i64 f) ∧ w'.cell? ⟨w.heap.size, 1, none⟩ = some (.int .i64 t))
    (first | go_keep | (go_split_ands; constructor <;> (refine (hb2.cell ?_).trans ?_ <;> first | assumption | (have := hb1.size; simp at this ⊢; omega))) | (go_split_ands; constructor <;> (refine (hb1.cell ?_).trans ?_ <;> first | assumption | (simp; done))))
    (first
      | (go_at_call 15; ((with_reducible refine (refPutInt_any v l f _ f1 f2 ?_ ?_).mono ?_)); exact HV.out; omega; rintro e w1 ⟨v1, rfl, ho1, hb1⟩)
      | (go_at_call 15; ((with_reducible refine (refPutInt_any v1 (l ++ encI f) t _ t1 t2 ?_ ?_).mono ?_)); exact ho1.rd; (simp; omega); rintro e w2 ⟨v2, rfl, ho2, hb2⟩))
  go_wp2
  go_ret
  have hb1' := (Below.of_alloc (w := w) (.cells #[.int .i64 f, .int .i64 t] 44)).drew.trans (hb1.mono (by simp))
  exact ⟨v2, rfl, by rw [← List.append_assoc]; exact own_base ho2 hb1'.size, hb1'.trans (hb2.mono hb1'.size)⟩
end Go.Proofs.Ythfclmkeadpcbaa
