/-
  The reference's with and PutInt; equality of bytes; texts.
-/
import Derived.Test.YthfclmkeadpcbaaCodecB
namespace Go.Proofs.Ythfclmkeadpcbaa
open Go.RowKit Go.Lib

set_option maxHeartbeats 400000 in
theorem with_any (va vb : Value) (la lb : List UInt8) (w : World) (ha : RdB w (· < w.heap.size) va la) (hb : RdB w (· < w.heap.size) vb lb) (hl : la.length + lb.length ≤ 140737488355328) :
    Calls Try.prog 44 #[va, vb] w (NewB w (la ++ lb)) := by
  obtain ⟨i0, hi, hz0, hz1, hz2⟩ := info_parts infoB
  go_enter Try.func44, Try.ntmps44
  go_wp2_with (first
    | (at_builtin; refine wpList_append_app _ rfl (.tmp 5) (.tmp 6) 22 rfl w.heap.size 5 i0 _ 1 1 Try.underlying22 hi hz0 hz1 hz2 rfl (by omega) _ 0 [] rfl (.inl (own_empty w w.heap.size _ 1 (Nat.le_refl _))) _ va la.length (bv la) rfl (Rd.alloc ha (Nat.le_refl _) _) (bv_one _) (by simp only [maxLen]; omega) (by omega) (by simp) ?_; intro v1 w1 hA1 hO1 hg1 hb1 ha1)
    | (at_builtin; refine wpList_append_app _ rfl (.tmp 7) (.tmp 8) 22 rfl w.heap.size 5 i0 _ 1 1 Try.underlying22 hi hz0 hz1 hz2 rfl (by omega) v1 _ _ rfl hA1 _ vb lb.length (bv lb) rfl (Rd.below (Rd.alloc hb (Nat.le_refl _) _) hb1) (bv_one _) (by simp only [maxLen]; omega) (by omega) (Nat.le_trans (by simp) hb1.size) ?_; intro v2 w2 hA2 hO2 hg2 hb2 ha2))
  go_ret
  refine ⟨v2, rfl, ?_, (Below.of_alloc _).trans (hb1.trans hb2)⟩
  have h := hO2 (.inr (hO1 (.inr (own_empty w w.heap.size _ 1 (Nat.le_refl _)))))
  unfold OwnB
  rw [bv_append, List.length_append]
  simpa using h

theorem strB_toList (l : List UInt8) : (strB l).toList = l := by simp [strB]

theorem equal_any (va vb : Value) (la lb : List UInt8) (F G : Nat → Prop) (w : World) (ha : RdB w F va la) (hb : RdB w G vb lb) :
    Calls Try.prog 13 #[va, vb] w fun e w' => e = .returned (.bool (la == lb)) ∧ w = w' := by
  have h1 := run_bytes_str ha
  have h2 := run_bytes_str hb
  go_enter Try.func13, Try.ntmps13
  go_wp2
  go_ret
  exact ⟨by simp [strB_toList], rfl⟩

end Go.Proofs.Ythfclmkeadpcbaa
