/-
  Values and rows: their bytes, by the program and by the reference.
-/
import Derived.Test.YthfclmkeadpcbaaCodecM
namespace Go.Proofs.Ythfclmkeadpcbaa
open Go.RowKit Go.Lib

theorem newB_trans {w w1 : World} {l : List UInt8} {e : Ending} {w2 : World} (hb : Below w.heap.size w w1) (h : NewB w1 l e w2) : NewB w l e w2 := by
  obtain ⟨v, rfl, ho, h2⟩ := h
  exact ⟨v, rfl, own_base ho hb.size, hb.trans (h2.mono hb.size)⟩

theorem rdB_lit2 (w : World) (H : Nat) (hH : w.heap.size = H) (m : List UInt8) (n : Nat) (hn : m.length = n) (hm : n ≤ 1000) : RdB (w.alloc (.cells (bv m).toArray 5)) (· < (w.alloc (.cells (bv m).toArray 5)).heap.size) (.slice (some ⟨H, 0, none⟩) n n) m :=
  (rdB_new w H hH m n hn hm).wide fun b hb => by simp; omega
theorem rdB_lit' (w : World) (H : Nat) (hH : w.heap.size = H) (m : List UInt8) (n : Nat) (hn : m.length = n) (hm : n ≤ 1000) : RdB (w.alloc (.cells (bv m).toArray 5)).drew (· < (w.alloc (.cells (bv m).toArray 5)).drew.heap.size) (.slice (some ⟨H, 0, none⟩) n n) m :=
  rdB_lit2 w H hH m n hn hm

set_option maxHeartbeats 800000 in
theorem refPutValue_1 (v : Value) (l : List UInt8) (i : Int) (s : ByteArray) (w : World) (i1 : -9223372036854775808 ≤ i) (i2 : i ≤ 9223372036854775807)
    (hv : RdB w (· < w.heap.size) v l) (hl : l.length + s.size ≤ 140737488354000) :
    Calls Try.prog 36 #[v, .agg #[.int .i64 1, .int .i64 i, .string s]] w (NewB w (l ++ 1 :: encI i)) := by
  have hv' := (hv.below (below1 (.cells #[.int .i64 1, .int .i64 i, .string s] 37))).below (below1 (.cells #[.int .u8 1] 5))
  have HV := Lib.hid hv'
  clear hv' hv
  go_enter Try.func36, Try.ntmps36
  go_wp2_with fail
  go_region_held3 (fun w' => w'.cell? ⟨w.heap.size, 1, none⟩ = some (.int .i64 i))
    (first
      | go_keep
      | (refine (hb2.cell ?_).trans ?_ <;> first | assumption | (have := hb1.size; simp at this ⊢; omega))
      | (refine (hb1.cell ?_).trans ?_ <;> first | assumption | (simp; done) | (simp; omega) | (go_keep; done)))
    (first
      | (go_at_call 44; ((with_reducible refine (with_any v _ l [1] _ ?_ ?_ ?_).mono ?_)); (exact HV.out); (exact rdB_lit' _ (w.heap.size + 1) (by simp) [1] 1 rfl (by omega)); (simp; omega); rintro e w1 ⟨v1, rfl, ho1, hb1⟩)
      | (go_at_call 15; ((with_reducible refine (refPutInt_any v1 (l ++ [1]) i _ i1 i2 ?_ ?_).mono ?_)); (exact ho1.rd); (simp; omega); rintro e w2 ⟨v2, rfl, ho2, hb2⟩))
  go_wp2
  go_ret
  have hB1 : Below w.heap.size w w1 := (below2 (.cells #[.int .i64 1, .int .i64 i, .string s] 37) (.cells #[.int .u8 1] 5)).drew.trans (hb1.mono (by simp; omega))
  refine ⟨v2, rfl, ?_, hB1.trans (hb2.mono hB1.size)⟩
  have := own_base ho2 hB1.size
  simpa [OwnB] using this

set_option maxHeartbeats 800000 in
theorem refPutValue_2 (v : Value) (l : List UInt8) (i : Int) (s : ByteArray) (w : World) (_i1 : -9223372036854775808 ≤ i) (_i2 : i ≤ 9223372036854775807)
    (hv : RdB w (· < w.heap.size) v l) (hl : l.length + s.size ≤ 140737488354000) :
    Calls Try.prog 36 #[v, .agg #[.int .i64 2, .int .i64 i, .string s]] w (NewB w (l ++ 2 :: (encI s.size ++ s.data.toList))) := by
  have hv' := (hv.below (below1 (.cells #[.int .i64 2, .int .i64 i, .string s] 37))).below (below1 (.cells #[.int .u8 2] 5))
  have HV := Lib.hid hv'
  clear hv' hv
  go_enter Try.func36, Try.ntmps36
  go_wp2_with fail
  go_region_held3 (fun w' => w'.cell? ⟨w.heap.size, 2, none⟩ = some (.string s))
    (first
      | go_keep
      | (refine (hb2.cell ?_).trans ?_ <;> first | assumption | (have := hb1.size; simp at this ⊢; omega))
      | (refine (hb1.cell ?_).trans ?_ <;> first | assumption | (simp; done) | (simp; omega) | (go_keep; done)))
    (first
      | (go_at_call 44; ((with_reducible refine (with_any v _ l [2] _ ?_ ?_ ?_).mono ?_)); (exact HV.out); (exact rdB_lit' _ (w.heap.size + 1) (by simp) [2] 1 rfl (by omega)); (simp; omega); rintro e w1 ⟨v1, rfl, ho1, hb1⟩)
      | (go_at_call 30; ((with_reducible refine (refPutText_any v1 (l ++ [2]) s _ ?_ ?_).mono ?_)); (exact ho1.rd); (simp; omega); rintro e w2 ⟨v2, rfl, ho2, hb2⟩))
  go_wp2
  go_ret
  have hB1 : Below w.heap.size w w1 := (below2 (.cells #[.int .i64 2, .int .i64 i, .string s] 37) (.cells #[.int .u8 2] 5)).drew.trans (hb1.mono (by simp; omega))
  refine ⟨v2, rfl, ?_, hB1.trans (hb2.mono hB1.size)⟩
  have := own_base ho2 hB1.size
  simpa [OwnB] using this

set_option maxHeartbeats 800000 in
theorem refPutValue_3 (v : Value) (l : List UInt8) (i : Int) (s : ByteArray) (w : World) (hi : i = 0 ∨ i = 1)
    (hv : RdB w (· < w.heap.size) v l) (hl : l.length ≤ 140737488354000) :
    Calls Try.prog 36 #[v, .agg #[.int .i64 3, .int .i64 i, .string s]] w (NewB w (l ++ [UInt8.ofNat (3 + i % 2).toNat])) := by
  rcases hi with rfl | rfl
  · go_enter Try.func36, Try.ntmps36
    go_wp2_with fail
    (with_reducible refine (with_any v _ l [3] _ ?_ ?_ ?_).mono ?_)
    · exact hv.below (below2 _ _)
    · exact (rdB_new _ (w.heap.size + 1) (by simp) [3] 1 rfl (by omega)).wide fun b hb => by simp; omega
    · simp; omega
    intro e w1 h1
    obtain ⟨v1, rfl, ho1, hb1⟩ := newB_trans (below2 _ _) h1
    go_wp2_with fail
    go_ret
    exact ⟨v1, rfl, ho1, hb1⟩
  · go_enter Try.func36, Try.ntmps36
    go_wp2_with fail
    (with_reducible refine (with_any v _ l [4] _ ?_ ?_ ?_).mono ?_)
    · exact hv.below (below2 _ _)
    · exact (rdB_new _ (w.heap.size + 1) (by simp) [4] 1 rfl (by omega)).wide fun b hb => by simp; omega
    · simp; omega
    intro e w1 h1
    obtain ⟨v1, rfl, ho1, hb1⟩ := newB_trans (below2 _ _) h1
    go_wp2_with fail
    go_ret
    exact ⟨v1, rfl, ho1, hb1⟩

set_option maxHeartbeats 800000 in
theorem refPutValue_0 (v : Value) (l : List UInt8) (k i : Int) (s : ByteArray) (w : World) (k1 : k ≠ 1) (k2 : k ≠ 2) (k3 : k ≠ 3)
    (hv : RdB w (· < w.heap.size) v l) (hl : l.length ≤ 140737488354000) :
    Calls Try.prog 36 #[v, .agg #[.int .i64 k, .int .i64 i, .string s]] w (NewB w (l ++ [0])) := by
  have b1 : (k == 1) = false := by simpa using k1
  have b2 : (k == 2) = false := by simpa using k2
  have b3 : (k == 3) = false := by simpa using k3
  clear k1 k2 k3
  go_enter Try.func36, Try.ntmps36
  go_wp2_with fail
  (with_reducible refine (with_any v _ l [0] _ ?_ ?_ ?_).mono ?_)
  · exact hv.below (below2 _ _)
  · exact (rdB_new _ (w.heap.size + 1) (by simp) [0] 1 rfl (by omega)).wide fun b hb => by simp; omega
  · simp; omega
  intro e w1 h1
  obtain ⟨v1, rfl, ho1, hb1⟩ := newB_trans (below2 _ _) h1
  go_wp2_with fail
  go_ret
  exact ⟨v1, rfl, ho1, hb1⟩

theorem refPutValue_any (v : Value) (l : List UInt8) (x : Val) (w : World) (i1 : -9223372036854775808 ≤ x.int) (i2 : x.int ≤ 9223372036854775807) (hx : x.kind = 3 → x.int = 0 ∨ x.int = 1)
    (hv : RdB w (· < w.heap.size) v l) (hl : l.length + x.text.size ≤ 140737488354000) :
    Calls Try.prog 36 #[v, .agg #[.int .i64 x.kind, .int .i64 x.int, .string x.text]] w (NewB w (l ++ encV x)) := by
  obtain ⟨k, i, s⟩ := x
  simp only at i1 i2 hl hx
  unfold encV
  by_cases k1 : k = 1
  · subst k1; simp only [if_true]; exact refPutValue_1 v l i s w i1 i2 hv hl
  · by_cases k2 : k = 2
    · subst k2; simp only [if_neg k1, if_true]; exact refPutValue_2 v l i s w i1 i2 hv hl
    · by_cases k3 : k = 3
      · subst k3; simp only [if_neg k1, if_neg k2, if_true]; exact refPutValue_3 v l i s w (hx rfl) hv (by omega)
      · simp only [if_neg k1, if_neg k2, if_neg k3]; exact refPutValue_0 v l k i s w k1 k2 k3 hv (by omega)

end Go.Proofs.Ythfclmkeadpcbaa
