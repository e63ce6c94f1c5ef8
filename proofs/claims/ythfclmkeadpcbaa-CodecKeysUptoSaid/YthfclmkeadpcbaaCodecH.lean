/-
  Values: their bytes.
-/
import Derived.Test.YthfclmkeadpcbaaCodecG
import Derived.Test.YthfclmkeadpcbaaBytes2
namespace Go.Proofs.Ythfclmkeadpcbaa
open Go.RowKit Go.Lib

theorem and1_i64 (i : Int) : bits .and .i64 i 1 = i % 2 := by
  show IntKind.i64.wrap ((BitVec.ofInt 64 i &&& BitVec.ofInt 64 1).toNat : Int) = _
  rw [BitVec.toNat_and, BitVec.toNat_ofInt]
  have e : (BitVec.ofInt 64 1).toNat = 1 := by decide
  rw [e, Nat.and_one_is_mod, wrap_i64]
  omega
theorem and_byte (i : Int) : wrap64 (3 + bits .and .i64 i 1) % 256 = ((UInt8.ofNat (3 + i % 2).toNat).toNat : Int) := by
  rw [and1_i64, wrap64_id (by omega) (by omega), ← byte_of (by omega)]
  omega
theorem newB_one {w w1 : World} {v1 : Value} {l : List UInt8} {x : UInt8} {y : Int} {o o' : Obj} {p : Prop} (hy : y = (x.toNat : Int)) (hO : 0 < 1 ∨ p → w1.ownsRow (w.heap.size + 1) 5 1 v1 (l.length + 1) (bv l ++ [.int .u8 y]))
    (hb : Below (w.heap.size + 1) ((w.alloc o).alloc o') w1) : NewB w (l ++ [x]) (.returned v1) w1 := by
  subst hy
  refine ⟨v1, rfl, ?_, (Below.of_alloc o).trans ((((Below.refl _ _).alloc (by simp) _).trans hb).mono (Nat.le_succ _))⟩
  exact ownB_of (l := l) (m := [x]) (own_base (hO (.inl (by omega))) (Nat.le_succ _))

def encV (x : Val) : List UInt8 :=
  if x.kind = 1 then 1 :: encI x.int
  else if x.kind = 2 then 2 :: (encI x.text.size ++ x.text.data.toList)
  else if x.kind = 3 then [UInt8.ofNat (3 + x.int % 2).toNat]
  else [0]

set_option maxHeartbeats 800000 in
theorem putValue_int (v : Value) (l : List UInt8) (i : Int) (s : ByteArray) (w : World) (i1 : -9223372036854775808 ≤ i) (i2 : i ≤ 9223372036854775807)
    (hv : RdB w (· < w.heap.size) v l) (hl : l.length ≤ 140737488354000) :
    Calls Try.prog 25 #[v, .agg #[.int .i64 1, .int .i64 i, .string s]] w (NewB w (l ++ 1 :: encI i)) := by
  obtain ⟨i0, hi, hz0, hz1, hz2⟩ := info_parts infoB
  obtain ⟨A, c, rfl, hc1, hc2, hA⟩ := hv.view
  have hA' := hA.box (.cells #[.int .i64 1, .int .i64 i, .string s] 37)
  have HA := Lib.hid hA'
  clear hA' hA
  go_enter Try.func25, Try.ntmps25
  go_wp2_with (go_at_call 43; ((with_reducible refine (grow_any A _ c _ hc1).mono ?_)); rintro e w' ⟨rfl, rfl⟩)
  go_region_held3 (fun w' => w'.cell? ⟨w.heap.size, 1, none⟩ = some (.int .i64 i))
    (first | go_keep | (refine (hg2.below.cell ?_).trans ?_ <;> first | assumption | (simp; done)) | (refine (hb1.cell ?_).trans ?_ <;> first | (simp; done) | (go_keep; done) | assumption))
    (first
      | (refine step_append_app _ (by rfl) (.tmp 11) (.tmp 12) 22 (by rfl) (w.heap.size + 1) 5 i0 _ 1 1 Try.underlying22 hi hz0 hz1 hz2 rfl (by omega) (.slice A l.length l.length) l.length (bv l) (by rfl) (by exact (App.alloc HA.out (by simp) _).drew) (· = w.heap.size + 1) _ 1 [.int .u8 1] (by rfl) (by exact (Rd.new' _ (w.heap.size + 1) (by simp) [.int .u8 1] 5 1 1 rfl (by decide)).drew) (one_one rfl) (by simp only [maxLen]; omega) (by omega) (by simp) ?_; intro v1 w1 hA1 hO1 hg1 hb1 ha1)
      | (go_at_call 42; ((with_reducible refine (put_any (w.heap.size + 1) v1 (l ++ [1]) i _ i1 i2 ?_ ?_ ?_).mono ?_)); (exact appB_of (m := [1]) hA1); (have := hb1.size; simp at this; omega); (simp; omega); rintro e w2 ⟨v2, rfl, ho2, hg2⟩))
  go_wp2
  go_ret
  refine ⟨v2, rfl, ?_, (Below.of_alloc (w := w) (.cells #[.int .i64 1, .int .i64 i, .string s] 37)).trans (((((Below.refl _ _).alloc (by simp) _).drew.trans hb1).trans hg2.below).mono (Nat.le_succ _))⟩
  have := own_base ho2 (Nat.le_succ _)
  simpa [OwnB] using this

set_option maxHeartbeats 800000 in
theorem putValue_text (v : Value) (l : List UInt8) (i : Int) (s : ByteArray) (w : World)
    (hv : RdB w (· < w.heap.size) v l) (hl : l.length + s.size ≤ 140737488354000) :
    Calls Try.prog 25 #[v, .agg #[.int .i64 2, .int .i64 i, .string s]] w (NewB w (l ++ 2 :: (encI s.size ++ s.data.toList))) := by
  obtain ⟨i0, hi, hz0, hz1, hz2⟩ := info_parts infoB
  obtain ⟨A, c, rfl, hc1, hc2, hA⟩ := hv.view
  have hA' := hA.box (.cells #[.int .i64 2, .int .i64 i, .string s] 37)
  have HA := Lib.hid hA'
  clear hA' hA
  have hlen := encI_length s.size
  go_enter Try.func25, Try.ntmps25
  go_wp2_with (go_at_call 43; ((with_reducible refine (grow_any A _ c _ hc1).mono ?_)); rintro e w' ⟨rfl, rfl⟩)
  go_region_held3 (fun w' => w'.cell? ⟨w.heap.size, 2, none⟩ = some (.string s))
    (first | go_keep | (refine (grown_cell hg3 ?_ ?_).trans ?_ <;> first | assumption | (have := hg2.size; have := hb1.size; simp at *; omega) | (exact own_ne ho2 (by simp))) | (refine (hg2.below.cell ?_).trans ?_ <;> first | assumption | (simp; done)) | (refine (hb1.cell ?_).trans ?_ <;> first | (simp; done) | (go_keep; done) | assumption))
    (first
      | (refine step_append_app _ (by rfl) (.tmp 19) (.tmp 20) 22 (by rfl) (w.heap.size + 1) 5 i0 _ 1 1 Try.underlying22 hi hz0 hz1 hz2 rfl (by omega) (.slice A l.length l.length) l.length (bv l) (by rfl) (by exact (App.alloc HA.out (by simp) _).drew) (· = w.heap.size + 1) _ 1 [.int .u8 2] (by rfl) (by exact (Rd.new' _ (w.heap.size + 1) (by simp) [.int .u8 2] 5 1 1 rfl (by decide)).drew) (one_one rfl) (by simp only [maxLen]; omega) (by omega) (by simp) ?_; intro v1 w1 hA1 hO1 hg1 hb1 ha1)
      | (go_at_call 42; ((with_reducible refine (put_any (w.heap.size + 1) v1 (l ++ [2]) s.size _ ?_ ?_ ?_ ?_ ?_).mono ?_)); omega; omega; (exact appB_of (m := [2]) hA1); (have := hb1.size; simp at this; omega); (simp; omega); rintro e w2 ⟨v2, rfl, ho2, hg2⟩)
      | (refine step_append_str _ (by rfl) (.tmp 25) (.tmp 27) 22 9 (by rfl) (w.heap.size + 1) 5 i0 Try.underlying22 Try.underlying9 hi hz0 hz1 hz2 v2 _ _ (by rfl) ho2 s (by rfl) (by simp only [maxLen, List.length_append, List.length_cons, List.length_nil]; omega) (by simp only [List.length_append, List.length_cons, List.length_nil]; omega) (by have := hg2.size; have := hb1.size; simp at *; omega) ?_; intro v3 w3 ho3 hg3))
  go_wp2
  go_ret
  have hs1 : w.heap.size + 1 ≤ w2.heap.size := by have := hg2.size; have := hb1.size; simp at *; omega
  refine ⟨v3, rfl, ?_, (Below.of_alloc (w := w) (.cells #[.int .i64 2, .int .i64 i, .string s] 37)).trans ((((((Below.refl _ _).alloc (by simp) _).drew.trans hb1).trans hg2.below).grown hg3 hs1 fun k hk => (ho2.lt k hk).1).mono (Nat.le_succ _))⟩
  have h4 := ownB_of (l := (l ++ [2]) ++ encI s.size) (m := s.data.toList) (by rw [str_len]; exact own_base ho3 (Nat.le_succ w.heap.size))
  simpa [OwnB] using h4

set_option maxHeartbeats 800000 in
theorem putValue_bool (v : Value) (l : List UInt8) (i : Int) (s : ByteArray) (w : World)
    (hv : RdB w (· < w.heap.size) v l) (hl : l.length ≤ 140737488354000) :
    Calls Try.prog 25 #[v, .agg #[.int .i64 3, .int .i64 i, .string s]] w (NewB w (l ++ [UInt8.ofNat (3 + i % 2).toNat])) := by
  obtain ⟨i0, hi, hz0, hz1, hz2⟩ := info_parts infoB
  obtain ⟨A, c, rfl, hc1, hc2, hA⟩ := hv.view
  have hA' := hA.box (.cells #[.int .i64 3, .int .i64 i, .string s] 37)
  have HA := Lib.hid hA'
  clear hA' hA
  go_enter Try.func25, Try.ntmps25
  go_wp2_with (first
    | (go_at_call 43; ((with_reducible refine (grow_any A _ c _ hc1).mono ?_)); rintro e w' ⟨rfl, rfl⟩)
    | (at_builtin; refine wpList_append_app _ rfl _ _ 22 rfl (w.heap.size + 1) 5 i0 _ 1 1 Try.underlying22 hi hz0 hz1 hz2 rfl (by omega) (.slice A l.length l.length) l.length (bv l) rfl (by exact (App.alloc HA.out (by simp) _)) (· = w.heap.size + 1) _ 1 _ rfl (by exact (Rd.new' _ (w.heap.size + 1) (by simp) _ 5 1 1 rfl (by decide))) (one_one rfl) (by simp only [maxLen]; omega) (by omega) (by simp) ?_; intro v1 w1 hA1 hO1 hg1 hb1 ha1))
  go_ret
  exact newB_one (and_byte i) hO1 hb1

set_option maxHeartbeats 800000 in
theorem putValue_else (v : Value) (l : List UInt8) (k i : Int) (s : ByteArray) (w : World) (k1 : k ≠ 1) (k2 : k ≠ 2) (k3 : k ≠ 3)
    (hv : RdB w (· < w.heap.size) v l) (hl : l.length ≤ 140737488354000) :
    Calls Try.prog 25 #[v, .agg #[.int .i64 k, .int .i64 i, .string s]] w (NewB w (l ++ [0])) := by
  obtain ⟨i0, hi, hz0, hz1, hz2⟩ := info_parts infoB
  obtain ⟨A, c, rfl, hc1, hc2, hA⟩ := hv.view
  have hA' := hA.box (.cells #[.int .i64 k, .int .i64 i, .string s] 37)
  have HA := Lib.hid hA'
  clear hA' hA
  have b1 : (k == 1) = false := by simpa using k1
  have b2 : (k == 2) = false := by simpa using k2
  have b3 : (k == 3) = false := by simpa using k3
  clear k1 k2 k3
  go_enter Try.func25, Try.ntmps25
  go_wp2_with (first
    | (go_at_call 43; ((with_reducible refine (grow_any A _ c _ hc1).mono ?_)); rintro e w' ⟨rfl, rfl⟩)
    | (at_builtin; refine wpList_append_app _ rfl _ _ 22 rfl (w.heap.size + 1) 5 i0 _ 1 1 Try.underlying22 hi hz0 hz1 hz2 rfl (by omega) (.slice A l.length l.length) l.length (bv l) rfl (by exact (App.alloc HA.out (by simp) _)) (· = w.heap.size + 1) _ 1 _ rfl (by exact (Rd.new' _ (w.heap.size + 1) (by simp) _ 5 1 1 rfl (by decide))) (one_one rfl) (by simp only [maxLen]; omega) (by omega) (by simp) ?_; intro v1 w1 hA1 hO1 hg1 hb1 ha1))
  go_ret
  exact newB_one (x := 0) rfl hO1 hb1

theorem putValue_any (v : Value) (l : List UInt8) (x : Val) (w : World) (i1 : -9223372036854775808 ≤ x.int) (i2 : x.int ≤ 9223372036854775807)
    (hv : RdB w (· < w.heap.size) v l) (hl : l.length + x.text.size ≤ 140737488354000) :
    Calls Try.prog 25 #[v, .agg #[.int .i64 x.kind, .int .i64 x.int, .string x.text]] w (NewB w (l ++ encV x)) := by
  obtain ⟨k, i, s⟩ := x
  simp only at i1 i2 hl
  unfold encV
  by_cases k1 : k = 1
  · subst k1; simp only [if_true]; exact putValue_int v l i s w i1 i2 hv (by omega)
  · by_cases k2 : k = 2
    · subst k2; simp only [if_neg k1, if_true]; exact putValue_text v l i s w hv (by omega)
    · by_cases k3 : k = 3
      · subst k3; simp only [if_neg k1, if_neg k2, if_true]; exact putValue_bool v l i s w hv (by omega)
      · simp only [if_neg k1, if_neg k2, if_neg k3]; exact putValue_else v l k i s w k1 k2 k3 hv (by omega)
end Go.Proofs.Ythfclmkeadpcbaa
