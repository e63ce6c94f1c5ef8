/-
  The reference's PutInt; texts; periods.
-/
import Derived.Test.YthfclmkeadpcbaaCodecC
namespace Go.Proofs.Ythfclmkeadpcbaa
open Go.RowKit Go.Lib

theorem neg_word {n : Int} (h : n < 0) : 2 * -(n + 1) + 1 = (zz n : Int) := by rw [zz, if_pos h]; omega
theorem pos_word {n : Int} (h : 0 ≤ n) : 2 * n = (zz n : Int) := by rw [zz, if_neg (by omega)]; omega
theorem ref_byte (u : Nat) : ((u : Int) % 128 + 128) = ((UInt8.ofNat (u % 128 + 128)).toNat : Int) := by
  rw [← byte_of (by omega)]; omega

theorem vl_lt {f u : Nat} (hf : f ≤ 9) (h : u < 2 * 128 ^ f) : u < 18446744073709551616 := by
  have : 128 ^ f ≤ 128 ^ 9 := Nat.pow_le_pow_right (by omega) hf
  omega
theorem own_base {w : World} {b b' : Nat} {e : TypeId} {size n : Nat} {v : Value} {cs : List Value} (h : w.ownsRow b e size v n cs) (hb : b' ≤ b) : w.ownsRow b' e size v n cs := by
  refine ⟨h.1, ?_⟩
  rcases h.2 with h | ⟨g, cap, cur, a1, a2, a3⟩
  · exact .inl h
  · exact .inr ⟨g, cap, cur, a1, by omega, a3⟩
theorem RdB.below' {w w' : World} {v : Value} {l : List UInt8} (h : RdB w (· < w.heap.size) v l) (hb : Below w.heap.size w w') : RdB w' (· < w'.heap.size) v l := Rd.below' h hb

set_option maxRecDepth 100000 in
set_option maxHeartbeats 800000 in
theorem refPutInt_any (v : Value) (l : List UInt8) (n : Int) (w : World) (h1 : -9223372036854775808 ≤ n) (h2 : n ≤ 9223372036854775807)
    (hv : RdB w (· < w.heap.size) v l) (hl : l.length ≤ 140737488355000) :
    Calls Try.prog 15 #[v, .int .i64 n] w (NewB w (l ++ encI n)) := by
  obtain ⟨i0, hi, hz0, hz1, hz2⟩ := info_parts infoB
  by_cases hn : n < 0
  · go_enter Try.func15, Try.ntmps15
    go_wp2
    rw [neg_word hn]
    go_loopw [6, 5] (fun b u wr => PutRel w.heap.size (.slice none 0 0) w [] (encI n) b u wr) (fun _ u _ => (intOf u).toNat)
    case atStart =>
      exact ⟨9, [], zz n, .inl (World.ownsRow_nil w _ _ _), rfl, by have := zz_lt h1 h2; omega, by omega, by simp, rfl, Grew.refl _ _ _⟩
    case round =>
      obtain ⟨f, pre, u', hA, hpre, hu, hf, hpl, rfl, hG⟩ := hrel
      have HP := Lib.hid hpre
      have hu64 := vl_lt hf hu
      have HU := Lib.hid hu
      clear hpre hu
      have q1 : ([] ++ pre).length + 1 ≤ maxLen := by simp only [maxLen, List.nil_append]; omega
      have q2 : (([] ++ pre).length + 1) * 1 ≤ 140737488355328 := by simp only [List.nil_append]; omega
      have q3 := hG.size
      by_cases hc : 128 ≤ u'
      · go_wp2_with (at_builtin; refine wpList_append_app _ rfl _ _ 22 rfl w.heap.size 5 i0 _ 1 1 Try.underlying22 hi hz0 hz1 hz2 rfl (by omega) u6 _ _ rfl (App.alloc hA q3 _) _ _ 1 _ rfl (Rd.new wr _ 5 1 1 rfl (by decide)) (one_one rfl) q1 q2 (by simp; omega) ?_; intro v1 w1 hA1 hO1 hg1 hb1 ha1)
        go_roundw
        case rel => exact PutRel.more hG HP.out HU.out hf hpl hc (ref_byte u') (Nat.le_refl _) hA1 hg1 hb1 ha1
        case measure => simp [intOf]; omega
      · go_wp2_with (at_builtin; refine wpList_append_app _ rfl _ _ 22 rfl w.heap.size 5 i0 _ 1 1 Try.underlying22 hi hz0 hz1 hz2 rfl (by omega) u6 _ _ rfl (App.alloc hA q3 _) _ _ 1 _ rfl (Rd.new wr _ 5 1 1 rfl (by decide)) (one_one rfl) q1 q2 (by simp; omega) ?_; intro v1 w1 hA1 hO1 hg1 hb1 ha1)
        have hM := PutRel.last (l := []) hG HP.out (by omega) (byte_of (by omega)) (Nat.le_refl _) hO1 hg1 hb1 ha1
        obtain ⟨v2, e2, hO, hGr⟩ := hM
        injection e2 with e2
        subst e2
        go_wp2_with fail
        refine (with_any v v1 l (encI n) _ (hv.below' hGr.below) hO.rd (by have := encI_length n; omega)).mono ?_
        rintro e w2 ⟨v2, rfl, hO2, hb2⟩
        go_wp2_with fail
        go_ret
        exact ⟨v2, rfl, own_base hO2 hGr.size, hGr.below.trans (hb2.mono hGr.size)⟩
  · go_enter Try.func15, Try.ntmps15
    go_wp2
    rw [pos_word hn]
    go_loopw [6, 5] (fun b u wr => PutRel w.heap.size (.slice none 0 0) w [] (encI n) b u wr) (fun _ u _ => (intOf u).toNat)
    case atStart =>
      exact ⟨9, [], zz n, .inl (World.ownsRow_nil w _ _ _), rfl, by have := zz_lt h1 h2; omega, by omega, by simp, rfl, Grew.refl _ _ _⟩
    case round =>
      obtain ⟨f, pre, u', hA, hpre, hu, hf, hpl, rfl, hG⟩ := hrel
      have HP := Lib.hid hpre
      have hu64 := vl_lt hf hu
      have HU := Lib.hid hu
      clear hpre hu
      have q1 : ([] ++ pre).length + 1 ≤ maxLen := by simp only [maxLen, List.nil_append]; omega
      have q2 : (([] ++ pre).length + 1) * 1 ≤ 140737488355328 := by simp only [List.nil_append]; omega
      have q3 := hG.size
      by_cases hc : 128 ≤ u'
      · go_wp2_with (at_builtin; refine wpList_append_app _ rfl _ _ 22 rfl w.heap.size 5 i0 _ 1 1 Try.underlying22 hi hz0 hz1 hz2 rfl (by omega) u6 _ _ rfl (App.alloc hA q3 _) _ _ 1 _ rfl (Rd.new wr _ 5 1 1 rfl (by decide)) (one_one rfl) q1 q2 (by simp; omega) ?_; intro v1 w1 hA1 hO1 hg1 hb1 ha1)
        go_roundw
        case rel => exact PutRel.more hG HP.out HU.out hf hpl hc (ref_byte u') (Nat.le_refl _) hA1 hg1 hb1 ha1
        case measure => simp [intOf]; omega
      · go_wp2_with (at_builtin; refine wpList_append_app _ rfl _ _ 22 rfl w.heap.size 5 i0 _ 1 1 Try.underlying22 hi hz0 hz1 hz2 rfl (by omega) u6 _ _ rfl (App.alloc hA q3 _) _ _ 1 _ rfl (Rd.new wr _ 5 1 1 rfl (by decide)) (one_one rfl) q1 q2 (by simp; omega) ?_; intro v1 w1 hA1 hO1 hg1 hb1 ha1)
        have hM := PutRel.last (l := []) hG HP.out (by omega) (byte_of (by omega)) (Nat.le_refl _) hO1 hg1 hb1 ha1
        obtain ⟨v2, e2, hO, hGr⟩ := hM
        injection e2 with e2
        subst e2
        go_wp2_with fail
        refine (with_any v v1 l (encI n) _ (hv.below' hGr.below) hO.rd (by have := encI_length n; omega)).mono ?_
        rintro e w2 ⟨v2, rfl, hO2, hb2⟩
        go_wp2_with fail
        go_ret
        exact ⟨v2, rfl, own_base hO2 hGr.size, hGr.below.trans (hb2.mono hGr.size)⟩
end Go.Proofs.Ythfclmkeadpcbaa
