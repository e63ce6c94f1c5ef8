/-
  Texts and periods.
-/
import Derived.Test.YthfclmkeadpcbaaCodecD
namespace Go.Proofs.Ythfclmkeadpcbaa
open Go.RowKit Go.Lib

theorem str_len (s : ByteArray) : s.data.toList.length = s.size := by rw [Array.length_toList]; rfl
theorem strCells_bv (s : ByteArray) : strCells s = bv s.data.toList := rfl

set_option maxHeartbeats 400000 in
theorem putText_any (v : Value) (l : List UInt8) (s : ByteArray) (w : World) (hv : RdB w (· < w.heap.size) v l) (hl : l.length + s.size ≤ 140737488355000) :
    Calls Try.prog 24 #[v, .string s] w (NewB w (l ++ (encI s.size ++ s.data.toList))) := by
  obtain ⟨i0, hi, hz0, hz1, hz2⟩ := info_parts infoB
  obtain ⟨A, c, rfl, hc1, hc2, hA⟩ := hv.view
  go_enter Try.func24, Try.ntmps24
  go_wp2_with fail
  refine (grow_any A _ c _ hc1).mono ?_
  rintro e w' ⟨rfl, rfl⟩
  go_wp2_with fail
  refine (put_any w.heap.size _ l s.size _ (by omega) (by omega) hA (Nat.le_refl _) (by omega)).mono ?_
  rintro e w' ⟨v1, rfl, ho, hg⟩
  have hlen := encI_length s.size
  go_wp2_with (at_builtin; refine wpList_append_own_string _ rfl _ _ 22 9 rfl w.heap.size 5 i0 Try.underlying22 Try.underlying9 hi hz0 hz1 hz2 v1 _ _ rfl ho s rfl (by simp only [maxLen, List.length_append]; omega) (by simp only [List.length_append]; omega) hg.size ?_; intro v2 w2 ho2 hg2 _)
  go_ret
  refine ⟨v2, rfl, ?_, hg.below.grown hg2 hg.size fun k hk => (ho.lt k hk).1⟩
  unfold OwnB
  rw [← List.append_assoc, bv_append, List.length_append, str_len]
  exact ho2

set_option maxHeartbeats 400000 in
theorem refPutText_any (v : Value) (l : List UInt8) (s : ByteArray) (w : World) (hv : RdB w (· < w.heap.size) v l) (hl : l.length + s.size ≤ 140737488355000) :
    Calls Try.prog 30 #[v, .string s] w (NewB w (l ++ (encI s.size ++ s.data.toList))) := by
  go_enter Try.func30, Try.ntmps30
  go_wp2_with fail
  refine (refPutInt_any v l s.size _ (by omega) (by omega) hv (by omega)).mono ?_
  rintro e w1 ⟨v1, rfl, ho1, hb1⟩
  have hlen := encI_length s.size
  obtain ⟨x, W1, hcv, hx, hbw⟩ := conv_sb w1 s (by omega)
  go_wp2_with fail
  refine (with_any v1 x _ s.data.toList _ (RdB.below' ho1.rd hbw) hx (by rw [str_len, List.length_append]; omega)).mono ?_
  rintro e w2 ⟨v2, rfl, ho2, hb2⟩
  clear hcv
  go_wp2_with fail
  go_ret
  exact ⟨v2, rfl, by rw [← List.append_assoc]; exact own_base ho2 (Nat.le_trans hb1.size hbw.size), hb1.trans ((hbw.trans (hb2.mono hbw.size)).mono hb1.size)⟩

def Text3 (r : List UInt8 × Int × Int) (w0 : World) (e : Ending) (w : World) : Prop := e = .returned (.tuple #[.string (strB r.1), .int .i64 r.2.1, .int .i64 r.2.2]) ∧ w0 = w

set_option maxHeartbeats 400000 in
theorem text_any (F : Nat → Prop) (v : Value) (l : List UInt8) (k most : Int) (w : World) (hv : RdB w F v l) :
    Calls Try.prog 28 #[v, .int .i64 k, .int .i64 most] w (Text3 (decT l k most) w) := by
  obtain ⟨i0, hi, hz0, hz1, hz2⟩ := info_parts infoB
  have hC := int_any F v l k w hv
  have hb := decI_bd l k
  unfold decT
  generalize decI l k = r at *
  obtain ⟨n, m, e⟩ := r
  simp only at hb ⊢
  have HC := Lib.hid hC
  clear hC
  by_cases he : e = 0
  · subst he
    obtain ⟨k', rfl⟩ := Int.eq_ofNat_of_zero_le (show 0 ≤ m by omega)
    have hk : k' ≤ l.length := by omega
    have hn := hb.2.1
    clear hb
    obtain ⟨A, c, rfl, hc1, hc2, hc3⟩ := hv.open_
    unfold maxLen at hc2
    simp only [ne_eq, not_true_eq_false, if_false]
    by_cases h1 : n < 0
    · rw [if_pos h1]
      go_enter Try.func28, Try.ntmps28
      go_wp2_with fail
      refine HC.out.mono ?_
      rintro _ _ ⟨rfl, rfl⟩
      go_wp2_with fail
      all_goals go_ret3
      all_goals exact ⟨rfl, rfl⟩
    · rw [if_neg h1]
      by_cases h2 : max most 0 < n
      · rw [if_pos h2]
        go_enter Try.func28, Try.ntmps28
        go_wp2_with fail
        refine HC.out.mono ?_
        rintro _ _ ⟨rfl, rfl⟩
        go_wp2_with fail
        all_goals go_ret3
        all_goals exact ⟨rfl, rfl⟩
      · rw [if_neg h2]
        obtain ⟨n', rfl⟩ := Int.eq_ofNat_of_zero_le (show 0 ≤ n by omega)
        by_cases h3 : (l.length : Int) - k' < n'
        · rw [if_pos h3]
          go_enter Try.func28, Try.ntmps28
          go_wp2_with fail
          refine HC.out.mono ?_
          rintro _ _ ⟨rfl, rfl⟩
          go_wp2_with fail
          all_goals go_ret3
          all_goals exact ⟨rfl, rfl⟩
        · rw [if_neg h3]
          have hR := Rd.cut' hv (l := k') (h := k' + n') (m := c) (by omega) (by omega) (by omega) (Nat.le_refl c)
          have hsl : ∀ W : World, (Instr.slice 22 (.slice A l.length c) (some (.int .i64 (k' : Int))) (some (.int .i64 ((k' : Int) + (n' : Int)))) none).run Try.prog W = .ok (.slice (cutA A c k' 1) n' (c - k')) W := fun W => by
            have := run_slice_lohi (P := Try.prog) Try.underlying22 hi hz1 A l.length c k' (k' + n') (by omega) (by omega) W
            rwa [Int.natCast_add, Nat.add_sub_cancel_left] at this
          have hst := run_bytes_str (w := w) (F := F) (v := .slice (cutA A c k' 1) n' (c - k')) (l := (l.drop k').take n') (by
            rw [Nat.add_sub_cancel_left, Nat.mul_one, Nat.mul_one] at hR
            have e1 : ((l.drop k').take n').length = n' := by rw [List.length_take, List.length_drop]; omega
            unfold RdB
            rw [e1]
            simpa [bv, List.map_drop, List.map_take] using hR)
          generalize cutA A c k' 1 = X at *
          go_enter Try.func28, Try.ntmps28
          go_wp2_with fail
          refine HC.out.mono ?_
          rintro _ _ ⟨rfl, rfl⟩
          go_wp2_with fail
          all_goals go_ret3
          all_goals exact ⟨rfl, rfl⟩
  · rw [if_pos he]
    have b1 : (e != 0) = true := by rw [bne_iff_ne]; exact he
    clear hb
    have HE := Lib.hid he
    clear he
    go_enter Try.func28, Try.ntmps28
    go_wp2_with fail
    refine HC.out.mono ?_
    rintro _ _ ⟨rfl, rfl⟩
    go_wp2_with fail
    all_goals go_ret3
    all_goals exact ⟨rfl, rfl⟩

set_option maxHeartbeats 400000 in
theorem refText_any (F : Nat → Prop) (v : Value) (l : List UInt8) (k most : Int) (w : World) (hv : RdB w F v l) :
    Calls Try.prog 29 #[v, .int .i64 k, .int .i64 most] w (Text3 (decT l k most) w) := by
  obtain ⟨i0, hi, hz0, hz1, hz2⟩ := info_parts infoB
  have hC := refInt_any F v l k w hv
  have hb := decI_bd l k
  unfold decT
  generalize decI l k = r at *
  obtain ⟨n, m, e⟩ := r
  simp only at hb ⊢
  have HC := Lib.hid hC
  clear hC
  by_cases he : e = 0
  · subst he
    obtain ⟨k', rfl⟩ := Int.eq_ofNat_of_zero_le (show 0 ≤ m by omega)
    have hk : k' ≤ l.length := by omega
    have hn := hb.2.1
    clear hb
    obtain ⟨A, c, rfl, hc1, hc2, hc3⟩ := hv.open_
    unfold maxLen at hc2
    simp only [ne_eq, not_true_eq_false, if_false]
    by_cases h1 : n < 0
    · rw [if_pos h1]
      go_enter Try.func29, Try.ntmps29
      go_wp2_with fail
      refine HC.out.mono ?_
      rintro _ _ ⟨rfl, rfl⟩
      go_wp2_with fail
      all_goals go_ret3
      all_goals exact ⟨rfl, rfl⟩
    · rw [if_neg h1]
      by_cases h2 : max most 0 < n
      · rw [if_pos h2]
        go_enter Try.func29, Try.ntmps29
        go_wp2_with fail
        refine HC.out.mono ?_
        rintro _ _ ⟨rfl, rfl⟩
        go_wp2_with fail
        all_goals go_ret3
        all_goals exact ⟨rfl, rfl⟩
      · rw [if_neg h2]
        obtain ⟨n', rfl⟩ := Int.eq_ofNat_of_zero_le (show 0 ≤ n by omega)
        by_cases h3 : (l.length : Int) - k' < n'
        · rw [if_pos h3]
          go_enter Try.func29, Try.ntmps29
          go_wp2_with fail
          refine HC.out.mono ?_
          rintro _ _ ⟨rfl, rfl⟩
          go_wp2_with fail
          all_goals go_ret3
          all_goals exact ⟨rfl, rfl⟩
        · rw [if_neg h3]
          have hR := Rd.cut' hv (l := k') (h := k' + n') (m := c) (by omega) (by omega) (by omega) (Nat.le_refl c)
          have hsl : ∀ W : World, (Instr.slice 22 (.slice A l.length c) (some (.int .i64 (k' : Int))) (some (.int .i64 ((k' : Int) + (n' : Int)))) none).run Try.prog W = .ok (.slice (cutA A c k' 1) n' (c - k')) W := fun W => by
            have := run_slice_lohi (P := Try.prog) Try.underlying22 hi hz1 A l.length c k' (k' + n') (by omega) (by omega) W
            rwa [Int.natCast_add, Nat.add_sub_cancel_left] at this
          have hst := run_bytes_str (w := w) (F := F) (v := .slice (cutA A c k' 1) n' (c - k')) (l := (l.drop k').take n') (by
            rw [Nat.add_sub_cancel_left, Nat.mul_one, Nat.mul_one] at hR
            have e1 : ((l.drop k').take n').length = n' := by rw [List.length_take, List.length_drop]; omega
            unfold RdB
            rw [e1]
            simpa [bv, List.map_drop, List.map_take] using hR)
          generalize cutA A c k' 1 = X at *
          go_enter Try.func29, Try.ntmps29
          go_wp2_with fail
          refine HC.out.mono ?_
          rintro _ _ ⟨rfl, rfl⟩
          go_wp2_with fail
          all_goals go_ret3
          all_goals exact ⟨rfl, rfl⟩
  · rw [if_pos he]
    have b1 : (e != 0) = true := by rw [bne_iff_ne]; exact he
    clear hb
    have HE := Lib.hid he
    clear he
    go_enter Try.func29, Try.ntmps29
    go_wp2_with fail
    refine HC.out.mono ?_
    rintro _ _ ⟨rfl, rfl⟩
    go_wp2_with fail
    all_goals go_ret3
    all_goals exact ⟨rfl, rfl⟩

end Go.Proofs.Ythfclmkeadpcbaa
