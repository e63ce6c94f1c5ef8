/-
  The codec's integers: what codec.put, codec.PutInt, codec.Int and the reference's do.
-/
import Derived.Test.YthfclmkeadpcbaaBytes
namespace Go.Proofs.Ythfclmkeadpcbaa
open Go.RowKit

/-- the relation of the loops that put an integer -/
def PutRel (base : Nat) (v0 : Value) (w0 : World) (l all : List UInt8) (b u : Value) (w : World) : Prop :=
  ∃ (f : Nat) (pre : List UInt8) (u' : Nat), AppB w base b (l ++ pre) ∧ pre ++ vl f u' = all ∧ u' < 2 * 128 ^ f ∧ f ≤ 9 ∧ pre.length + f ≤ 9 ∧ u = .int .u64 u' ∧ Grew base v0 w0 b w

theorem PutRel.more {base : Nat} {v0 v v1 : Value} {w0 w w1 : World} {l all pre : List UInt8} {f u' : Nat} {x : Int} {o : Obj} (hG : Grew base v0 w0 v w) (HP : pre ++ vl f u' = all) (HU : u' < 2 * 128 ^ f) (hf : f ≤ 9) (hpl : pre.length + f ≤ 9) (hc : 128 ≤ u')
    (hx : x = ((UInt8.ofNat (u' % 128 + 128)).toNat : Int)) (hb : base ≤ w0.heap.size)
    (hA1 : App w1 base 5 1 v1 ((l ++ pre).length + 1) (bv (l ++ pre) ++ [.int .u8 x]))
    (hg1 : (w.alloc o).grownBy w1 v.ownBlock) (hb1 : Below base (w.alloc o) w1) (ha1 : v1.ownBlock = v.ownBlock ∨ v1.ownBlock = some (w.alloc o).heap.size) :
    PutRel base v0 w0 l all v1 (.int .u64 ((u' : Int) / 128)) w1 := by
  subst hx
  obtain ⟨g, rfl⟩ : ∃ g, f = g + 1 := ⟨f - 1, by
    rcases Nat.eq_zero_or_pos f with h | h
    · subst h; simp at HU; omega
    · omega⟩
  rw [vl_big _ hc] at HP
  refine ⟨g, pre ++ [UInt8.ofNat (u' % 128 + 128)], u' / 128, ?_, by simpa using HP, ?_, by omega, by simp; omega, by simp, ?_⟩
  · have e : bv (l ++ (pre ++ [UInt8.ofNat (u' % 128 + 128)])) = bv (l ++ pre) ++ [.int .u8 ((UInt8.ofNat (u' % 128 + 128)).toNat : Int)] := by
      rw [← List.append_assoc, bv_append]; rfl
    have e2 : (l ++ (pre ++ [UInt8.ofNat (u' % 128 + 128)])).length = (l ++ pre).length + 1 := by simp; omega
    unfold AppB
    rw [e, e2]
    exact hA1
  · rw [Nat.pow_succ] at HU
    omega
  · exact (hG.alloc hb o).trans (Grew.step hg1 hb1 ha1)
theorem PutRel.last {base : Nat} {v0 v v1 : Value} {w0 w w1 : World} {l all pre : List UInt8} {f u' : Nat} {x : Int} {o : Obj} (hG : Grew base v0 w0 v w) (HP : pre ++ vl f u' = all) (hc : u' < 128)
    (hx : x = ((UInt8.ofNat u').toNat : Int)) (hb : base ≤ w0.heap.size)
    {p : Prop} (hO1 : 0 < 1 ∨ p → w1.ownsRow base 5 1 v1 ((l ++ pre).length + 1) (bv (l ++ pre) ++ [.int .u8 x]))
    (hg1 : (w.alloc o).grownBy w1 v.ownBlock) (hb1 : Below base (w.alloc o) w1) (ha1 : v1.ownBlock = v.ownBlock ∨ v1.ownBlock = some (w.alloc o).heap.size) :
    MadeB base v0 w0 (l ++ all) (.returned v1) w1 := by
  subst hx
  rw [vl_small _ hc] at HP
  subst HP
  refine ⟨v1, rfl, ?_, (hG.alloc hb o).trans (Grew.step hg1 hb1 ha1)⟩
  have e : bv (l ++ (pre ++ [UInt8.ofNat u'])) = bv (l ++ pre) ++ [.int .u8 ((UInt8.ofNat u').toNat : Int)] := by
    rw [← List.append_assoc, bv_append]; rfl
  have e2 : (l ++ (pre ++ [UInt8.ofNat u'])).length = (l ++ pre).length + 1 := by simp; omega
  unfold OwnB
  rw [e, e2]
  exact hO1 (.inl (by omega))

set_option maxRecDepth 100000 in
set_option maxHeartbeats 400000 in
theorem put_any (base : Nat) (v : Value) (l : List UInt8) (n : Int) (w : World) (h1 : -9223372036854775808 ≤ n) (h2 : n ≤ 9223372036854775807)
    (hv : AppB w base v l) (hb : base ≤ w.heap.size) (hl : l.length ≤ 140737488355000) :
    Calls Try.prog 42 #[v, .int .i64 n] w (MadeB base v w (l ++ encI n)) := by
  obtain ⟨i0, hi, hz0, hz1, hz2⟩ := info_parts infoB
  have HV := Lib.hid hv
  clear hv
  go_enter Try.func42, Try.ntmps42
  go_wp2
  rw [put_word h1 h2]
  go_loopw [0, 5] (fun b u wr => PutRel base v w l (encI n) b u wr) (fun _ u _ => (intOf u).toNat)
  case atStart =>
    exact ⟨9, [], zz n, by simpa using HV.out, rfl, by have := zz_lt h1 h2; omega, by omega, by simp, rfl, Grew.refl _ _ _⟩
  case round =>
    obtain ⟨f, pre, u', hA, hpre, hu, hf, hpl, rfl, hG⟩ := hrel
    have HP := Lib.hid hpre
    have HU := Lib.hid hu
    clear hpre hu
    have q1 : (l ++ pre).length + 1 ≤ maxLen := by simp only [maxLen, List.length_append]; omega
    have q2 : ((l ++ pre).length + 1) * 1 ≤ 140737488355328 := by simp only [List.length_append]; omega
    have q3 := Nat.le_trans hb hG.size
    by_cases hc : 128 ≤ u'
    · go_wp2_with (at_builtin; refine wpList_append_app _ rfl _ _ 22 rfl base 5 i0 _ 1 1 Try.underlying22 hi hz0 hz1 hz2 rfl (by omega) u0 _ _ rfl (App.alloc hA q3 _) _ _ 1 _ rfl (Rd.new wr _ 5 1 1 rfl (by decide)) (one_one rfl) q1 q2 (by simp; omega) ?_; intro v1 w1 hA1 hO1 hg1 hb1 ha1)
      go_roundw
      case rel => exact PutRel.more hG HP.out HU.out hf hpl hc (or128 u') hb hA1 hg1 hb1 ha1
      case measure => simp [intOf]; omega
    · go_wp2_with (at_builtin; refine wpList_append_app _ rfl _ _ 22 rfl base 5 i0 _ 1 1 Try.underlying22 hi hz0 hz1 hz2 rfl (by omega) u0 _ _ rfl (App.alloc hA q3 _) _ _ 1 _ rfl (Rd.new wr _ 5 1 1 rfl (by decide)) (one_one rfl) q1 q2 (by simp; omega) ?_; intro v1 w1 hA1 hO1 hg1 hb1 ha1)
      go_ret
      exact PutRel.last hG HP.out (by omega) (byte_of (by omega)) hb hO1 hg1 hb1 ha1
theorem grow_any (A : Option Addr) (n c : Nat) (w : World) (h1 : n ≤ c) :
    Calls Try.prog 43 #[.slice A n c] w fun e w' => e = .returned (.slice A n n) ∧ w = w' := by
  go_enter Try.func43, Try.ntmps43
  go_wp2
  go_ret
  exact ⟨rfl, rfl⟩

set_option maxHeartbeats 400000 in
theorem putInt_any (v : Value) (l : List UInt8) (n : Int) (w : World) (h1 : -9223372036854775808 ≤ n) (h2 : n ≤ 9223372036854775807)
    (hv : RdB w (· < w.heap.size) v l) (hl : l.length ≤ 140737488355000) :
    Calls Try.prog 14 #[v, .int .i64 n] w (NewB w (l ++ encI n)) := by
  obtain ⟨A, c, rfl, hc1, hc2, hA⟩ := hv.view
  go_enter Try.func14, Try.ntmps14
  go_wp2_with fail
  refine (grow_any A _ c _ hc1).mono ?_
  rintro e w' ⟨rfl, rfl⟩
  go_wp2_with fail
  refine (put_any w.heap.size _ l n _ h1 h2 hA (Nat.le_refl _) hl).mono ?_
  rintro e w' ⟨v1, rfl, ho, hg⟩
  go_wp2_with fail
  go_ret
  exact ⟨v1, rfl, ho, hg.below⟩

/-- the relation of the loop that reads an integer -/
def IntRel (k : Nat) (l : List UInt8) (res : Int × Int × Int) (u i : Value) : Prop :=
  ∃ j z : Nat, k + j ≤ l.length ∧ j ≤ 9 ∧ z < 128 ^ j ∧ u = .int .u64 z ∧ i = .int .i64 j ∧ decL k (l.drop (k + j)) j z = res

set_option maxRecDepth 100000 in
set_option maxHeartbeats 400000 in
theorem int_in (F : Nat → Prop) (v : Value) (l : List UInt8) (k : Nat) (w : World) (hv : RdB w F v l) (hk : k ≤ l.length) :
    Calls Try.prog 11 #[v, .int .i64 k] w fun e w' => e = .returned (.tuple #[.int .i64 (decI l k).1, .int .i64 (decI l k).2.1, .int .i64 (decI l k).2.2]) ∧ w = w' := by
  obtain ⟨i0, hi, hz0, hz1, hz2⟩ := info_parts infoB
  obtain ⟨A, c, rfl, hc1, hc2, hc3⟩ := hv.open_
  have hR := Rd.cut' hv hk (Nat.le_refl _) hc1 (Nat.le_refl c)
  have hsl := fun W => run_slice_lo (P := Try.prog) Try.underlying22 hi hz1 A l.length c k hk W
  unfold maxLen at hc2
  rw [decI_in hk]
  generalize hres : decL k (l.drop k) 0 0 = res
  have HR := Lib.hid hres
  clear hres
  go_enter Try.func11, Try.ntmps11
  go_wp2
  clear hsl
  generalize cutA A c k 1 = X at *
  go_loop [7, 22] (fun u i => IntRel k l res u i) (fun _ i => (20 - intOf i).toNat)
  case atStart => exact ⟨0, 0, by omega, by omega, by simp, rfl, rfl, HR.out⟩
  case round =>
    clear HR
    obtain ⟨j, z, hj, hj9, hz, rfl, rfl, hd⟩ := hrel
    have HD := Lib.hid hd
    clear hd
    by_cases hlt : k + j < l.length
    · obtain ⟨ad, rfl, _, hcell⟩ := hR.at_ (by omega)
      have hc := hcell j (.int .u8 (l[k + j]'hlt).toNat) (by rw [Nat.mul_one, Nat.mul_one, List.getElem?_take_of_lt (by omega), List.getElem?_drop]; exact bv_get hlt)
      clear hcell
      have hdrop : l.drop (k + j) = l[k + j] :: l.drop (k + j + 1) := List.drop_eq_getElem_cons hlt
      have HDr := Lib.hid hdrop
      clear hdrop
      have h256 : (l[k + j]'hlt).toNat < 256 := (l[k + j]'hlt).toNat_lt
      by_cases hbad : (j = 9 ∧ 1 < (l[k + j]'hlt).toNat) ∨ (0 < j ∧ (l[k + j]'hlt).toNat = 0)
      · have hres := (decL_bad (at_ := k) (l := l.drop (k + j + 1)) (z := z) hbad).symm.trans ((congrArg (fun x => decL k x j z) HDr.out).symm.trans HD.out)
        obtain rfl : (0, 0, 1) = res := hres
        by_cases h9 : j = 9 ∧ 1 < (l[k + j]'hlt).toNat
        · have b1 : ((j : Int) == 9) = true := by simp; omega
          have b2 : 1 < ((l[k + j]'hlt).toNat : Int) := by omega
          clear h9 hbad
          go_wp2
          go_ret3
          exact ⟨rfl, rfl⟩
        · have b3 : 0 < j := by omega
          have b4 : (((l[k + j]'hlt).toNat : Int) == 0) = true := by simp; omega
          by_cases h9' : j = 9
          · have b1 : ((j : Int) == 9) = true := by simp; omega
            have b2 : ¬ 1 < ((l[k + j]'hlt).toNat : Int) := by omega
            clear h9 h9' hbad
            go_wp2
            go_ret3
            exact ⟨rfl, rfl⟩
          · have b1 : ((j : Int) == 9) = false := by simp; omega
            clear h9 h9' hbad
            go_wp2
            go_ret3
            exact ⟨rfl, rfl⟩
      · have h91 : j = 9 → (l[k + j]'hlt).toNat ≤ 1 := by omega
        have H91 := Lib.hid h91
        clear h91
        by_cases h128 : (l[k + j]'hlt).toNat < 128
        · have hres := (decL_end (at_ := k) (l := l.drop (k + j + 1)) (z := z) hbad h128).symm.trans ((congrArg (fun x => decL k x j z) HDr.out).symm.trans HD.out)
          obtain rfl : _ = res := hres
          by_cases h9 : j = 9
          · have b1 : ((j : Int) == 9) = true := by simp; omega
            have b2 : ¬ 1 < ((l[k + j]'hlt).toNat : Int) := by omega
            have b3 : 0 < j := by omega
            have b4 : (((l[k + j]'hlt).toNat : Int) == 0) = false := by simp; omega
            clear h9 hbad
            go_wp2
            go_ret3
            exact ⟨ret_int3 (final_word h256 hj9 hz H91.out) rfl rfl, rfl⟩
          · have b1 : ((j : Int) == 9) = false := by simp; omega
            by_cases b3 : 0 < j
            · have b4 : (((l[k + j]'hlt).toNat : Int) == 0) = false := by simp; omega
              clear h9 hbad
              go_wp2
              go_ret3
              exact ⟨ret_int3 (final_word h256 hj9 hz H91.out) rfl rfl, rfl⟩
            · clear h9 hbad
              go_wp2
              go_ret3
              exact ⟨ret_int3 (final_word h256 hj9 hz H91.out) rfl rfl, rfl⟩
        · have hres := (decL_on (at_ := k) (l := l.drop (k + j + 1)) (z := z) hbad h128).symm.trans ((congrArg (fun x => decL k x j z) HDr.out).symm.trans HD.out)
          have HD2 := Lib.hid hres
          have b1 : ((j : Int) == 9) = false := by simp; omega
          have b4 : (((l[k + j]'hlt).toNat : Int) == 0) = false := by simp; omega
          have hj8 : j ≤ 8 := by omega
          clear hres hbad
          by_cases b3 : 0 < j
          all_goals
            go_wp2
            go_round
            case rel => exact ⟨j + 1, _, by omega, by omega, digit_next hz, congrArg (Value.int .u64) (digit_word h256 hj9 hz H91.out), by go_num, HD2.out⟩
            case measure => simp [intOf]; omega
    · go_wp2
      go_ret3
      have hnil : l.drop (k + j) = [] := List.drop_eq_nil_of_le (by omega)
      obtain rfl : (0, 0, 2) = res := (congrArg (fun x => decL k x j z) hnil).symm.trans HD.out
      exact ⟨rfl, rfl⟩
end Go.Proofs.Ythfclmkeadpcbaa
