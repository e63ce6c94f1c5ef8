/-
  The codec's integers: what codec.put, codec.PutInt, codec.Int and the reference's do.
  The codec's integers: the reference; equality of bytes.
  The reference's with and PutInt; equality of bytes; texts.
  The reference's PutInt; texts; periods.
  Texts and periods.
  What was put is read again, and what is read was put: the codec's plain laws. No program here.
-/
import Derived.Test.YthjephhojngiaaaGreatDoorBase
namespace Go.Proofs.YthjephhojngiaaaGreatDoor
section
set_option maxRecDepth 100000
open Go.RowKit

/-- the relation of the loops that put an integer -/
def PutRelC (base : Nat) (v0 : Value) (w0 : World) (l all : List UInt8) (b u : Value) (w : World) : Prop :=
  ∃ (f : Nat) (pre : List UInt8) (u' : Nat), AppB w base b (l ++ pre) ∧ pre ++ vl f u' = all ∧ u' < 2 * 128 ^ f ∧ f ≤ 9 ∧ pre.length + f ≤ 9 ∧ u = .int .u64 u' ∧ Grew base v0 w0 b w

theorem PutRelC.more {base : Nat} {v0 v v1 : Value} {w0 w w1 : World} {l all pre : List UInt8} {f u' : Nat} {x : Int} {o : Obj} (hG : Grew base v0 w0 v w) (HP : pre ++ vl f u' = all) (HU : u' < 2 * 128 ^ f) (hf : f ≤ 9) (hpl : pre.length + f ≤ 9) (hc : 128 ≤ u')
    (hx : x = ((UInt8.ofNat (u' % 128 + 128)).toNat : Int)) (hb : base ≤ w0.heap.size)
    (hA1 : App w1 base 5 1 v1 ((l ++ pre).length + 1) (bv (l ++ pre) ++ [.int .u8 x]))
    (hg1 : (w.alloc o).grownBy w1 v.ownBlock) (hb1 : Below base (w.alloc o) w1) (ha1 : v1.ownBlock = v.ownBlock ∨ v1.ownBlock = some (w.alloc o).heap.size) :
    PutRelC base v0 w0 l all v1 (.int .u64 ((u' : Int) / 128)) w1 := by
  subst hx
  obtain ⟨g, rfl⟩ : ∃ g, f = g + 1 := ⟨f - 1, by
    rcases Nat.eq_zero_or_pos f with h | h
    · subst h; simp at HU; omega
    · omega⟩
  rw [vl_big _ hc] at HP
  refine ⟨g, pre ++ [UInt8.ofNat (u' % 128 + 128)], u' / 128, ?_, by simpa using HP, ?_, by omega, by simp; omega, by simp, ?_⟩
  · have e : bv (l ++ (pre ++ [UInt8.ofNat (u' % 128 + 128)])) = bv (l ++ pre) ++ [.int .u8 ((UInt8.ofNat (u' % 128 + 128)).toNat : Int)] := by
      rw [← List.append_assoc, bv_append]; rfl
    have e2 : (l ++ (pre ++ [UInt8.ofNat (u' % 128 + 128)])).length = (l ++ pre).length + 1 := by simp; omega
    unfold AppB
    rw [e, e2]
    exact hA1
  · rw [Nat.pow_succ] at HU
    omega
  · exact (hG.alloc hb o).trans (Grew.step hg1 hb1 ha1)
theorem PutRelC.last {base : Nat} {v0 v v1 : Value} {w0 w w1 : World} {l all pre : List UInt8} {f u' : Nat} {x : Int} {o : Obj} (hG : Grew base v0 w0 v w) (HP : pre ++ vl f u' = all) (hc : u' < 128)
    (hx : x = ((UInt8.ofNat u').toNat : Int)) (hb : base ≤ w0.heap.size)
    {p : Prop} (hO1 : 0 < 1 ∨ p → w1.ownsRow base 5 1 v1 ((l ++ pre).length + 1) (bv (l ++ pre) ++ [.int .u8 x]))
    (hg1 : (w.alloc o).grownBy w1 v.ownBlock) (hb1 : Below base (w.alloc o) w1) (ha1 : v1.ownBlock = v.ownBlock ∨ v1.ownBlock = some (w.alloc o).heap.size) :
    MadeB base v0 w0 (l ++ all) (.returned v1) w1 := by
  subst hx
  rw [vl_small _ hc] at HP
  subst HP
  refine ⟨v1, rfl, ?_, (hG.alloc hb o).trans (Grew.step hg1 hb1 ha1)⟩
  have e : bv (l ++ (pre ++ [UInt8.ofNat u'])) = bv (l ++ pre) ++ [.int .u8 ((UInt8.ofNat u').toNat : Int)] := by
    rw [← List.append_assoc, bv_append]; rfl
  have e2 : (l ++ (pre ++ [UInt8.ofNat u'])).length = (l ++ pre).length + 1 := by simp; omega
  unfold OwnB
  rw [e, e2]
  exact hO1 (.inl (by omega))

set_option maxRecDepth 100000 in
set_option maxHeartbeats 400000 in
theorem put_any (base : Nat) (v : Value) (l : List UInt8) (n : Int) (w : World) (h1 : -9223372036854775808 ≤ n) (h2 : n ≤ 9223372036854775807)
    (hv : AppB w base v l) (hb : base ≤ w.heap.size) (hl : l.length ≤ 140737488355000) :
    Calls Tryz.prog 78 #[v, .int .i64 n] w (MadeB base v w (l ++ encI n)) := by
  obtain ⟨i0, hi, hz0, hz1, hz2⟩ := info_parts infoB
  have HV := Lib.hid hv
  clear hv
  go_enter Tryz.func78, Tryz.ntmps78
  go_wp2
  rw [put_word h1 h2]
  go_loopw [0, 5] (fun b u wr => PutRelC base v w l (encI n) b u wr) (fun _ u _ => (intOf u).toNat)
  case atStart =>
    exact ⟨9, [], zz n, by simpa using HV.out, rfl, by have := zz_lt h1 h2; omega, by omega, by simp, rfl, Grew.refl _ _ _⟩
  case round =>
    obtain ⟨f, pre, u', hA, hpre, hu, hf, hpl, rfl, hG⟩ := hrel
    have HP := Lib.hid hpre
    have HU := Lib.hid hu
    clear hpre hu
    have q1 : (l ++ pre).length + 1 ≤ maxLen := by simp only [maxLen, List.length_append]; omega
    have q2 : ((l ++ pre).length + 1) * 1 ≤ 140737488355328 := by simp only [List.length_append]; omega
    have q3 := Nat.le_trans hb hG.size
    by_cases hc : 128 ≤ u'
    · go_wp2_with (at_builtin; refine wpList_append_app _ rfl _ _ 51 rfl base 5 i0 _ 1 1 Tryz.underlying51 hi hz0 hz1 hz2 rfl (by omega) u0 _ _ rfl (App.alloc hA q3 _) _ _ 1 _ rfl (Rd.new wr _ 5 1 1 rfl (by decide)) (one_one rfl) q1 q2 (by simp; omega) ?_; intro v1 w1 hA1 hO1 hg1 hb1 ha1)
      go_roundw
      case rel => exact PutRelC.more hG HP.out HU.out hf hpl hc (or128 u') hb hA1 hg1 hb1 ha1
      case measure => simp [intOf]; omega
    · go_wp2_with (at_builtin; refine wpList_append_app _ rfl _ _ 51 rfl base 5 i0 _ 1 1 Tryz.underlying51 hi hz0 hz1 hz2 rfl (by omega) u0 _ _ rfl (App.alloc hA q3 _) _ _ 1 _ rfl (Rd.new wr _ 5 1 1 rfl (by decide)) (one_one rfl) q1 q2 (by simp; omega) ?_; intro v1 w1 hA1 hO1 hg1 hb1 ha1)
      go_ret
      exact PutRelC.last hG HP.out (by omega) (byte_of (by omega)) hb hO1 hg1 hb1 ha1
theorem grow_any (A : Option Addr) (n c : Nat) (w : World) (h1 : n ≤ c) :
    Calls Tryz.prog 79 #[.slice A n c] w fun e w' => e = .returned (.slice A n n) ∧ w = w' := by
  go_enter Tryz.func79, Tryz.ntmps79
  go_wp2
  go_ret
  exact ⟨rfl, rfl⟩

set_option maxHeartbeats 400000 in
theorem putInt_any (v : Value) (l : List UInt8) (n : Int) (w : World) (h1 : -9223372036854775808 ≤ n) (h2 : n ≤ 9223372036854775807)
    (hv : RdB w (· < w.heap.size) v l) (hl : l.length ≤ 140737488355000) :
    Calls Tryz.prog 53 #[v, .int .i64 n] w (NewB w (l ++ encI n)) := by
  obtain ⟨A, c, rfl, hc1, hc2, hA⟩ := hv.view
  go_enter Tryz.func53, Tryz.ntmps53
  go_wp2_with fail
  refine (grow_any A _ c _ hc1).mono ?_
  rintro e w' ⟨rfl, rfl⟩
  go_wp2_with fail
  refine (put_any w.heap.size _ l n _ h1 h2 hA (Nat.le_refl _) hl).mono ?_
  rintro e w' ⟨v1, rfl, ho, hg⟩
  go_wp2_with fail
  go_ret
  exact ⟨v1, rfl, ho, hg.below⟩

/-- the relation of the loop that reads an integer -/
def IntRel (k : Nat) (l : List UInt8) (res : Int × Int × Int) (u i : Value) : Prop :=
  ∃ j z : Nat, k + j ≤ l.length ∧ j ≤ 9 ∧ z < 128 ^ j ∧ u = .int .u64 z ∧ i = .int .i64 j ∧ decL k (l.drop (k + j)) j z = res

set_option maxRecDepth 100000 in
set_option maxHeartbeats 400000 in
theorem int_in (F : Nat → Prop) (v : Value) (l : List UInt8) (k : Nat) (w : World) (hv : RdB w F v l) (hk : k ≤ l.length) :
    Calls Tryz.prog 50 #[v, .int .i64 k] w fun e w' => e = .returned (.tuple #[.int .i64 (decI l k).1, .int .i64 (decI l k).2.1, .int .i64 (decI l k).2.2]) ∧ w = w' := by
  obtain ⟨i0, hi, hz0, hz1, hz2⟩ := info_parts infoB
  obtain ⟨A, c, rfl, hc1, hc2, hc3⟩ := hv.open_
  have hR := Rd.cut' hv hk (Nat.le_refl _) hc1 (Nat.le_refl c)
  have hsl := fun W => run_slice_lo (P := Tryz.prog) Tryz.underlying51 hi hz1 A l.length c k hk W
  unfold maxLen at hc2
  rw [decI_in hk]
  generalize hres : decL k (l.drop k) 0 0 = res
  have HR := Lib.hid hres
  clear hres
  go_enter Tryz.func50, Tryz.ntmps50
  go_wp2
  clear hsl
  generalize cutA A c k 1 = X at *
  go_loop [7, 22] (fun u i => IntRel k l res u i) (fun _ i => (20 - intOf i).toNat)
  case atStart => exact ⟨0, 0, by omega, by omega, by simp, rfl, rfl, HR.out⟩
  case round =>
    clear HR
    obtain ⟨j, z, hj, hj9, hz, rfl, rfl, hd⟩ := hrel
    have HD := Lib.hid hd
    clear hd
    by_cases hlt : k + j < l.length
    · obtain ⟨ad, rfl, _, hcell⟩ := hR.at_ (by omega)
      have hc := hcell j (.int .u8 (l[k + j]'hlt).toNat) (by rw [Nat.mul_one, Nat.mul_one, List.getElem?_take_of_lt (by omega), List.getElem?_drop]; exact bv_get hlt)
      clear hcell
      have hdrop : l.drop (k + j) = l[k + j] :: l.drop (k + j + 1) := List.drop_eq_getElem_cons hlt
      have HDr := Lib.hid hdrop
      clear hdrop
      have h256 : (l[k + j]'hlt).toNat < 256 := (l[k + j]'hlt).toNat_lt
      by_cases hbad : (j = 9 ∧ 1 < (l[k + j]'hlt).toNat) ∨ (0 < j ∧ (l[k + j]'hlt).toNat = 0)
      · have hres := (decL_bad (at_ := k) (l := l.drop (k + j + 1)) (z := z) hbad).symm.trans ((congrArg (fun x => decL k x j z) HDr.out).symm.trans HD.out)
        obtain rfl : (0, 0, 1) = res := hres
        by_cases h9 : j = 9 ∧ 1 < (l[k + j]'hlt).toNat
        · have b1 : ((j : Int) == 9) = true := by simp; omega
          have b2 : 1 < ((l[k + j]'hlt).toNat : Int) := by omega
          clear h9 hbad
          go_wp2
          go_ret3
          exact ⟨rfl, rfl⟩
        · have b3 : 0 < j := by omega
          have b4 : (((l[k + j]'hlt).toNat : Int) == 0) = true := by simp; omega
          by_cases h9' : j = 9
          · have b1 : ((j : Int) == 9) = true := by simp; omega
            have b2 : ¬ 1 < ((l[k + j]'hlt).toNat : Int) := by omega
            clear h9 h9' hbad
            go_wp2
            go_ret3
            exact ⟨rfl, rfl⟩
          · have b1 : ((j : Int) == 9) = false := by simp; omega
            clear h9 h9' hbad
            go_wp2
            go_ret3
            exact ⟨rfl, rfl⟩
      · have h91 : j = 9 → (l[k + j]'hlt).toNat ≤ 1 := by omega
        have H91 := Lib.hid h91
        clear h91
        by_cases h128 : (l[k + j]'hlt).toNat < 128
        · have hres := (decL_end (at_ := k) (l := l.drop (k + j + 1)) (z := z) hbad h128).symm.trans ((congrArg (fun x => decL k x j z) HDr.out).symm.trans HD.out)
          obtain rfl : _ = res := hres
          by_cases h9 : j = 9
          · have b1 : ((j : Int) == 9) = true := by simp; omega
            have b2 : ¬ 1 < ((l[k + j]'hlt).toNat : Int) := by omega
            have b3 : 0 < j := by omega
            have b4 : (((l[k + j]'hlt).toNat : Int) == 0) = false := by simp; omega
            clear h9 hbad
            go_wp2
            go_ret3
            exact ⟨ret_int3 (final_word h256 hj9 hz H91.out) rfl rfl, rfl⟩
          · have b1 : ((j : Int) == 9) = false := by simp; omega
            by_cases b3 : 0 < j
            · have b4 : (((l[k + j]'hlt).toNat : Int) == 0) = false := by simp; omega
              clear h9 hbad
              go_wp2
              go_ret3
              exact ⟨ret_int3 (final_word h256 hj9 hz H91.out) rfl rfl, rfl⟩
            · clear h9 hbad
              go_wp2
              go_ret3
              exact ⟨ret_int3 (final_word h256 hj9 hz H91.out) rfl rfl, rfl⟩
        · have hres := (decL_on (at_ := k) (l := l.drop (k + j + 1)) (z := z) hbad h128).symm.trans ((congrArg (fun x => decL k x j z) HDr.out).symm.trans HD.out)
          have HD2 := Lib.hid hres
          have b1 : ((j : Int) == 9) = false := by simp; omega
          have b4 : (((l[k + j]'hlt).toNat : Int) == 0) = false := by simp; omega
          have hj8 : j ≤ 8 := by omega
          clear hres hbad
          by_cases b3 : 0 < j
          all_goals
            go_wp2
            go_round
            case rel => exact ⟨j + 1, _, by omega, by omega, digit_next hz, congrArg (Value.int .u64) (digit_word h256 hj9 hz H91.out), by go_num, HD2.out⟩
            case measure => simp [intOf]; omega
    · go_wp2
      go_ret3
      have hnil : l.drop (k + j) = [] := List.drop_eq_nil_of_le (by omega)
      obtain rfl : (0, 0, 2) = res := (congrArg (fun x => decL k x j z) hnil).symm.trans HD.out
      exact ⟨rfl, rfl⟩
end

section
set_option maxRecDepth 100000
open Go.RowKit

theorem int_out (F : Nat → Prop) (v : Value) (l : List UInt8) (k : Int) (w : World) (hv : RdB w F v l) (hk : k < 0 ∨ (l.length : Int) < k) :
    Calls Tryz.prog 50 #[v, .int .i64 k] w fun e w' => e = .returned (.tuple #[.int .i64 0, .int .i64 0, .int .i64 6]) ∧ w = w' := by
  obtain ⟨A, c, rfl, hc1, hc2, hc3⟩ := hv.open_
  rcases hk with hk | hk
  · go_enter Tryz.func50, Tryz.ntmps50
    go_wp2
    go_ret3
    exact ⟨rfl, rfl⟩
  · have hk' : ¬ k < 0 := by omega
    go_enter Tryz.func50, Tryz.ntmps50
    go_wp2
    go_ret3
    exact ⟨rfl, rfl⟩

def Int3 (r : Int × Int × Int) (w0 : World) (e : Ending) (w : World) : Prop := e = .returned (.tuple #[.int .i64 r.1, .int .i64 r.2.1, .int .i64 r.2.2]) ∧ w0 = w

theorem int_any (F : Nat → Prop) (v : Value) (l : List UInt8) (k : Int) (w : World) (hv : RdB w F v l) :
    Calls Tryz.prog 50 #[v, .int .i64 k] w (Int3 (decI l k) w) := by
  by_cases h : k < 0 ∨ (l.length : Int) < k
  · rw [decI_out h]; exact int_out F v l k w hv h
  · obtain ⟨n, rfl⟩ := Int.eq_ofNat_of_zero_le (show 0 ≤ k by omega)
    exact int_in F v l n w hv (by omega)

/-- the relation of the reference's loop -/
def IntRel2 (k : Nat) (l : List UInt8) (res : Int × Int × Int) (u p i : Value) : Prop :=
  ∃ j z q : Nat, k + j ≤ l.length ∧ j ≤ 9 ∧ z < q ∧ q = 128 ^ j ∧ u = .int .u64 z ∧ p = .int .u64 q ∧ i = .int .i64 j ∧ decL k (l.drop (k + j)) j z = res

set_option maxRecDepth 100000 in
set_option maxHeartbeats 400000 in
theorem refInt_in (F : Nat → Prop) (v : Value) (l : List UInt8) (k : Nat) (w : World) (hv : RdB w F v l) (hk : k ≤ l.length) :
    Calls Tryz.prog 62 #[v, .int .i64 k] w (Int3 (decI l k) w) := by
  obtain ⟨A, c, rfl, hc1, hc2, hc3⟩ := hv.open_
  unfold maxLen at hc2
  rw [decI_in hk]
  generalize hres : decL k (l.drop k) 0 0 = res
  have HR := Lib.hid hres
  clear hres
  go_enter Tryz.func62, Tryz.ntmps62
  go_wp2
  go_loop [7, 8, 9] (fun u p i => IntRel2 k l res u p i) (fun _ _ i => (20 - intOf i).toNat)
  case atStart => exact ⟨0, 0, 1, by omega, by omega, by simp, rfl, rfl, rfl, rfl, HR.out⟩
  case round =>
    clear HR
    obtain ⟨j, z, q, hj, hj9, hz, hq, rfl, rfl, rfl, hd⟩ := hrel
    have HD := Lib.hid hd
    have HQ := Lib.hid hq
    clear hd hq
    by_cases hlt : k + j < l.length
    · obtain ⟨ad, rfl, _, hcell⟩ := Rd.at_ hv (by omega)
      have hc := hcell (k + j) (.int .u8 (l[k + j]'hlt).toNat) (bv_get hlt)
      clear hcell
      have hdrop : l.drop (k + j) = l[k + j] :: l.drop (k + j + 1) := List.drop_eq_getElem_cons hlt
      have HDr := Lib.hid hdrop
      clear hdrop
      have h256 : (l[k + j]'hlt).toNat < 256 := (l[k + j]'hlt).toNat_lt
      by_cases hbad : (j = 9 ∧ 1 < (l[k + j]'hlt).toNat) ∨ (0 < j ∧ (l[k + j]'hlt).toNat = 0)
      · have hres := (decL_bad (at_ := k) (l := l.drop (k + j + 1)) (z := z) hbad).symm.trans ((congrArg (fun x => decL k x j z) HDr.out).symm.trans HD.out)
        obtain rfl : (0, 0, 1) = res := hres
        by_cases h9 : j = 9 ∧ 1 < (l[k + j]'hlt).toNat
        · have b1 : ((j : Int) == 9) = true := by simp; omega
          have b2 : 1 < ((l[k + j]'hlt).toNat : Int) := by omega
          clear h9 hbad
          go_wp2
          go_ret3
          exact ⟨rfl, rfl⟩
        · have b3 : 0 < j := by omega
          have b4 : (((l[k + j]'hlt).toNat : Int) == 0) = true := by simp; omega
          by_cases h9' : j = 9
          · have b1 : ((j : Int) == 9) = true := by simp; omega
            have b2 : ¬ 1 < ((l[k + j]'hlt).toNat : Int) := by omega
            clear h9 h9' hbad
            go_wp2
            go_ret3
            exact ⟨rfl, rfl⟩
          · have b1 : ((j : Int) == 9) = false := by simp; omega
            clear h9 h9' hbad
            go_wp2
            go_ret3
            exact ⟨rfl, rfl⟩
      · have h91 : j = 9 → (l[k + j]'hlt).toNat ≤ 1 := by omega
        have H91 := Lib.hid h91
        clear h91
        by_cases h128 : (l[k + j]'hlt).toNat < 128
        · have hres := (decL_end (at_ := k) (l := l.drop (k + j + 1)) (z := z) hbad h128).symm.trans ((congrArg (fun x => decL k x j z) HDr.out).symm.trans HD.out)
          obtain rfl : _ = res := hres
          have hN := digit_lt (c := (l[k + j]'hlt).toNat) hj9 (HQ.out ▸ hz) H91.out
          have hW := digit_word2 (c := (l[k + j]'hlt).toNat) hj9 hz HQ.out H91.out
          generalize hn : z + (l[k + j]'hlt).toNat % 128 * 128 ^ j = N at *
          have HN := Lib.hid hN
          have b4 : 0 < j → (((l[k + j]'hlt).toNat : Int) == 0) = false := by intro _; simp; omega
          by_cases hp : N % 2 = 1
          · have b5 : ((IntKind.u64.wrap ((z : Int) + IntKind.u64.wrap (((l[k + j]'hlt).toNat : Int) % 128 * (q : Int)))).tmod 2 == 1) = true := by rw [hW, tmod_two]; simp; omega
            have HW := Lib.hid hW
            have HPar := Lib.hid hp
            clear hW hN hn
            by_cases h9 : j = 9
            · have b1 : ((j : Int) == 9) = true := by simp; omega
              have b2 : ¬ 1 < ((l[k + j]'hlt).toNat : Int) := by omega
              have b3 : 0 < j := by omega
              have b4' := b4 b3
              clear h9 hbad hp b4
              go_wp2
              go_ret3
              exact ⟨ret_int3 ((congrArg (fun x : Int => wrap64 (wrap64 (-wrap64 (IntKind.u64.wrap (x.tdiv 2))) - 1)) HW.out).trans (fin_odd HN.out HPar.out)) rfl rfl, rfl⟩
            · have b1 : ((j : Int) == 9) = false := by simp; omega
              by_cases b3 : 0 < j
              · have b4' := b4 b3
                clear h9 hbad hp b4
                go_wp2
                go_ret3
                exact ⟨ret_int3 ((congrArg (fun x : Int => wrap64 (wrap64 (-wrap64 (IntKind.u64.wrap (x.tdiv 2))) - 1)) HW.out).trans (fin_odd HN.out HPar.out)) rfl rfl, rfl⟩
              · clear h9 hbad hp b4
                go_wp2
                go_ret3
                exact ⟨ret_int3 ((congrArg (fun x : Int => wrap64 (wrap64 (-wrap64 (IntKind.u64.wrap (x.tdiv 2))) - 1)) HW.out).trans (fin_odd HN.out HPar.out)) rfl rfl, rfl⟩
          · have b5 : ((IntKind.u64.wrap ((z : Int) + IntKind.u64.wrap (((l[k + j]'hlt).toNat : Int) % 128 * (q : Int)))).tmod 2 == 1) = false := by rw [hW, tmod_two]; simp; omega
            have HW := Lib.hid hW
            have HPar := Lib.hid hp
            clear hW hN hn
            by_cases h9 : j = 9
            · have b1 : ((j : Int) == 9) = true := by simp; omega
              have b2 : ¬ 1 < ((l[k + j]'hlt).toNat : Int) := by omega
              have b3 : 0 < j := by omega
              have b4' := b4 b3
              clear h9 hbad hp b4
              go_wp2
              go_ret3
              exact ⟨ret_int3 ((congrArg (fun x : Int => wrap64 (IntKind.u64.wrap (x.tdiv 2))) HW.out).trans (fin_even HN.out HPar.out)) rfl rfl, rfl⟩
            · have b1 : ((j : Int) == 9) = false := by simp; omega
              by_cases b3 : 0 < j
              · have b4' := b4 b3
                clear h9 hbad hp b4
                go_wp2
                go_ret3
                exact ⟨ret_int3 ((congrArg (fun x : Int => wrap64 (IntKind.u64.wrap (x.tdiv 2))) HW.out).trans (fin_even HN.out HPar.out)) rfl rfl, rfl⟩
              · clear h9 hbad hp b4
                go_wp2
                go_ret3
                exact ⟨ret_int3 ((congrArg (fun x : Int => wrap64 (IntKind.u64.wrap (x.tdiv 2))) HW.out).trans (fin_even HN.out HPar.out)) rfl rfl, rfl⟩
        · have hres := (decL_on (at_ := k) (l := l.drop (k + j + 1)) (z := z) hbad h128).symm.trans ((congrArg (fun x => decL k x j z) HDr.out).symm.trans HD.out)
          have HD2 := Lib.hid hres
          have b1 : ((j : Int) == 9) = false := by simp; omega
          have b4 : (((l[k + j]'hlt).toNat : Int) == 0) = false := by simp; omega
          have hj8 : j ≤ 8 := by omega
          clear hres hbad
          by_cases b3 : 0 < j
          all_goals
            go_wp2
            go_round
            case rel => exact ⟨j + 1, _, _, by omega, by omega, digit_next (HQ.out ▸ hz), rfl, congrArg (Value.int .u64) (digit_word2 hj9 hz HQ.out H91.out), unit_next hj8 HQ.out, by go_num, HD2.out⟩
            case measure => simp [intOf]; omega
    · go_wp2
      go_ret3
      have hnil : l.drop (k + j) = [] := List.drop_eq_nil_of_le (by omega)
      obtain rfl : (0, 0, 2) = res := (congrArg (fun x => decL k x j z) hnil).symm.trans HD.out
      exact ⟨rfl, rfl⟩

theorem refInt_any (F : Nat → Prop) (v : Value) (l : List UInt8) (k : Int) (w : World) (hv : RdB w F v l) :
    Calls Tryz.prog 62 #[v, .int .i64 k] w (Int3 (decI l k) w) := by
  by_cases hk : k < 0 ∨ (l.length : Int) < k
  · rw [decI_out hk]
    obtain ⟨A, c, rfl, hc1, hc2, hc3⟩ := hv.open_
    rcases hk with hk | hk
    · go_enter Tryz.func62, Tryz.ntmps62
      go_wp2
      go_ret3
      exact ⟨rfl, rfl⟩
    · have hk' : ¬ k < 0 := by omega
      go_enter Tryz.func62, Tryz.ntmps62
      go_wp2
      go_ret3
      exact ⟨rfl, rfl⟩
  · obtain ⟨n, rfl⟩ := Int.eq_ofNat_of_zero_le (show 0 ≤ k by omega)
    exact refInt_in F v l n w hv (by omega)
end

section
set_option maxRecDepth 100000
open Go.RowKit Go.Lib

set_option maxHeartbeats 400000 in
theorem with_any (va vb : Value) (la lb : List UInt8) (w : World) (ha : RdB w (· < w.heap.size) va la) (hb : RdB w (· < w.heap.size) vb lb) (hl : la.length + lb.length ≤ 140737488355328) :
    Calls Tryz.prog 92 #[va, vb] w (NewB w (la ++ lb)) := by
  obtain ⟨i0, hi, hz0, hz1, hz2⟩ := info_parts infoB
  go_enter Tryz.func92, Tryz.ntmps92
  go_wp2_with (first
    | (at_builtin; refine wpList_append_app _ rfl (.tmp 5) (.tmp 6) 51 rfl w.heap.size 5 i0 _ 1 1 Tryz.underlying51 hi hz0 hz1 hz2 rfl (by omega) _ 0 [] rfl (.inl (own_empty w w.heap.size _ 1 (Nat.le_refl _))) _ va la.length (bv la) rfl (Rd.alloc ha (Nat.le_refl _) _) (bv_one _) (by simp only [maxLen]; omega) (by omega) (by simp) ?_; intro v1 w1 hA1 hO1 hg1 hb1 ha1)
    | (at_builtin; refine wpList_append_app _ rfl (.tmp 7) (.tmp 8) 51 rfl w.heap.size 5 i0 _ 1 1 Tryz.underlying51 hi hz0 hz1 hz2 rfl (by omega) v1 _ _ rfl hA1 _ vb lb.length (bv lb) rfl (Rd.below (Rd.alloc hb (Nat.le_refl _) _) hb1) (bv_one _) (by simp only [maxLen]; omega) (by omega) (Nat.le_trans (by simp) hb1.size) ?_; intro v2 w2 hA2 hO2 hg2 hb2 ha2))
  go_ret
  refine ⟨v2, rfl, ?_, (Below.of_alloc _).trans (hb1.trans hb2)⟩
  have h := hO2 (.inr (hO1 (.inr (own_empty w w.heap.size _ 1 (Nat.le_refl _)))))
  unfold OwnB
  rw [bv_append, List.length_append]
  simpa using h

theorem strB_toList (l : List UInt8) : (strB l).toList = l := by simp [strB]
end

section
set_option maxRecDepth 100000
open Go.RowKit Go.Lib

theorem neg_word {n : Int} (h : n < 0) : 2 * -(n + 1) + 1 = (zz n : Int) := by rw [zz, if_pos h]; omega
theorem pos_word {n : Int} (h : 0 ≤ n) : 2 * n = (zz n : Int) := by rw [zz, if_neg (by omega)]; omega
theorem ref_byte (u : Nat) : ((u : Int) % 128 + 128) = ((UInt8.ofNat (u % 128 + 128)).toNat : Int) := by
  rw [← byte_of (by omega)]; omega

theorem vl_lt {f u : Nat} (hf : f ≤ 9) (h : u < 2 * 128 ^ f) : u < 18446744073709551616 := by
  have : 128 ^ f ≤ 128 ^ 9 := Nat.pow_le_pow_right (by omega) hf
  omega
theorem own_baseC {w : World} {b b' : Nat} {e : TypeId} {size n : Nat} {v : Value} {cs : List Value} (h : w.ownsRow b e size v n cs) (hb : b' ≤ b) : w.ownsRow b' e size v n cs := by
  refine ⟨h.1, ?_⟩
  rcases h.2 with h | ⟨g, cap, cur, a1, a2, a3⟩
  · exact .inl h
  · exact .inr ⟨g, cap, cur, a1, by omega, a3⟩
theorem RdB.below' {w w' : World} {v : Value} {l : List UInt8} (h : RdB w (· < w.heap.size) v l) (hb : Below w.heap.size w w') : RdB w' (· < w'.heap.size) v l := Rd.below' h hb

set_option maxRecDepth 100000 in
set_option maxHeartbeats 800000 in
theorem refPutInt_any (v : Value) (l : List UInt8) (n : Int) (w : World) (h1 : -9223372036854775808 ≤ n) (h2 : n ≤ 9223372036854775807)
    (hv : RdB w (· < w.heap.size) v l) (hl : l.length ≤ 140737488355000) :
    Calls Tryz.prog 64 #[v, .int .i64 n] w (NewB w (l ++ encI n)) := by
  obtain ⟨i0, hi, hz0, hz1, hz2⟩ := info_parts infoB
  by_cases hn : n < 0
  · go_enter Tryz.func64, Tryz.ntmps64
    go_wp2
    rw [neg_word hn]
    go_loopw [6, 5] (fun b u wr => PutRelC w.heap.size (.slice none 0 0) w [] (encI n) b u wr) (fun _ u _ => (intOf u).toNat)
    case atStart =>
      exact ⟨9, [], zz n, .inl (World.ownsRow_nil w _ _ _), rfl, by have := zz_lt h1 h2; omega, by omega, by simp, rfl, Grew.refl _ _ _⟩
    case round =>
      obtain ⟨f, pre, u', hA, hpre, hu, hf, hpl, rfl, hG⟩ := hrel
      have HP := Lib.hid hpre
      have hu64 := vl_lt hf hu
      have HU := Lib.hid hu
      clear hpre hu
      have q1 : ([] ++ pre).length + 1 ≤ maxLen := by simp only [maxLen, List.nil_append]; omega
      have q2 : (([] ++ pre).length + 1) * 1 ≤ 140737488355328 := by simp only [List.nil_append]; omega
      have q3 := hG.size
      by_cases hc : 128 ≤ u'
      · go_wp2_with (at_builtin; refine wpList_append_app _ rfl _ _ 51 rfl w.heap.size 5 i0 _ 1 1 Tryz.underlying51 hi hz0 hz1 hz2 rfl (by omega) u6 _ _ rfl (App.alloc hA q3 _) _ _ 1 _ rfl (Rd.new wr _ 5 1 1 rfl (by decide)) (one_one rfl) q1 q2 (by simp; omega) ?_; intro v1 w1 hA1 hO1 hg1 hb1 ha1)
        go_roundw
        case rel => exact PutRelC.more hG HP.out HU.out hf hpl hc (ref_byte u') (Nat.le_refl _) hA1 hg1 hb1 ha1
        case measure => simp [intOf]; omega
      · go_wp2_with (at_builtin; refine wpList_append_app _ rfl _ _ 51 rfl w.heap.size 5 i0 _ 1 1 Tryz.underlying51 hi hz0 hz1 hz2 rfl (by omega) u6 _ _ rfl (App.alloc hA q3 _) _ _ 1 _ rfl (Rd.new wr _ 5 1 1 rfl (by decide)) (one_one rfl) q1 q2 (by simp; omega) ?_; intro v1 w1 hA1 hO1 hg1 hb1 ha1)
        have hM := PutRelC.last (l := []) hG HP.out (by omega) (byte_of (by omega)) (Nat.le_refl _) hO1 hg1 hb1 ha1
        obtain ⟨v2, e2, hO, hGr⟩ := hM
        injection e2 with e2
        subst e2
        go_wp2_with fail
        refine (with_any v v1 l (encI n) _ (hv.below' hGr.below) hO.rd (by have := encI_length n; omega)).mono ?_
        rintro e w2 ⟨v2, rfl, hO2, hb2⟩
        go_wp2_with fail
        go_ret
        exact ⟨v2, rfl, own_baseC hO2 hGr.size, hGr.below.trans (hb2.mono hGr.size)⟩
  · go_enter Tryz.func64, Tryz.ntmps64
    go_wp2
    rw [pos_word hn]
    go_loopw [6, 5] (fun b u wr => PutRelC w.heap.size (.slice none 0 0) w [] (encI n) b u wr) (fun _ u _ => (intOf u).toNat)
    case atStart =>
      exact ⟨9, [], zz n, .inl (World.ownsRow_nil w _ _ _), rfl, by have := zz_lt h1 h2; omega, by omega, by simp, rfl, Grew.refl _ _ _⟩
    case round =>
      obtain ⟨f, pre, u', hA, hpre, hu, hf, hpl, rfl, hG⟩ := hrel
      have HP := Lib.hid hpre
      have hu64 := vl_lt hf hu
      have HU := Lib.hid hu
      clear hpre hu
      have q1 : ([] ++ pre).length + 1 ≤ maxLen := by simp only [maxLen, List.nil_append]; omega
      have q2 : (([] ++ pre).length + 1) * 1 ≤ 140737488355328 := by simp only [List.nil_append]; omega
      have q3 := hG.size
      by_cases hc : 128 ≤ u'
      · go_wp2_with (at_builtin; refine wpList_append_app _ rfl _ _ 51 rfl w.heap.size 5 i0 _ 1 1 Tryz.underlying51 hi hz0 hz1 hz2 rfl (by omega) u6 _ _ rfl (App.alloc hA q3 _) _ _ 1 _ rfl (Rd.new wr _ 5 1 1 rfl (by decide)) (one_one rfl) q1 q2 (by simp; omega) ?_; intro v1 w1 hA1 hO1 hg1 hb1 ha1)
        go_roundw
        case rel => exact PutRelC.more hG HP.out HU.out hf hpl hc (ref_byte u') (Nat.le_refl _) hA1 hg1 hb1 ha1
        case measure => simp [intOf]; omega
      · go_wp2_with (at_builtin; refine wpList_append_app _ rfl _ _ 51 rfl w.heap.size 5 i0 _ 1 1 Tryz.underlying51 hi hz0 hz1 hz2 rfl (by omega) u6 _ _ rfl (App.alloc hA q3 _) _ _ 1 _ rfl (Rd.new wr _ 5 1 1 rfl (by decide)) (one_one rfl) q1 q2 (by simp; omega) ?_; intro v1 w1 hA1 hO1 hg1 hb1 ha1)
        have hM := PutRelC.last (l := []) hG HP.out (by omega) (byte_of (by omega)) (Nat.le_refl _) hO1 hg1 hb1 ha1
        obtain ⟨v2, e2, hO, hGr⟩ := hM
        injection e2 with e2
        subst e2
        go_wp2_with fail
        refine (with_any v v1 l (encI n) _ (hv.below' hGr.below) hO.rd (by have := encI_length n; omega)).mono ?_
        rintro e w2 ⟨v2, rfl, hO2, hb2⟩
        go_wp2_with fail
        go_ret
        exact ⟨v2, rfl, own_baseC hO2 hGr.size, hGr.below.trans (hb2.mono hGr.size)⟩
end

section
set_option maxRecDepth 100000
open Go.RowKit Go.Lib

theorem str_len (s : ByteArray) : s.data.toList.length = s.size := by rw [Array.length_toList]; rfl
theorem strCells_bv (s : ByteArray) : strCells s = bv s.data.toList := rfl

set_option maxHeartbeats 400000 in
theorem putText_any (v : Value) (l : List UInt8) (s : ByteArray) (w : World) (hv : RdB w (· < w.heap.size) v l) (hl : l.length + s.size ≤ 140737488355000) :
    Calls Tryz.prog 52 #[v, .string s] w (NewB w (l ++ (encI s.size ++ s.data.toList))) := by
  obtain ⟨i0, hi, hz0, hz1, hz2⟩ := info_parts infoB
  obtain ⟨A, c, rfl, hc1, hc2, hA⟩ := hv.view
  go_enter Tryz.func52, Tryz.ntmps52
  go_wp2_with fail
  refine (grow_any A _ c _ hc1).mono ?_
  rintro e w' ⟨rfl, rfl⟩
  go_wp2_with fail
  refine (put_any w.heap.size _ l s.size _ (by omega) (by omega) hA (Nat.le_refl _) (by omega)).mono ?_
  rintro e w' ⟨v1, rfl, ho, hg⟩
  have hlen := encI_length s.size
  go_wp2_with (at_builtin; refine wpList_append_own_string _ rfl _ _ 51 9 rfl w.heap.size 5 i0 Tryz.underlying51 Tryz.underlying9 hi hz0 hz1 hz2 v1 _ _ rfl ho s rfl (by simp only [maxLen, List.length_append]; omega) (by simp only [List.length_append]; omega) hg.size ?_; intro v2 w2 ho2 hg2 _)
  go_ret
  refine ⟨v2, rfl, ?_, hg.below.grown hg2 hg.size fun k hk => (ho.lt k hk).1⟩
  unfold OwnB
  rw [← List.append_assoc, bv_append, List.length_append, str_len]
  exact ho2

set_option maxHeartbeats 400000 in
theorem refPutText_any (v : Value) (l : List UInt8) (s : ByteArray) (w : World) (hv : RdB w (· < w.heap.size) v l) (hl : l.length + s.size ≤ 140737488355000) :
    Calls Tryz.prog 65 #[v, .string s] w (NewB w (l ++ (encI s.size ++ s.data.toList))) := by
  go_enter Tryz.func65, Tryz.ntmps65
  go_wp2_with fail
  refine (refPutInt_any v l s.size _ (by omega) (by omega) hv (by omega)).mono ?_
  rintro e w1 ⟨v1, rfl, ho1, hb1⟩
  have hlen := encI_length s.size
  obtain ⟨x, W1, hcv, hx, hbw⟩ := conv_sb w1 s (by omega)
  go_wp2_with fail
  refine (with_any v1 x _ s.data.toList _ (RdB.below' ho1.rd hbw) hx (by rw [str_len, List.length_append]; omega)).mono ?_
  rintro e w2 ⟨v2, rfl, ho2, hb2⟩
  clear hcv
  go_wp2_with fail
  go_ret
  exact ⟨v2, rfl, by rw [← List.append_assoc]; exact own_baseC ho2 (Nat.le_trans hb1.size hbw.size), hb1.trans ((hbw.trans (hb2.mono hbw.size)).mono hb1.size)⟩

def Text3 (r : List UInt8 × Int × Int) (w0 : World) (e : Ending) (w : World) : Prop := e = .returned (.tuple #[.string (strB r.1), .int .i64 r.2.1, .int .i64 r.2.2]) ∧ w0 = w

set_option maxHeartbeats 400000 in
theorem text_any (F : Nat → Prop) (v : Value) (l : List UInt8) (k most : Int) (w : World) (hv : RdB w F v l) :
    Calls Tryz.prog 48 #[v, .int .i64 k, .int .i64 most] w (Text3 (decT l k most) w) := by
  obtain ⟨i0, hi, hz0, hz1, hz2⟩ := info_parts infoB
  have hC := int_any F v l k w hv
  have hb := decI_bd l k
  unfold decT
  generalize decI l k = r at *
  obtain ⟨n, m, e⟩ := r
  simp only at hb ⊢
  have HC := Lib.hid hC
  clear hC
  by_cases he : e = 0
  · subst he
    obtain ⟨k', rfl⟩ := Int.eq_ofNat_of_zero_le (show 0 ≤ m by omega)
    have hk : k' ≤ l.length := by omega
    have hn := hb.2.1
    clear hb
    obtain ⟨A, c, rfl, hc1, hc2, hc3⟩ := hv.open_
    unfold maxLen at hc2
    simp only [ne_eq, not_true_eq_false, if_false]
    by_cases h1 : n < 0
    · rw [if_pos h1]
      go_enter Tryz.func48, Tryz.ntmps48
      go_wp2_with fail
      refine HC.out.mono ?_
      rintro _ _ ⟨rfl, rfl⟩
      go_wp2_with fail
      all_goals go_ret3
      all_goals exact ⟨rfl, rfl⟩
    · rw [if_neg h1]
      by_cases h2 : max most 0 < n
      · rw [if_pos h2]
        go_enter Tryz.func48, Tryz.ntmps48
        go_wp2_with fail
        refine HC.out.mono ?_
        rintro _ _ ⟨rfl, rfl⟩
        go_wp2_with fail
        all_goals go_ret3
        all_goals exact ⟨rfl, rfl⟩
      · rw [if_neg h2]
        obtain ⟨n', rfl⟩ := Int.eq_ofNat_of_zero_le (show 0 ≤ n by omega)
        by_cases h3 : (l.length : Int) - k' < n'
        · rw [if_pos h3]
          go_enter Tryz.func48, Tryz.ntmps48
          go_wp2_with fail
          refine HC.out.mono ?_
          rintro _ _ ⟨rfl, rfl⟩
          go_wp2_with fail
          all_goals go_ret3
          all_goals exact ⟨rfl, rfl⟩
        · rw [if_neg h3]
          have hR := Rd.cut' hv (l := k') (h := k' + n') (m := c) (by omega) (by omega) (by omega) (Nat.le_refl c)
          have hsl : ∀ W : World, (Instr.slice 51 (.slice A l.length c) (some (.int .i64 (k' : Int))) (some (.int .i64 ((k' : Int) + (n' : Int)))) none).run Tryz.prog W = .ok (.slice (cutA A c k' 1) n' (c - k')) W := fun W => by
            have := run_slice_lohi (P := Tryz.prog) Tryz.underlying51 hi hz1 A l.length c k' (k' + n') (by omega) (by omega) W
            rwa [Int.natCast_add, Nat.add_sub_cancel_left] at this
          have hst := run_bytes_str (w := w) (F := F) (v := .slice (cutA A c k' 1) n' (c - k')) (l := (l.drop k').take n') (by
            rw [Nat.add_sub_cancel_left, Nat.mul_one, Nat.mul_one] at hR
            have e1 : ((l.drop k').take n').length = n' := by rw [List.length_take, List.length_drop]; omega
            unfold RdB
            rw [e1]
            simpa [bv, List.map_drop, List.map_take] using hR)
          generalize cutA A c k' 1 = X at *
          go_enter Tryz.func48, Tryz.ntmps48
          go_wp2_with fail
          refine HC.out.mono ?_
          rintro _ _ ⟨rfl, rfl⟩
          go_wp2_with fail
          all_goals go_ret3
          all_goals exact ⟨rfl, rfl⟩
  · rw [if_pos he]
    have b1 : (e != 0) = true := by rw [bne_iff_ne]; exact he
    clear hb
    have HE := Lib.hid he
    clear he
    go_enter Tryz.func48, Tryz.ntmps48
    go_wp2_with fail
    refine HC.out.mono ?_
    rintro _ _ ⟨rfl, rfl⟩
    go_wp2_with fail
    all_goals go_ret3
    all_goals exact ⟨rfl, rfl⟩

set_option maxHeartbeats 400000 in
theorem refText_any (F : Nat → Prop) (v : Value) (l : List UInt8) (k most : Int) (w : World) (hv : RdB w F v l) :
    Calls Tryz.prog 61 #[v, .int .i64 k, .int .i64 most] w (Text3 (decT l k most) w) := by
  obtain ⟨i0, hi, hz0, hz1, hz2⟩ := info_parts infoB
  have hC := refInt_any F v l k w hv
  have hb := decI_bd l k
  unfold decT
  generalize decI l k = r at *
  obtain ⟨n, m, e⟩ := r
  simp only at hb ⊢
  have HC := Lib.hid hC
  clear hC
  by_cases he : e = 0
  · subst he
    obtain ⟨k', rfl⟩ := Int.eq_ofNat_of_zero_le (show 0 ≤ m by omega)
    have hk : k' ≤ l.length := by omega
    have hn := hb.2.1
    clear hb
    obtain ⟨A, c, rfl, hc1, hc2, hc3⟩ := hv.open_
    unfold maxLen at hc2
    simp only [ne_eq, not_true_eq_false, if_false]
    by_cases h1 : n < 0
    · rw [if_pos h1]
      go_enter Tryz.func61, Tryz.ntmps61
      go_wp2_with fail
      refine HC.out.mono ?_
      rintro _ _ ⟨rfl, rfl⟩
      go_wp2_with fail
      all_goals go_ret3
      all_goals exact ⟨rfl, rfl⟩
    · rw [if_neg h1]
      by_cases h2 : max most 0 < n
      · rw [if_pos h2]
        go_enter Tryz.func61, Tryz.ntmps61
        go_wp2_with fail
        refine HC.out.mono ?_
        rintro _ _ ⟨rfl, rfl⟩
        go_wp2_with fail
        all_goals go_ret3
        all_goals exact ⟨rfl, rfl⟩
      · rw [if_neg h2]
        obtain ⟨n', rfl⟩ := Int.eq_ofNat_of_zero_le (show 0 ≤ n by omega)
        by_cases h3 : (l.length : Int) - k' < n'
        · rw [if_pos h3]
          go_enter Tryz.func61, Tryz.ntmps61
          go_wp2_with fail
          refine HC.out.mono ?_
          rintro _ _ ⟨rfl, rfl⟩
          go_wp2_with fail
          all_goals go_ret3
          all_goals exact ⟨rfl, rfl⟩
        · rw [if_neg h3]
          have hR := Rd.cut' hv (l := k') (h := k' + n') (m := c) (by omega) (by omega) (by omega) (Nat.le_refl c)
          have hsl : ∀ W : World, (Instr.slice 51 (.slice A l.length c) (some (.int .i64 (k' : Int))) (some (.int .i64 ((k' : Int) + (n' : Int)))) none).run Tryz.prog W = .ok (.slice (cutA A c k' 1) n' (c - k')) W := fun W => by
            have := run_slice_lohi (P := Tryz.prog) Tryz.underlying51 hi hz1 A l.length c k' (k' + n') (by omega) (by omega) W
            rwa [Int.natCast_add, Nat.add_sub_cancel_left] at this
          have hst := run_bytes_str (w := w) (F := F) (v := .slice (cutA A c k' 1) n' (c - k')) (l := (l.drop k').take n') (by
            rw [Nat.add_sub_cancel_left, Nat.mul_one, Nat.mul_one] at hR
            have e1 : ((l.drop k').take n').length = n' := by rw [List.length_take, List.length_drop]; omega
            unfold RdB
            rw [e1]
            simpa [bv, List.map_drop, List.map_take] using hR)
          generalize cutA A c k' 1 = X at *
          go_enter Tryz.func61, Tryz.ntmps61
          go_wp2_with fail
          refine HC.out.mono ?_
          rintro _ _ ⟨rfl, rfl⟩
          go_wp2_with fail
          all_goals go_ret3
          all_goals exact ⟨rfl, rfl⟩
  · rw [if_pos he]
    have b1 : (e != 0) = true := by rw [bne_iff_ne]; exact he
    clear hb
    have HE := Lib.hid he
    clear he
    go_enter Tryz.func61, Tryz.ntmps61
    go_wp2_with fail
    refine HC.out.mono ?_
    rintro _ _ ⟨rfl, rfl⟩
    go_wp2_with fail
    all_goals go_ret3
    all_goals exact ⟨rfl, rfl⟩
end

section
set_option maxRecDepth 100000
open Go.RowKit Go.Lib

theorem ofNat_small {u : Nat} (h : u < 256) : (UInt8.ofNat u).toNat = u := by simp [UInt8.toNat_ofNat']; omega

theorem decL_vl (at_ : Int) (r : List UInt8) : ∀ (f i z u : Nat), i + f = 9 → z + u * 128 ^ i < 18446744073709551616 → (i = 0 ∨ u ≠ 0) →
    decL at_ (vl f u ++ r) i z = (unzz (z + u * 128 ^ i), at_ + i + (vl f u).length, 0) := by
  intro f
  induction f with
  | zero =>
    intro i z u hi hlt h0
    obtain rfl : i = 9 := by omega
    have hu : u = 1 := by
      have : u * 128 ^ 9 < 2 * 128 ^ 9 := by omega
      have := Nat.lt_of_mul_lt_mul_right this
      omega
    subst hu
    show decL at_ (UInt8.ofNat 1 :: r) 9 z = _
    have e : (UInt8.ofNat 1).toNat = 1 := rfl
    rw [decL_end (by rw [e]; omega) (by rw [e]; omega), e]
    simp [vl]
  | succ f ih =>
    intro i z u hi hlt h0
    by_cases hu : u < 128
    · rw [vl_small _ hu]
      have e := ofNat_small (u := u) (by omega)
      show decL at_ (UInt8.ofNat u :: r) i z = _
      rw [decL_end (by rw [e]; omega) (by rw [e]; omega), e, Nat.mod_eq_of_lt hu]
      simp
    · rw [vl_big _ (by omega)]
      have e := ofNat_small (u := u % 128 + 128) (by omega)
      show decL at_ (UInt8.ofNat (u % 128 + 128) :: (vl f (u / 128) ++ r)) i z = _
      have e2 : (u % 128 + 128) % 128 = u % 128 := by omega
      have e3 : z + u % 128 * 128 ^ i + u / 128 * 128 ^ (i + 1) = z + u * 128 ^ i := by
        have := Nat.mod_add_div u 128
        rw [Nat.pow_succ]
        calc z + u % 128 * 128 ^ i + u / 128 * (128 ^ i * 128) = z + (u % 128 + 128 * (u / 128)) * 128 ^ i := by rw [Nat.add_mul, Nat.add_assoc, Nat.mul_comm (128 ^ i) 128, ← Nat.mul_assoc, Nat.mul_comm (u / 128) 128]
          _ = _ := by rw [this]
      rw [decL_on (by rw [e]; omega) (by rw [e]; omega), e, e2, ih (i + 1) _ (u / 128) (by omega) (by rw [e3]; exact hlt) (.inr (by omega)), e3]
      simp only [List.length_cons]
      congr 2
      omega

theorem decI_put (a r : List UInt8) (n : Int) (h1 : -9223372036854775808 ≤ n) (h2 : n ≤ 9223372036854775807) :
    decI (a ++ (encI n ++ r)) (a.length : Int) = (n, ((a ++ encI n).length : Int), 0) := by
  rw [decI_in (by simp), List.drop_left]
  unfold encI
  rw [decL_vl _ _ 9 0 0 (zz n) rfl (by have := zz_lt h1 h2; omega) (.inl rfl)]
  simp [unzz_zz]

theorem decL_got (at_ n m : Int) : ∀ (l : List UInt8) (i z : Nat), i ≤ 9 → z < 128 ^ i → decL at_ l i z = (n, m, 0) →
    ∃ u r, l = vl (9 - i) u ++ r ∧ n = unzz (z + u * 128 ^ i) ∧ m = at_ + i + (vl (9 - i) u).length ∧ (i = 0 ∨ u ≠ 0) := by
  intro l
  induction l with
  | nil => intro i z _ _ h; rw [decL_nil] at h; simp at h
  | cons c l ih =>
    intro i z hi hz h
    have hc256 : c.toNat < 256 := c.toNat_lt
    by_cases hb : (i = 9 ∧ 1 < c.toNat) ∨ (0 < i ∧ c.toNat = 0)
    · rw [decL_bad hb] at h; simp at h
    · by_cases hc : c.toNat < 128
      · rw [decL_end hb hc] at h
        simp only [Prod.mk.injEq, and_true] at h
        have e : vl (9 - i) c.toNat = [c] := by rw [vl_small _ hc]; simp
        refine ⟨c.toNat, l, by rw [e]; rfl, ?_, ?_, ?_⟩
        · rw [Nat.mod_eq_of_lt hc] at h; exact h.1.symm
        · rw [e]; simp; omega
        · omega
      · rw [decL_on hb hc] at h
        obtain ⟨u, r, rfl, h1, h2, h3⟩ := ih (i + 1) _ (by omega) (digit_next hz) h
        have hu : u ≠ 0 := by omega
        have e9 : 9 - i = (9 - (i + 1)) + 1 := by omega
        have e1 : (c.toNat % 128 + 128 * u) % 128 = c.toNat % 128 := by omega
        have e2 : (c.toNat % 128 + 128 * u) / 128 = u := by omega
        have e3 : UInt8.ofNat (c.toNat % 128 + 128) = c := by
          have : c.toNat % 128 + 128 = c.toNat := by omega
          rw [this]; simp
        have e : vl (9 - i) (c.toNat % 128 + 128 * u) = c :: vl (9 - (i + 1)) u := by
          rw [e9, vl_big _ (by omega), e1, e2, e3]
        refine ⟨c.toNat % 128 + 128 * u, r, by rw [e]; rfl, ?_, ?_, .inr (by omega)⟩
        · rw [h1]
          congr 1
          rw [Nat.pow_succ, Nat.add_mul, Nat.add_assoc, Nat.mul_comm (128 ^ i) 128, ← Nat.mul_assoc, Nat.mul_comm u 128]
        · rw [e, h2]; simp; omega

theorem decI_got {l : List UInt8} {k n m : Int} (h : decI l k = (n, m, 0)) : ∃ a r, l = a ++ (encI n ++ r) ∧ k = (a.length : Int) ∧ m = ((a ++ encI n).length : Int) := by
  by_cases hk : k < 0 ∨ (l.length : Int) < k
  · rw [decI_out hk] at h; simp at h
  · obtain ⟨j, rfl⟩ := Int.eq_ofNat_of_zero_le (show 0 ≤ k by omega)
    have hj : j ≤ l.length := by omega
    rw [decI_in hj] at h
    obtain ⟨u, r, hl, hn, hm, _⟩ := decL_got _ _ _ _ 0 0 (by omega) (by simp) h
    have hz : zz n = u := by rw [hn]; simp [zz_unzz]
    have he : encI n = vl 9 u := by unfold encI; rw [hz]
    refine ⟨l.take j, r, ?_, ?_, ?_⟩
    · rw [he, ← hl, List.take_append_drop]
    · simp; omega
    · rw [hm, he]; simp; omega

theorem decT_put (a r s : List UInt8) (most : Int) (hs : (s.length : Int) ≤ most) (hb : s.length ≤ 9223372036854775807) :
    decT (a ++ (encI s.length ++ (s ++ r))) (a.length : Int) most = (s, ((a ++ (encI s.length ++ s)).length : Int), 0) := by
  unfold decT
  rw [decI_put a (s ++ r) s.length (by omega) (by omega)]
  simp only
  rw [if_neg (by simp), if_neg (by omega), if_neg (by omega), if_neg (by simp; omega)]
  have e : (a ++ (encI s.length ++ (s ++ r))).drop ((a ++ encI s.length).length : Int).toNat = s ++ r := by
    rw [Int.toNat_natCast, ← List.append_assoc, List.drop_left]
  rw [e, Int.toNat_natCast, List.take_left]
  simp
  omega

theorem decT_got {l s : List UInt8} {k m most : Int} (h : decT l k most = (s, m, 0)) : ∃ a r, l = a ++ ((encI s.length ++ s) ++ r) ∧ k = (a.length : Int) ∧ m = ((a ++ (encI s.length ++ s)).length : Int) ∧ (s.length : Int) ≤ max most 0 := by
  have hb := decT_bd l k most
  rw [h] at hb
  simp only at hb
  unfold decT at h
  split at h
  · rename_i h0; simp at h; omega
  · rename_i h0
    split at h
    · simp at h
    · split at h
      · simp at h
      · split at h
        · simp at h
        · rename_i h1 h2 h3
          rcases hd : decI l k with ⟨n, j, e⟩
          rw [hd] at h h0 h1 h2 h3
          simp only [Prod.mk.injEq, and_true] at h h0 h1 h2 h3
          obtain rfl : e = 0 := by omega
          obtain ⟨a, r, hl, hk, hj⟩ := decI_got hd
          obtain ⟨p, rfl⟩ := Int.eq_ofNat_of_zero_le (show 0 ≤ n by omega)
          have hdrop : l.drop j.toNat = r := by rw [hj, hl, Int.toNat_natCast, ← List.append_assoc, List.drop_left]
          have hlr : l.length = (a ++ encI (p : Int)).length + r.length := by rw [hl]; simp; omega
          have hp : p ≤ r.length := by
            omega
          rw [hdrop] at h
          have hs : s.length = p := by rw [← h.1]; simp; omega
          refine ⟨a, r.drop p, ?_, hk, ?_, by omega⟩
          · rw [hl, hs, ← h.1]
            simp
          · rw [← h.2, hj, hs]; simp; omega

theorem strB_of (s : ByteArray) : strB s.data.toList = s := by
  cases s; simp [strB]
end
end Go.Proofs.YthjephhojngiaaaGreatDoor
