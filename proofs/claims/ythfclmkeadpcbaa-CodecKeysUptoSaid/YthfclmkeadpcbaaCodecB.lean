/-
  The codec's integers: the reference; equality of bytes.
-/
import Derived.Test.YthfclmkeadpcbaaCodecA
namespace Go.Proofs.Ythfclmkeadpcbaa
open Go.RowKit

theorem int_out (F : Nat → Prop) (v : Value) (l : List UInt8) (k : Int) (w : World) (hv : RdB w F v l) (hk : k < 0 ∨ (l.length : Int) < k) :
    Calls Try.prog 11 #[v, .int .i64 k] w fun e w' => e = .returned (.tuple #[.int .i64 0, .int .i64 0, .int .i64 6]) ∧ w = w' := by
  obtain ⟨A, c, rfl, hc1, hc2, hc3⟩ := hv.open_
  rcases hk with hk | hk
  · go_enter Try.func11, Try.ntmps11
    go_wp2
    go_ret3
    exact ⟨rfl, rfl⟩
  · have hk' : ¬ k < 0 := by omega
    go_enter Try.func11, Try.ntmps11
    go_wp2
    go_ret3
    exact ⟨rfl, rfl⟩

def Int3 (r : Int × Int × Int) (w0 : World) (e : Ending) (w : World) : Prop := e = .returned (.tuple #[.int .i64 r.1, .int .i64 r.2.1, .int .i64 r.2.2]) ∧ w0 = w

theorem int_any (F : Nat → Prop) (v : Value) (l : List UInt8) (k : Int) (w : World) (hv : RdB w F v l) :
    Calls Try.prog 11 #[v, .int .i64 k] w (Int3 (decI l k) w) := by
  by_cases h : k < 0 ∨ (l.length : Int) < k
  · rw [decI_out h]; exact int_out F v l k w hv h
  · obtain ⟨n, rfl⟩ := Int.eq_ofNat_of_zero_le (show 0 ≤ k by omega)
    exact int_in F v l n w hv (by omega)

/-- the relation of the reference's loop -/
def IntRel2 (k : Nat) (l : List UInt8) (res : Int × Int × Int) (u p i : Value) : Prop :=
  ∃ j z q : Nat, k + j ≤ l.length ∧ j ≤ 9 ∧ z < q ∧ q = 128 ^ j ∧ u = .int .u64 z ∧ p = .int .u64 q ∧ i = .int .i64 j ∧ decL k (l.drop (k + j)) j z = res

set_option maxRecDepth 100000 in
set_option maxHeartbeats 400000 in
theorem refInt_in (F : Nat → Prop) (v : Value) (l : List UInt8) (k : Nat) (w : World) (hv : RdB w F v l) (hk : k ≤ l.length) :
    Calls Try.prog 12 #[v, .int .i64 k] w (Int3 (decI l k) w) := by
  obtain ⟨A, c, rfl, hc1, hc2, hc3⟩ := hv.open_
  unfold maxLen at hc2
  rw [decI_in hk]
  generalize hres : decL k (l.drop k) 0 0 = res
  have HR := Lib.hid hres
  clear hres
  go_enter Try.func12, Try.ntmps12
  go_wp2
  go_loop [7, 8, 9] (fun u p i => IntRel2 k l res u p i) (fun _ _ i => (20 - intOf i).toNat)
  case atStart => exact ⟨0, 0, 1, by omega, by omega, by simp, rfl, rfl, rfl, rfl, HR.out⟩
  case round =>
    clear HR
    obtain ⟨j, z, q, hj, hj9, hz, hq, rfl, rfl, rfl, hd⟩ := hrel
    have HD := Lib.hid hd
    have HQ := Lib.hid hq
    clear hd hq
    by_cases hlt : k + j < l.length
    · obtain ⟨ad, rfl, _, hcell⟩ := Rd.at_ hv (by omega)
      have hc := hcell (k + j) (.int .u8 (l[k + j]'hlt).toNat) (bv_get hlt)
      clear hcell
      have hdrop : l.drop (k + j) = l[k + j] :: l.drop (k + j + 1) := List.drop_eq_getElem_cons hlt
      have HDr := Lib.hid hdrop
      clear hdrop
      have h256 : (l[k + j]'hlt).toNat < 256 := (l[k + j]'hlt).toNat_lt
      by_cases hbad : (j = 9 ∧ 1 < (l[k + j]'hlt).toNat) ∨ (0 < j ∧ (l[k + j]'hlt).toNat = 0)
      · have hres := (decL_bad (at_ := k) (l := l.drop (k + j + 1)) (z := z) hbad).symm.trans ((congrArg (fun x => decL k x j z) HDr.out).symm.trans HD.out)
        obtain rfl : (0, 0, 1) = res := hres
        by_cases h9 : j = 9 ∧ 1 < (l[k + j]'hlt).toNat
        · have b1 : ((j : Int) == 9) = true := by simp; omega
          have b2 : 1 < ((l[k + j]'hlt).toNat : Int) := by omega
          clear h9 hbad
          go_wp2
          go_ret3
          exact ⟨rfl, rfl⟩
        · have b3 : 0 < j := by omega
          have b4 : (((l[k + j]'hlt).toNat : Int) == 0) = true := by simp; omega
          by_cases h9' : j = 9
          · have b1 : ((j : Int) == 9) = true := by simp; omega
            have b2 : ¬ 1 < ((l[k + j]'hlt).toNat : Int) := by omega
            clear h9 h9' hbad
            go_wp2
            go_ret3
            exact ⟨rfl, rfl⟩
          · have b1 : ((j : Int) == 9) = false := by simp; omega
            clear h9 h9' hbad
            go_wp2
            go_ret3
            exact ⟨rfl, rfl⟩
      · have h91 : j = 9 → (l[k + j]'hlt).toNat ≤ 1 := by omega
        have H91 := Lib.hid h91
        clear h91
        by_cases h128 : (l[k + j]'hlt).toNat < 128
        · have hres := (decL_end (at_ := k) (l := l.drop (k + j + 1)) (z := z) hbad h128).symm.trans ((congrArg (fun x => decL k x j z) HDr.out).symm.trans HD.out)
          obtain rfl : _ = res := hres
          have hN := digit_lt (c := (l[k + j]'hlt).toNat) hj9 (HQ.out ▸ hz) H91.out
          have hW := digit_word2 (c := (l[k + j]'hlt).toNat) hj9 hz HQ.out H91.out
          generalize hn : z + (l[k + j]'hlt).toNat % 128 * 128 ^ j = N at *
          have HN := Lib.hid hN
          have b4 : 0 < j → (((l[k + j]'hlt).toNat : Int) == 0) = false := by intro _; simp; omega
          by_cases hp : N % 2 = 1
          · have b5 : ((IntKind.u64.wrap ((z : Int) + IntKind.u64.wrap (((l[k + j]'hlt).toNat : Int) % 128 * (q : Int)))).tmod 2 == 1) = true := by rw [hW, tmod_two]; simp; omega
            have HW := Lib.hid hW
            have HPar := Lib.hid hp
            clear hW hN hn
            by_cases h9 : j = 9
            · have b1 : ((j : Int) == 9) = true := by simp; omega
              have b2 : ¬ 1 < ((l[k + j]'hlt).toNat : Int) := by omega
              have b3 : 0 < j := by omega
              have b4' := b4 b3
              clear h9 hbad hp b4
              go_wp2
              go_ret3
              exact ⟨ret_int3 ((congrArg (fun x : Int => wrap64 (wrap64 (-wrap64 (IntKind.u64.wrap (x.tdiv 2))) - 1)) HW.out).trans (fin_odd HN.out HPar.out)) rfl rfl, rfl⟩
            · have b1 : ((j : Int) == 9) = false := by simp; omega
              by_cases b3 : 0 < j
              · have b4' := b4 b3
                clear h9 hbad hp b4
                go_wp2
                go_ret3
                exact ⟨ret_int3 ((congrArg (fun x : Int => wrap64 (wrap64 (-wrap64 (IntKind.u64.wrap (x.tdiv 2))) - 1)) HW.out).trans (fin_odd HN.out HPar.out)) rfl rfl, rfl⟩
              · clear h9 hbad hp b4
                go_wp2
                go_ret3
                exact ⟨ret_int3 ((congrArg (fun x : Int => wrap64 (wrap64 (-wrap64 (IntKind.u64.wrap (x.tdiv 2))) - 1)) HW.out).trans (fin_odd HN.out HPar.out)) rfl rfl, rfl⟩
          · have b5 : ((IntKind.u64.wrap ((z : Int) + IntKind.u64.wrap (((l[k + j]'hlt).toNat : Int) % 128 * (q : Int)))).tmod 2 == 1) = false := by rw [hW, tmod_two]; simp; omega
            have HW := Lib.hid hW
            have HPar := Lib.hid hp
            clear hW hN hn
            by_cases h9 : j = 9
            · have b1 : ((j : Int) == 9) = true := by simp; omega
              have b2 : ¬ 1 < ((l[k + j]'hlt).toNat : Int) := by omega
              have b3 : 0 < j := by omega
              have b4' := b4 b3
              clear h9 hbad hp b4
              go_wp2
              go_ret3
              exact ⟨ret_int3 ((congrArg (fun x : Int => wrap64 (IntKind.u64.wrap (x.tdiv 2))) HW.out).trans (fin_even HN.out HPar.out)) rfl rfl, rfl⟩
            · have b1 : ((j : Int) == 9) = false := by simp; omega
              by_cases b3 : 0 < j
              · have b4' := b4 b3
                clear h9 hbad hp b4
                go_wp2
                go_ret3
                exact ⟨ret_int3 ((congrArg (fun x : Int => wrap64 (IntKind.u64.wrap (x.tdiv 2))) HW.out).trans (fin_even HN.out HPar.out)) rfl rfl, rfl⟩
              · clear h9 hbad hp b4
                go_wp2
                go_ret3
                exact ⟨ret_int3 ((congrArg (fun x : Int => wrap64 (IntKind.u64.wrap (x.tdiv 2))) HW.out).trans (fin_even HN.out HPar.out)) rfl rfl, rfl⟩
        · have hres := (decL_on (at_ := k) (l := l.drop (k + j + 1)) (z := z) hbad h128).symm.trans ((congrArg (fun x => decL k x j z) HDr.out).symm.trans HD.out)
          have HD2 := Lib.hid hres
          have b1 : ((j : Int) == 9) = false := by simp; omega
          have b4 : (((l[k + j]'hlt).toNat : Int) == 0) = false := by simp; omega
          have hj8 : j ≤ 8 := by omega
          clear hres hbad
          by_cases b3 : 0 < j
          all_goals
            go_wp2
            go_round
            case rel => exact ⟨j + 1, _, _, by omega, by omega, digit_next (HQ.out ▸ hz), rfl, congrArg (Value.int .u64) (digit_word2 hj9 hz HQ.out H91.out), unit_next hj8 HQ.out, by go_num, HD2.out⟩
            case measure => simp [intOf]; omega
    · go_wp2
      go_ret3
      have hnil : l.drop (k + j) = [] := List.drop_eq_nil_of_le (by omega)
      obtain rfl : (0, 0, 2) = res := (congrArg (fun x => decL k x j z) hnil).symm.trans HD.out
      exact ⟨rfl, rfl⟩

theorem refInt_any (F : Nat → Prop) (v : Value) (l : List UInt8) (k : Int) (w : World) (hv : RdB w F v l) :
    Calls Try.prog 12 #[v, .int .i64 k] w (Int3 (decI l k) w) := by
  by_cases hk : k < 0 ∨ (l.length : Int) < k
  · rw [decI_out hk]
    obtain ⟨A, c, rfl, hc1, hc2, hc3⟩ := hv.open_
    rcases hk with hk | hk
    · go_enter Try.func12, Try.ntmps12
      go_wp2
      go_ret3
      exact ⟨rfl, rfl⟩
    · have hk' : ¬ k < 0 := by omega
      go_enter Try.func12, Try.ntmps12
      go_wp2
      go_ret3
      exact ⟨rfl, rfl⟩
  · obtain ⟨n, rfl⟩ := Int.eq_ofNat_of_zero_le (show 0 ≤ k by omega)
    exact refInt_in F v l n w hv (by omega)
end Go.Proofs.Ythfclmkeadpcbaa
