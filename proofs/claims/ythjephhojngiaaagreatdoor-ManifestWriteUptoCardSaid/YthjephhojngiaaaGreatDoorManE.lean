/-
  Manifests: the reference's test of a name.
-/
import Derived.Test.YthjephhojngiaaaGreatDoorManD
namespace Go.Proofs.YthjephhojngiaaaGreatDoor
open Go.RowKit Go.Lib Go.IntWalk

theorem strB_get (s : List UInt8) (k : Nat) (_hk : k < s.length) (h : k < (strB s).size) : (strB s)[k]'h = s[k] := rfl
set_option maxRecDepth 100000 in
set_option maxHeartbeats 4000000 in
theorem below_any (s : List UInt8) (nx : Int) (w : World) : Calls Tryz.prog 91 #[.string (strB s), .int .i64 nx] w fun e w' => e = .returned (.bool (okNm nx s)) ∧ w = w' := by
  have hsz := strB_size s
  by_cases h7 : s.length = 7
  case neg =>
    rw [show okNm nx s = false from decide_eq_false (by rw [numF_short h7]; omega)]
    have b1 : (((strB s).size : Int) != 7) = true := by rw [bne_iff_ne]; omega
    generalize strB s = S at *
    clear hsz h7
    go_enter Tryz.func91, Tryz.ntmps91
    go_wp2_with fail
    go_ret
    exact ⟨rfl, rfl⟩
  case pos =>
  match s, h7 with
  | c :: r, h7 =>
  have h6 : r.length = 6 := by simpa using h7
  have b1 : (((strB (c :: r)).size : Int) != 7) = false := by rw [bne_eq_false_iff_eq]; omega
  have hz := strB_zero c r
  by_cases hc : c = 102
  case neg =>
    rw [show okNm nx (c :: r) = false from decide_eq_false (by rw [numF_f hc]; omega)]
    have b2 : ((c.toNat : Int) != 102) = true := by
      rw [bne_iff_ne]
      intro h
      exact hc (UInt8.toNat_inj.1 (by rw [show (102 : UInt8).toNat = 102 from rfl]; omega))
    have hs1 : 0 < (strB (c :: r)).size := by omega
    generalize strB (c :: r) = S at *
    clear hsz
    go_enter Tryz.func91, Tryz.ntmps91
    go_wp2_with fail
    go_ret
    exact ⟨rfl, rfl⟩
  case pos =>
  subst hc
  have hs1 : 0 < (strB (102 :: r)).size := by omega
  obtain ⟨S, hS⟩ : ∃ S, S = strB (102 :: r) := ⟨_, rfl⟩
  have HGET := Lib.hid (show ∀ (k : Nat) (hk : k < (102 :: r).length) (h : k < S.size), S[k]'h = (102 :: r)[k] by subst hS; exact strB_get (102 :: r))
  rw [← hS] at hsz b1 hz hs1
  rw [← hS]
  rw [show (102 :: r).length = 7 by simp [h6]] at hsz
  have HOK := Lib.hid (show okNm nx (102 :: r) = decide (1 ≤ (digV r 0).getD 0 ∧ (digV r 0).getD 0 < nx) by unfold okNm; rw [numF_dig h6])
  generalize okNm nx (102 :: r) = res at *
  clear hS
  go_enter Tryz.func91, Tryz.ntmps91
  go_wp2_with fail
  go_loop [5, 6] (fun n i => ∃ (k : Nat) (m : Int), 1 ≤ k ∧ k ≤ 7 ∧ i = .int .i64 (k : Int) ∧ n = .int .i64 m ∧ Hid (digV (r.take (k - 1)) 0 = some m) ∧ 0 ≤ m ∧ m < 10 ^ (k - 1)) (fun _ i => 7 - (intOf i).toNat)
  case atStart => exact ⟨1, 0, Nat.le_refl _, by omega, rfl, rfl, Lib.hid (by simp [digV]), Int.le_refl _, by simp⟩
  case round =>
    obtain ⟨k, m, hk1, hk, rfl, rfl, hd, hm0, hm⟩ := hrel
    have hm6 : m < 1000000 := by
      have : (10 : Int) ^ (k - 1) ≤ 10 ^ 6 := by exact_mod_cast Nat.pow_le_pow_right (by omega) (show k - 1 ≤ 6 by omega)
      omega
    have HPM := Lib.hid hm
    clear hm
    by_cases hlt : k < 7
    case pos =>
      have hlt' : k - 1 < r.length := by omega
      have hx : ∀ h : k < S.size, S[k]'h = r[k - 1] := fun h => by
        rw [HGET.out k (by simp; omega) h]
        obtain ⟨j, rfl⟩ : ∃ j, k = j + 1 := ⟨k - 1, by omega⟩
        simp
      have hts := List.take_succ_eq_append_getElem hlt'
      rw [show k - 1 + 1 = k by omega] at hts
      have HTS := Lib.hid hts
      have HDR := Lib.hid (List.take_append_drop k r)
      clear hts
      generalize r[k - 1] = ch at *
      have hc256 := ch.toNat_lt
      by_cases h2 : (ch.toNat : Int) < 48
      · have HW := Lib.hid (show res = false by
          rw [HOK.out, ← HDR.out, digV_cut (by rw [HTS.out, digV_snoc, hd.out]; simp; omega)]; simp)
        go_wp2_with fail
        go_ret
        exact ⟨by rw [HW.out]; rfl, rfl⟩
      · by_cases h3 : (57 : Int) < (ch.toNat : Int)
        · have HW := Lib.hid (show res = false by
            rw [HOK.out, ← HDR.out, digV_cut (by rw [HTS.out, digV_snoc, hd.out]; simp; omega)]; simp)
          go_wp2_with fail
          go_ret
          exact ⟨by rw [HW.out]; rfl, rfl⟩
        · have HN := Lib.hid (show digV (r.take k) 0 = some (10 * m + ((ch.toNat : Int) - 48)) by rw [HTS.out, digV_snoc, hd.out]; simp; omega)
          have hpow : (10 : Int) ^ k = 10 ^ (k - 1) * 10 := by rw [← Int.pow_succ]; congr 1; omega
          have HP := Lib.hid hpow
          clear hpow HTS HDR
          go_wp2_with fail
          go_round
          case rel => exact ⟨k + 1, 10 * m + ((ch.toNat : Int) - 48), by omega, by omega, by go_num, by go_num, HN, by omega, by have := HP.out; have := HPM.out; rw [show k + 1 - 1 = k by omega]; omega⟩
          case measure => simp [intOf]; omega
    case neg =>
    have HM := Lib.hid (show res = decide (1 ≤ m ∧ m < nx) by
      rw [HOK.out]
      have := hd.out
      rw [List.take_of_length_le (by omega)] at this
      rw [this]; rfl)
    by_cases h8 : 1 ≤ m
    · rw [show decide (1 ≤ m ∧ m < nx) = decide (m < nx) from decide_eq_decide.2 (by omega)] at HM
      go_wp2_with fail
      go_ret
      exact ⟨by rw [HM.out]; rfl, rfl⟩
    · rw [show decide (1 ≤ m ∧ m < nx) = false from decide_eq_false (fun h => h8 h.1)] at HM
      go_wp2_with fail
      go_ret
      exact ⟨by rw [HM.out]; rfl, rfl⟩
end Go.Proofs.YthjephhojngiaaaGreatDoor
