/-
  Manifests: the number of a name; rows of names.
-/
import Derived.Test.YthjephhojngiaaaGreatDoorMan
import Derived.Test.YthjephhojngiaaaGreatDoorMapBool
namespace Go.Proofs.YthjephhojngiaaaGreatDoor
open Go.RowKit Go.Lib Go.IntWalk

def isDg (c : UInt8) : Bool := decide (48 ≤ c.toNat ∧ c.toNat ≤ 57)
theorem digV_snoc (c : UInt8) : ∀ (l : List UInt8) (n : Int), digV (l ++ [c]) n = (digV l n).bind fun m => if 48 ≤ c.toNat ∧ c.toNat ≤ 57 then some (10 * m + ((c.toNat : Int) - 48)) else none
  | [], n => by simp [digV]
  | d :: l, n => by
    simp only [List.cons_append, digV]
    by_cases h : 48 ≤ d.toNat ∧ d.toNat ≤ 57
    · rw [if_pos h, if_pos h]; exact digV_snoc c l _
    · rw [if_neg h, if_neg h]; rfl
theorem digV_cut {l r : List UInt8} {n : Int} (h : digV l n = none) : digV (l ++ r) n = none := by
  induction l generalizing n with
  | nil => simp [digV] at h
  | cons d l ih =>
    simp only [List.cons_append, digV] at h ⊢
    by_cases hd : 48 ≤ d.toNat ∧ d.toNat ≤ 57
    · rw [if_pos hd] at h ⊢; exact ih h
    · rw [if_neg hd]
theorem numF_short {s : List UInt8} (h : s.length ≠ 7) : numF s = 0 := by unfold numF; rw [if_neg (fun hh => h hh.1)]
theorem numF_f {c : UInt8} {r : List UInt8} (h : c ≠ 102) : numF (c :: r) = 0 := by unfold numF; rw [if_neg (fun hh => h (by simpa using hh.2))]
theorem numF_dig {r : List UInt8} (h : r.length = 6) : numF (102 :: r) = (digV r 0).getD 0 := by unfold numF; rw [if_pos ⟨by simp [h], rfl⟩]; rfl
theorem strB_drop (c : UInt8) (r : List UInt8) : (strB (c :: r)).extract 1 (strB (c :: r)).size = strB r := by
  unfold strB
  apply ByteArray.ext
  rw [ByteArray.data_extract]
  simp [ByteArray.size]
theorem strB_zero (c : UInt8) (r : List UInt8) (h : 0 < (strB (c :: r)).size) : (strB (c :: r))[0]'h = c := rfl
theorem digV_bd : ∀ (l : List UInt8) (n m : Int), digV l n = some m → 0 ≤ n → 0 ≤ m
  | [], n, m, h, hn => by simp only [digV, Option.some.injEq] at h; omega
  | c :: l, n, m, h, hn => by
    rw [digV] at h
    by_cases hd : 48 ≤ c.toNat ∧ c.toNat ≤ 57
    · rw [if_pos hd] at h; exact digV_bd l _ m h (by omega)
    · rw [if_neg hd] at h; cases h
set_option maxRecDepth 100000 in
set_option maxHeartbeats 2000000 in
theorem number_any (s : List UInt8) (hs : s.length ≤ 140737488355328) (w : World) : Calls Tryz.prog 77 #[.string (strB s)] w fun e w' => e = .returned (.int .i64 (numF s)) ∧ Below w.heap.size w w' := by
  have hsz := strB_size s
  by_cases h7 : s.length = 7
  case neg =>
    rw [numF_short h7]
    have b1 : (((strB s).size : Int) != 7) = true := by rw [bne_iff_ne]; omega
    generalize strB s = S at *
    clear hsz h7
    go_enter Tryz.func77, Tryz.ntmps77
    go_wp2_with fail
    go_ret
    exact ⟨rfl, Below.refl _ _⟩
  case pos =>
  match s, h7 with
  | c :: r, h7 =>
  have h6 : r.length = 6 := by simpa using h7
  have b1 : (((strB (c :: r)).size : Int) != 7) = false := by rw [bne_eq_false_iff_eq]; omega
  have hz := strB_zero c r
  have hsl := strB_drop c r
  by_cases hc : c = 102
  case neg =>
    rw [numF_f hc]
    have b2 : ((c.toNat : Int) != 102) = true := by
      rw [bne_iff_ne]
      intro h
      exact hc (UInt8.toNat_inj.1 (by rw [show (102 : UInt8).toNat = 102 from rfl]; omega))
    have hs1 : 0 < (strB (c :: r)).size := by omega
    generalize strB (c :: r) = S at *
    clear hsz hsl
    go_enter Tryz.func77, Tryz.ntmps77
    go_wp2_with fail
    go_ret
    exact ⟨rfl, Below.refl _ _⟩
  case pos =>
  subst hc
  rw [numF_dig h6]
  obtain ⟨x, W, hcv, hrd, hbW⟩ := conv_sb w (strB r) (by rw [strB_size]; omega)
  rw [show (strB r).data.toList = r by simp [strB]] at hrd
  have hs1 : 0 < (strB (102 :: r)).size := by omega
  rw [strB_size, show (102 :: r).length = 7 by simp [h6]] at hsl
  rw [show (102 :: r).length = 7 by simp [h6]] at hsz
  generalize strB (102 :: r) = S at *
  generalize strB r = S' at *
  obtain ⟨A, c, rfl, hc1, hc2, hc3⟩ := hrd.open_
  unfold maxLen at hc2
  generalize hres : (digV r 0).getD 0 = res
  have HR := Lib.hid hres
  have HS := Lib.hid hs
  clear hres hs
  rw [h6] at hc1 hrd hcv
  go_enter Tryz.func77, Tryz.ntmps77
  go_wp2_with fail
  go_loop [3, 18] (fun n i => ∃ (k : Nat) (m : Int), k ≤ 6 ∧ i = .int .i64 (k : Int) ∧ n = .int .i64 m ∧ Hid (digV (r.take k) 0 = some m) ∧ 0 ≤ m ∧ m < 10 ^ k) (fun _ i => 6 - (intOf i).toNat)
  case atStart => exact ⟨0, 0, Nat.zero_le _, rfl, rfl, Lib.hid (by simp [digV]), Int.le_refl _, by simp⟩
  case round =>
    obtain ⟨k, m, hk, rfl, rfl, hd, hm0, hm⟩ := hrel
    have hm6 : m < 1000000 := by
      have : (10 : Int) ^ k ≤ 10 ^ 6 := by exact_mod_cast Nat.pow_le_pow_right (by omega) hk
      omega
    by_cases hlt : k < 6
    case pos =>
      have hlt' : k < r.length := by omega
      have hrd' : RdB W (fun x => x < W.heap.size) (Value.slice A r.length c) r := by rw [h6]; exact hrd
      obtain ⟨b, off, rfl, hF, g0⟩ := RdB.byte hrd' hlt'
      have hts := List.take_succ_eq_append_getElem hlt'
      have HTS := Lib.hid hts
      have HDR := Lib.hid (List.take_append_drop (k + 1) r)
      clear hts hrd'
      generalize r[k] = ch at *
      have hc256 := ch.toNat_lt
      by_cases h2 : (ch.toNat : Int) < 48
      · have HW := Lib.hid (show res = 0 by
          rw [← HR.out, ← HDR.out, digV_cut (by rw [HTS.out, digV_snoc, hd.out]; simp; omega)]; rfl)
        go_wp2_with fail
        go_ret
        exact ⟨by rw [HW.out]; rfl, hbW⟩
      · by_cases h3 : (57 : Int) < (ch.toNat : Int)
        · have HW := Lib.hid (show res = 0 by
            rw [← HR.out, ← HDR.out, digV_cut (by rw [HTS.out, digV_snoc, hd.out]; simp; omega)]; rfl)
          go_wp2_with fail
          go_ret
          exact ⟨by rw [HW.out]; rfl, hbW⟩
        · have HN := Lib.hid (show digV (r.take (k + 1)) 0 = some (10 * m + ((ch.toNat : Int) - 48)) by rw [HTS.out, digV_snoc, hd.out]; simp; omega)
          have hpow : (10 : Int) ^ (k + 1) = 10 ^ k * 10 := by rw [Int.pow_succ]
          have HP := Lib.hid hpow
          clear hpow HTS HDR
          go_wp2_with fail
          go_round
          case rel => exact ⟨k + 1, 10 * m + ((ch.toNat : Int) - 48), by omega, by go_num, by go_num, HN, by omega, by rw [HP.out]; omega⟩
          case measure => simp [intOf]; omega
    case neg =>
    have HW := Lib.hid (show res = m by
      rw [← HR.out]
      have := hd.out
      rw [List.take_of_length_le (by omega)] at this
      rw [this]; rfl)
    go_wp2_with fail
    go_ret
    exact ⟨by rw [HW.out]; rfl, hbW⟩
end Go.Proofs.YthjephhojngiaaaGreatDoor
