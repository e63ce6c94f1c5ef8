/-
  Disks: the small functions.
-/
import Derived.Test.YtooojgokkigncaaFrameJ
namespace Go.Proofs.Ytooojgokkigncaa
open Go.RowKit Go.Lib Go.IntWalk

def lenF (n : Int) : Int := if n < 0 ∨ 1048576 < n then 0 else n + 8
theorem len_any (n : Int) (w : World) : Calls Try.prog 67 #[.int .i64 n] w fun e w' => e = .returned (.int .i64 (lenF n)) ∧ w = w' := by
  unfold lenF
  by_cases h1 : n < 0
  · rw [if_pos (.inl h1)]
    go_enter Try.func67, Try.ntmps67
    go_wp2_with fail
    go_ret
    exact ⟨rfl, rfl⟩
  · by_cases h2 : 1048576 < n
    · rw [if_pos (.inr h2)]
      go_enter Try.func67, Try.ntmps67
      go_wp2_with fail
      go_ret
      exact ⟨rfl, rfl⟩
    · rw [if_neg (by omega)]
      have hw : IntKind.i64.wrap (n + 8) = n + 8 := IntWalk.i64_in _ (by omega)
      go_enter Try.func67, Try.ntmps67
      go_wp2_with fail
      go_ret
      exact ⟨rfl, rfl⟩

/-- a byte that a name may have -/
def chB (c : UInt8) : Bool := decide (33 ≤ c.toNat) && decide (c.toNat ≤ 126)
def wordF (s : List UInt8) : Bool := !decide (s.length = 0) && decide (s.length ≤ 24) && s.all chB

theorem wordF_nil : wordF [] = false := rfl
theorem wordF_long {s : List UInt8} (h : 24 < s.length) : wordF s = false := by
  unfold wordF; rw [show decide (s.length ≤ 24) = false from by simp; omega]; simp
theorem wordF_bad {s : List UInt8} {k : Nat} (hk : k < s.length) (h : chB s[k] = false) : wordF s = false := by
  have : s.all chB = false := by
    rw [List.all_eq_false]
    exact ⟨s[k], List.getElem_mem hk, by rw [h]; simp⟩
  unfold wordF; rw [this]; simp
theorem wordF_good {s : List UInt8} (h0 : ¬ s.length = 0) (h1 : s.length ≤ 24) (h : s.all chB = true) : wordF s = true := by
  unfold wordF; rw [h]; simp; exact ⟨by intro e; subst e; simp at h0, h1⟩
theorem all_snoc {s : List UInt8} {k : Nat} (hk : k < s.length) (h : (s.take k).all chB = true) (hc : chB s[k] = true) : (s.take (k + 1)).all chB = true := by
  rw [List.take_succ_eq_append_getElem hk, List.all_append, h]
  simp [hc]

set_option maxRecDepth 100000 in
set_option maxHeartbeats 1000000 in
theorem dword_any (s : List UInt8) (w : World) : Calls Try.prog 54 #[.string (strB s)] w fun e w' => e = .returned (.bool (wordF s)) ∧ Below w.heap.size w w' := by
  have hsz := strB_size s
  by_cases h0 : s.length = 0
  · obtain rfl : s = [] := List.eq_nil_of_length_eq_zero h0
    rw [wordF_nil]
    have b1 : (strB []).toList.isEmpty = true := by rw [ByteArray.toList_eq]; rfl
    generalize strB [] = S at *
    clear h0 hsz
    go_enter Try.func54, Try.ntmps54
    go_wp2_with fail
    go_ret
    exact ⟨rfl, Below.refl _ _⟩
  have b1 : (strB s).toList.isEmpty = false := by rw [ByteArray.toList_eq]; cases s <;> simp_all [strB]
  by_cases h1 : 24 < s.length
  · rw [wordF_long h1]
    have q1 : (24 : Int) < ((strB s).size : Int) := by omega
    generalize strB s = S at *
    clear hsz h0 h1
    go_enter Try.func54, Try.ntmps54
    go_wp2_with fail
    go_ret
    exact ⟨rfl, Below.refl _ _⟩
  have q1 : ¬ (24 : Int) < ((strB s).size : Int) := by omega
  obtain ⟨x, W, hcv, hrd, hbW⟩ := conv_sb w (strB s) (by omega)
  rw [show (strB s).data.toList = s by simp [strB]] at hrd
  generalize strB s = S at *
  obtain ⟨A, c, rfl, hc1, hc2, hc3⟩ := hrd.open_
  unfold maxLen at hc2
  have H0 := Lib.hid h0
  clear hsz h0
  go_enter Try.func54, Try.ntmps54
  go_wp2_with fail
  go_loop [15] (fun i => ∃ k : Nat, k ≤ s.length ∧ i = .int .i64 k ∧ (s.take k).all chB = true) (fun i => s.length - (intOf i).toNat)
  case atStart => exact ⟨0, Nat.zero_le _, rfl, rfl⟩
  case round =>
    obtain ⟨k, hk, rfl, hp⟩ := hrel
    have HP := Lib.hid hp
    clear hp
    by_cases hlt : k < s.length
    · obtain ⟨b, off, rfl, hF, g0⟩ := RdB.byte hrd hlt
      have HS := Lib.hid (@all_snoc s k hlt HP.out)
      have HB := Lib.hid (@wordF_bad s k hlt)
      generalize s[k] = ch at *
      have hc256 := ch.toNat_lt
      by_cases h2 : (ch.toNat : Int) < 33
      · have hw : wordF s = false := HB.out (by unfold chB; simp; omega)
        have HW := Lib.hid hw
        clear hw
        go_wp2_with fail
        go_ret
        exact ⟨by rw [HW.out]; rfl, hbW⟩
      · by_cases h3 : (126 : Int) < (ch.toNat : Int)
        · have hw : wordF s = false := HB.out (by unfold chB; simp; omega)
          have HW := Lib.hid hw
          clear hw
          go_wp2_with fail
          go_ret
          exact ⟨by rw [HW.out]; rfl, hbW⟩
        · have hch : chB ch = true := by unfold chB; simp; omega
          have HS2 := Lib.hid (HS.out hch)
          clear HS HB hch
          go_wp2_with fail
          go_round
          case rel => exact ⟨k + 1, by omega, by go_num, HS2.out⟩
          case measure => simp [intOf]; omega
    · have hw : wordF s = true := wordF_good H0.out (by omega) (by have := HP.out; rwa [List.take_of_length_le (by omega)] at this)
      have HW := Lib.hid hw
      clear hw
      go_wp2_with fail
      go_ret
      exact ⟨by rw [HW.out]; rfl, hbW⟩

set_option maxRecDepth 100000 in
set_option maxHeartbeats 1000000 in
theorem wword_any (s : List UInt8) (w : World) : Calls Try.prog 47 #[.string (strB s)] w fun e w' => e = .returned (.bool (wordF s)) ∧ Below w.heap.size w w' := by
  have hsz := strB_size s
  by_cases h0 : s.length = 0
  · obtain rfl : s = [] := List.eq_nil_of_length_eq_zero h0
    rw [wordF_nil]
    have b1 : (strB []).toList.isEmpty = true := by rw [ByteArray.toList_eq]; rfl
    generalize strB [] = S at *
    clear h0 hsz
    go_enter Try.func47, Try.ntmps47
    go_wp2_with fail
    go_ret
    exact ⟨rfl, Below.refl _ _⟩
  have b1 : (strB s).toList.isEmpty = false := by rw [ByteArray.toList_eq]; cases s <;> simp_all [strB]
  by_cases h1 : 24 < s.length
  · rw [wordF_long h1]
    have q1 : (24 : Int) < ((strB s).size : Int) := by omega
    generalize strB s = S at *
    clear hsz h0 h1
    go_enter Try.func47, Try.ntmps47
    go_wp2_with fail
    go_ret
    exact ⟨rfl, Below.refl _ _⟩
  have q1 : ¬ (24 : Int) < ((strB s).size : Int) := by omega
  obtain ⟨x, W, hcv, hrd, hbW⟩ := conv_sb w (strB s) (by omega)
  rw [show (strB s).data.toList = s by simp [strB]] at hrd
  generalize strB s = S at *
  obtain ⟨A, c, rfl, hc1, hc2, hc3⟩ := hrd.open_
  unfold maxLen at hc2
  have H0 := Lib.hid h0
  clear hsz h0
  go_enter Try.func47, Try.ntmps47
  go_wp2_with fail
  go_loop [15] (fun i => ∃ k : Nat, k ≤ s.length ∧ i = .int .i64 k ∧ (s.take k).all chB = true) (fun i => s.length - (intOf i).toNat)
  case atStart => exact ⟨0, Nat.zero_le _, rfl, rfl⟩
  case round =>
    obtain ⟨k, hk, rfl, hp⟩ := hrel
    have HP := Lib.hid hp
    clear hp
    by_cases hlt : k < s.length
    · obtain ⟨b, off, rfl, hF, g0⟩ := RdB.byte hrd hlt
      have HS := Lib.hid (@all_snoc s k hlt HP.out)
      have HB := Lib.hid (@wordF_bad s k hlt)
      generalize s[k] = ch at *
      have hc256 := ch.toNat_lt
      by_cases h2 : (ch.toNat : Int) < 33
      · have hw : wordF s = false := HB.out (by unfold chB; simp; omega)
        have HW := Lib.hid hw
        clear hw
        go_wp2_with fail
        go_ret
        exact ⟨by rw [HW.out]; rfl, hbW⟩
      · by_cases h3 : (126 : Int) < (ch.toNat : Int)
        · have hw : wordF s = false := HB.out (by unfold chB; simp; omega)
          have HW := Lib.hid hw
          clear hw
          go_wp2_with fail
          go_ret
          exact ⟨by rw [HW.out]; rfl, hbW⟩
        · have hch : chB ch = true := by unfold chB; simp; omega
          have HS2 := Lib.hid (HS.out hch)
          clear HS HB hch
          go_wp2_with fail
          go_round
          case rel => exact ⟨k + 1, by omega, by go_num, HS2.out⟩
          case measure => simp [intOf]; omega
    · have hw : wordF s = true := wordF_good H0.out (by omega) (by have := HP.out; rwa [List.take_of_length_le (by omega)] at this)
      have HW := Lib.hid hw
      clear hw
      go_wp2_with fail
      go_ret
      exact ⟨by rw [HW.out]; rfl, hbW⟩
end Go.Proofs.Ytooojgokkigncaa
