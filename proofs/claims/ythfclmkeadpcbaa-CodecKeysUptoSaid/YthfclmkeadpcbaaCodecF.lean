/-
  Values: which are valid.
-/
import Derived.Test.YthfclmkeadpcbaaCodecE
import Derived.BigQuiet
namespace Go.Proofs.Ythfclmkeadpcbaa
open Go.RowKit Go.Lib

def printB (l : List UInt8) : Bool := l.all fun c => 32 ≤ c && c ≤ 126
theorem take_snoc (s : ByteArray) (k : Nat) (h : k < s.size) : s.data.toList.take (k + 1) = s.data.toList.take k ++ [s[k]] := by
  rw [List.take_succ_eq_append_getElem (by simpa using h)]; rfl
theorem printB_snoc (l : List UInt8) (c : UInt8) : printB (l ++ [c]) = (printB l && decide (32 ≤ (c.toNat : Int) ∧ (c.toNat : Int) ≤ 126)) := by
  unfold printB
  rw [List.all_append]
  congr 1
  simp [UInt8.le_iff_toNat_le]
  rw [Bool.eq_iff_iff]; simp; omega
theorem printB_no {l : List UInt8} {k : Nat} (h : printB (l.take k) = false) : printB l = false := by
  rw [← Bool.not_eq_true] at h ⊢
  intro hl
  apply h
  unfold printB at *
  rw [List.all_eq_true] at *
  exact fun x hx => hl x (List.mem_of_mem_take hx)

set_option maxHeartbeats 400000 in
theorem refPrintable_any (s : ByteArray) (w : World) (hs : s.size ≤ maxLen) :
    Calls Try.prog 45 #[.string s] w fun e w' => e = .returned (.bool (printB s.data.toList)) ∧ w = w' := by
  unfold maxLen at hs
  go_enter Try.func45, Try.ntmps45
  go_wp2
  go_loop [3] (fun i => ∃ k : Nat, k ≤ s.size ∧ i = .int .i64 k ∧ printB (s.data.toList.take k) = true) (fun i => s.size - (intOf i).toNat)
  case atStart => exact ⟨0, Nat.zero_le _, rfl, rfl⟩
  case round =>
    obtain ⟨k, hk, rfl, hp⟩ := hrel
    have HP := Lib.hid hp
    clear hp
    by_cases hlt : k < s.size
    · by_cases h1 : (s[k].toNat : Int) < 32
      · go_wp2
        go_ret
        exact ⟨by rw [printB_no (k := k + 1) (by rw [take_snoc s k hlt, printB_snoc]; simp; omega)]; rfl, rfl⟩
      · by_cases h2 : 126 < (s[k].toNat : Int)
        · go_wp2
          go_ret
          exact ⟨by rw [printB_no (k := k + 1) (by rw [take_snoc s k hlt, printB_snoc]; simp; omega)]; rfl, rfl⟩
        · go_wp2
          go_round
          case rel => exact ⟨k + 1, by omega, by go_num, by rw [take_snoc s k hlt, printB_snoc, HP.out]; simp; omega⟩
          case measure => simp [intOf]; omega
    · go_wp2
      go_ret
      have : k = s.size := by omega
      subst this
      have e : List.take s.size s.data.toList = s.data.toList := List.take_of_length_le (by simp)
      rw [← e, HP.out]
      exact ⟨rfl, rfl⟩

set_option maxHeartbeats 400000 in
theorem printable_any (s : ByteArray) (w : World) (hs : s.size ≤ maxLen) :
    Calls Try.prog 48 #[.string s] w fun e w' => e = .returned (.bool (printB s.data.toList)) ∧ w = w' := by
  unfold maxLen at hs
  go_enter Try.func48, Try.ntmps48
  go_wp2
  go_loop [6] (fun i => ∃ k : Nat, k ≤ s.size ∧ i = .int .i64 k ∧ printB (s.data.toList.take k) = true) (fun i => s.size - (intOf i).toNat)
  case atStart => exact ⟨0, Nat.zero_le _, rfl, rfl⟩
  case round =>
    obtain ⟨k, hk, rfl, hp⟩ := hrel
    have HP := Lib.hid hp
    clear hp
    by_cases hlt : k < s.size
    · by_cases h1 : (s[k].toNat : Int) < 32
      · go_wp2
        go_ret
        exact ⟨by rw [printB_no (k := k + 1) (by rw [take_snoc s k hlt, printB_snoc]; simp; omega)]; rfl, rfl⟩
      · by_cases h2 : 126 < (s[k].toNat : Int)
        · go_wp2
          go_ret
          exact ⟨by rw [printB_no (k := k + 1) (by rw [take_snoc s k hlt, printB_snoc]; simp; omega)]; rfl, rfl⟩
        · go_wp2
          go_round
          case rel => exact ⟨k + 1, by omega, by go_num, by rw [take_snoc s k hlt, printB_snoc, HP.out]; simp; omega⟩
          case measure => simp [intOf]; omega
    · go_wp2
      go_ret
      have : k = s.size := by omega
      subst this
      have e : List.take s.size s.data.toList = s.data.toList := List.take_of_length_le (by simp)
      rw [← e, HP.out]
      exact ⟨rfl, rfl⟩

/-- a value -/
structure Val where
  kind : Int
  int : Int
  text : ByteArray
def Val.cells (x : Val) : List Value := [.int .i64 x.kind, .int .i64 x.int, .string x.text]
def validV (x : Val) : Bool :=
  if x.kind = 0 then x.int == 0 && x.text.data.toList == []
  else if x.kind = 1 then decide (-1125899906842624 ≤ x.int) && decide (x.int ≤ 1125899906842624) && x.text.data.toList == []
  else if x.kind = 2 then x.int == 0 && decide (x.text.size ≤ 200) && printB x.text.data.toList
  else if x.kind = 3 then (x.int == 0 || x.int == 1) && x.text.data.toList == []
  else false

theorem ret_bool {a b : Bool} (h : a = b) : Ending.returned (.bool a) = .returned (.bool b) := by rw [h]
theorem isEmpty_beq (s : ByteArray) : s.toList.isEmpty = (s.data.toList == []) := by
  rw [ByteArray.toList_eq]; cases s.data.toList <;> rfl
theorem beq_isEmpty (l : List UInt8) : (l == []) = l.isEmpty := by cases l <;> rfl

set_option maxHeartbeats 400000 in
theorem refValidValue_any (k i : Int) (s : ByteArray) (w : World) (hs : s.size ≤ maxLen) :
    Calls Try.prog 23 #[.agg #[.int .i64 k, .int .i64 i, .string s]] w fun e w' => e = .returned (.bool (validV ⟨k, i, s⟩)) ∧ w.alloc (.cells #[.int .i64 k, .int .i64 i, .string s] 37) = w' := by
  have HS := Lib.hid hs
  clear hs
  go_enter Try.func23, Try.ntmps23
  go_wp2_with (go_at_call 45; refine (refPrintable_any _ _ HS.out).mono ?_; rintro e w' ⟨rfl, rfl⟩)
  all_goals go_ret
  all_goals refine ⟨ret_bool ?_, by first | rfl | (simp_all; done)⟩
  all_goals clear HS
  all_goals simp only [beq_iff_eq, beq_eq_false_iff_ne] at *
  all_goals simp_all [validV, isEmpty_beq]
  all_goals first | omega | (simp_all [ByteArray.toList_eq]; done)

set_option maxHeartbeats 400000 in
theorem validValue_any (k i : Int) (s : ByteArray) (w : World) (hs : s.size ≤ maxLen) :
    Calls Try.prog 47 #[.agg #[.int .i64 k, .int .i64 i, .string s]] w fun e w' => e = .returned (.bool (validV ⟨k, i, s⟩)) ∧ w.alloc (.cells #[.int .i64 k, .int .i64 i, .string s] 37) = w' := by
  have HS := Lib.hid hs
  clear hs
  go_enter Try.func47, Try.ntmps47
  go_wp2_with (go_at_call 48; refine (printable_any _ _ HS.out).mono ?_; rintro e w' ⟨rfl, rfl⟩)
  all_goals go_ret
  all_goals refine ⟨ret_bool ?_, by first | rfl | (simp_all; done)⟩
  all_goals clear HS
  all_goals simp only [beq_iff_eq, beq_eq_false_iff_ne] at *
  all_goals simp_all [validV, isEmpty_beq]
  all_goals first | omega | (simp_all [ByteArray.toList_eq]; done)

end Go.Proofs.Ythfclmkeadpcbaa
