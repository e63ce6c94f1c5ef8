/-
  Periods: the reference's parsing.
-/
import Derived.Test.YtipngnejiddkdaaDoorPerH
namespace Go.Proofs.YtipngnejiddkdaaDoor
open Go.RowKit Go.Lib

theorem dgs_le (l : List UInt8) (k : Nat) (h : ¬ (dgs l k).2 < 0) (hk : k ≤ l.length) : (dgs l k).2 ≤ (l.length : Int) ∧ (k : Int) ≤ (dgs l k).2 := by
  rw [(dgs_good h).2]
  have := (List.takeWhile_sublist (p := dig) (l := l.drop k)).length_le
  rw [List.length_drop] at this
  omega
theorem dgs_bd (l : List UInt8) (k : Nat) : 0 ≤ (dgs l k).1 ∧ (dgs l k).1 ≤ 1099511627776 := by
  unfold dgs
  split
  · have := cap_le 1099511627776 ((l.drop k).takeWhile dig)
    simp only
    omega
  · simp

set_option maxHeartbeats 1000000 in
theorem refParse_empty (s : ByteArray) (w : World) (h : s = ⟨#[]⟩) :
    Calls Tryd.prog 21 #[.string s] w (Per3 (0, 0, 1) w) := by
  subst h
  go_enter Tryd.func21, Tryd.ntmps21
  go_wp2_with fail
  all_goals exact bodyPost_ret (v := .tuple #[.agg #[.int .i64 0, .int .i64 0], .int .i64 1]) (by simp [results, Tryd.results21, go_sem] <;> omega) rfl ⟨rfl, by first | exact (Below.refl _ _).alloc (Nat.le_refl _) _ | exact ((Below.refl _ _).alloc (Nat.le_refl _) _).setCell (by simp <;> omega) _ | exact (((Below.refl _ _).alloc (Nat.le_refl _) _).setCell (by simp <;> omega) _).setCell (by simp <;> omega) _⟩

set_option maxHeartbeats 1000000 in
theorem refParse_head (s : ByteArray) (w : World) (h0 : 0 < s.size) (h : ¬ s[0].toNat = 91) :
    Calls Tryd.prog 21 #[.string s] w (Per3 (0, 0, 1) w) := by
  have b0 : ((s[0].toNat : Int) != 91) = true := by rw [bne_iff_ne]; omega
  clear h
  go_enter Tryd.func21, Tryd.ntmps21
  go_wp2_with fail
  all_goals exact bodyPost_ret (v := .tuple #[.agg #[.int .i64 0, .int .i64 0], .int .i64 1]) (by simp [results, Tryd.results21, go_sem] <;> omega) rfl ⟨rfl, by first | exact (Below.refl _ _).alloc (Nat.le_refl _) _ | exact ((Below.refl _ _).alloc (Nat.le_refl _) _).setCell (by simp <;> omega) _ | exact (((Below.refl _ _).alloc (Nat.le_refl _) _).setCell (by simp <;> omega) _).setCell (by simp <;> omega) _⟩

set_option maxHeartbeats 1000000 in
theorem refParse_d1 (s : ByteArray) (w : World) (hs : s.size < 4294967281) (h0 : 0 < s.size) (h : s[0].toNat = 91) (a : Int) (i : Int) (hd : dgs s.data.toList 1 = (a, i)) (hi : i < 0) :
    Calls Tryd.prog 21 #[.string s] w (Per3 (0, 0, 1) w) := by
  have b0 : ((s[0].toNat : Int) != 91) = false := by rw [h]; rfl
  have D1 := Lib.hid (fun w => digits_any s 1 w hs (by omega))
  rw [hd, show ((1 : Nat) : Int) = 1 from rfl] at D1
  have z1 : ((s.size : Int) == 0) = false := by rw [beq_eq_false_iff_ne]; omega
  have z2 : ¬ s = ByteArray.empty := fun e => by rw [e] at h0; exact absurd h0 (by decide)
  clear h hd
  go_enter Tryd.func21, Tryd.ntmps21
  go_wp2_with fail
  (with_reducible refine (D1.out _).mono ?_)
  rintro e w1 ⟨rfl, rfl⟩
  clear D1
  go_wp2_with fail
  all_goals exact bodyPost_ret (v := .tuple #[.agg #[.int .i64 0, .int .i64 0], .int .i64 1]) (by simp [results, Tryd.results21, go_sem] <;> omega) rfl ⟨rfl, by first | exact (Below.refl _ _).alloc (Nat.le_refl _) _ | exact ((Below.refl _ _).alloc (Nat.le_refl _) _).setCell (by simp <;> omega) _ | exact (((Below.refl _ _).alloc (Nat.le_refl _) _).setCell (by simp <;> omega) _).setCell (by simp <;> omega) _⟩

set_option maxHeartbeats 1000000 in
theorem refParse_short (s : ByteArray) (w : World) (hs : s.size < 4294967281) (h0 : 0 < s.size) (h : s[0].toNat = 91) (a : Int) (i : Nat) (hd : dgs s.data.toList 1 = (a, (i : Int))) (hi : i ≤ s.size) (hi2 : s.size < i + 2) :
    Calls Tryd.prog 21 #[.string s] w (Per3 (0, 0, 1) w) := by
  have b0 : ((s[0].toNat : Int) != 91) = false := by rw [h]; rfl
  have D1 := Lib.hid (fun w => digits_any s 1 w hs (by omega))
  rw [hd, show ((1 : Nat) : Int) = 1 from rfl] at D1
  have z1 : ((s.size : Int) == 0) = false := by rw [beq_eq_false_iff_ne]; omega
  have z2 : ¬ s = ByteArray.empty := fun e => by rw [e] at h0; exact absurd h0 (by decide)
  clear h hd
  have q1 : (s.size : Int) < (i : Int) + 2 := by omega
  go_enter Tryd.func21, Tryd.ntmps21
  go_wp2_with fail
  (with_reducible refine (D1.out _).mono ?_)
  rintro e w1 ⟨rfl, rfl⟩
  clear D1
  go_wp2_with fail
  all_goals exact bodyPost_ret (v := .tuple #[.agg #[.int .i64 0, .int .i64 0], .int .i64 1]) (by simp [results, Tryd.results21, go_sem] <;> omega) rfl ⟨rfl, by first | exact (Below.refl _ _).alloc (Nat.le_refl _) _ | exact ((Below.refl _ _).alloc (Nat.le_refl _) _).setCell (by simp <;> omega) _ | exact (((Below.refl _ _).alloc (Nat.le_refl _) _).setCell (by simp <;> omega) _).setCell (by simp <;> omega) _⟩

set_option maxHeartbeats 1000000 in
theorem refParse_sep (s : ByteArray) (w : World) (hs : s.size < 4294967281) (h0 : 0 < s.size) (h : s[0].toNat = 91) (a : Int) (i : Nat) (hd : dgs s.data.toList 1 = (a, (i : Int))) (hi2 : i + 2 ≤ s.size) (hn : ¬ (s.data.toList.drop i).take 2 = [44, 32]) :
    Calls Tryd.prog 21 #[.string s] w (Per3 (0, 0, 1) w) := by
  have b0 : ((s[0].toNat : Int) != 91) = false := by rw [h]; rfl
  have D1 := Lib.hid (fun w => digits_any s 1 w hs (by omega))
  rw [hd, show ((1 : Nat) : Int) = 1 from rfl] at D1
  have z1 : ((s.size : Int) == 0) = false := by rw [beq_eq_false_iff_ne]; omega
  have z2 : ¬ s = ByteArray.empty := fun e => by rw [e] at h0; exact absurd h0 (by decide)
  clear h hd
  have q1 : ¬ (s.size : Int) < (i : Int) + 2 := by omega
  have q2 : (i : Int) + 2 ≤ (s.size : Int) := by omega
  have e1 : (s.extract i (i + 2)).toList = (s.data.toList.drop i).take 2 := by rw [extract_toList]; congr 1; omega
  have q3 : ((s.extract i (i + 2)).toList == [44, 32]) = false := by rw [e1]; simpa using hn
  have q4 : ¬ (s.extract i (i + 2)).toList = [44, 32] := by rw [e1]; exact hn
  clear hn e1
  go_enter Tryd.func21, Tryd.ntmps21
  go_wp2_with fail
  (with_reducible refine (D1.out _).mono ?_)
  rintro e w1 ⟨rfl, rfl⟩
  clear D1
  go_wp2_with fail
  all_goals exact bodyPost_ret (v := .tuple #[.agg #[.int .i64 0, .int .i64 0], .int .i64 1]) (by simp [results, Tryd.results21, go_sem] <;> omega) rfl ⟨rfl, by first | exact (Below.refl _ _).alloc (Nat.le_refl _) _ | exact ((Below.refl _ _).alloc (Nat.le_refl _) _).setCell (by simp <;> omega) _ | exact (((Below.refl _ _).alloc (Nat.le_refl _) _).setCell (by simp <;> omega) _).setCell (by simp <;> omega) _⟩

set_option maxHeartbeats 1000000 in
theorem refParse_ev1 (s : ByteArray) (w : World) (hs : s.size < 4294967281) (h0 : 0 < s.size) (h : s[0].toNat = 91) (a : Int) (i : Nat) (hd : dgs s.data.toList 1 = (a, (i : Int))) (hi2 : i + 2 ≤ s.size) (hn : (s.data.toList.drop i).take 2 = [44, 32]) (hv : s.data.toList.drop (i + 2) = forever ++ [41]) (ha : 1099511627776 ≤ a) :
    Calls Tryd.prog 21 #[.string s] w (Per3 (0, 0, 6) w) := by
  have b0 : ((s[0].toNat : Int) != 91) = false := by rw [h]; rfl
  have D1 := Lib.hid (fun w => digits_any s 1 w hs (by omega))
  rw [hd, show ((1 : Nat) : Int) = 1 from rfl] at D1
  have z1 : ((s.size : Int) == 0) = false := by rw [beq_eq_false_iff_ne]; omega
  have z2 : ¬ s = ByteArray.empty := fun e => by rw [e] at h0; exact absurd h0 (by decide)
  clear h hd
  have q1 : ¬ (s.size : Int) < (i : Int) + 2 := by omega
  have q2 : (i : Int) + 2 ≤ (s.size : Int) := by omega
  have e1 : (s.extract i (i + 2)).toList = (s.data.toList.drop i).take 2 := by rw [extract_toList]; congr 1; omega
  have q3 : ((s.extract i (i + 2)).toList == [44, 32]) = true := by rw [e1]; simpa using hn
  clear hn e1
  have e2 : (s.extract (i + 2) s.size).toList = s.data.toList.drop (i + 2) := by rw [extract_toList]; exact List.take_of_length_le (by rw [List.length_drop, str_len]; exact Nat.le_refl _)
  have q5 : ((s.extract (i + 2) s.size).toList == [102, 111, 114, 101, 118, 101, 114, 41]) = true := by rw [e2, hv]; decide
  clear hv e2
  go_enter Tryd.func21, Tryd.ntmps21
  go_wp2_with fail
  (with_reducible refine (D1.out _).mono ?_)
  rintro e w1 ⟨rfl, rfl⟩
  clear D1
  go_wp2_with fail
  all_goals exact bodyPost_ret (v := .tuple #[.agg #[.int .i64 0, .int .i64 0], .int .i64 6]) (by simp [results, Tryd.results21, go_sem] <;> omega) rfl ⟨rfl, by first | exact (Below.refl _ _).alloc (Nat.le_refl _) _ | exact ((Below.refl _ _).alloc (Nat.le_refl _) _).setCell (by simp <;> omega) _ | exact (((Below.refl _ _).alloc (Nat.le_refl _) _).setCell (by simp <;> omega) _).setCell (by simp <;> omega) _⟩

set_option maxHeartbeats 1000000 in
theorem refParse_ev2 (s : ByteArray) (w : World) (hs : s.size < 4294967281) (h0 : 0 < s.size) (h : s[0].toNat = 91) (a : Int) (i : Nat) (hd : dgs s.data.toList 1 = (a, (i : Int))) (hi2 : i + 2 ≤ s.size) (hn : (s.data.toList.drop i).take 2 = [44, 32]) (hv : s.data.toList.drop (i + 2) = forever ++ [41]) (ha : ¬ 1099511627776 ≤ a) :
    Calls Tryd.prog 21 #[.string s] w (Per3 (a, 1099511627776, 0) w) := by
  have b0 : ((s[0].toNat : Int) != 91) = false := by rw [h]; rfl
  have D1 := Lib.hid (fun w => digits_any s 1 w hs (by omega))
  rw [hd, show ((1 : Nat) : Int) = 1 from rfl] at D1
  have z1 : ((s.size : Int) == 0) = false := by rw [beq_eq_false_iff_ne]; omega
  have z2 : ¬ s = ByteArray.empty := fun e => by rw [e] at h0; exact absurd h0 (by decide)
  clear h hd
  have q1 : ¬ (s.size : Int) < (i : Int) + 2 := by omega
  have q2 : (i : Int) + 2 ≤ (s.size : Int) := by omega
  have e1 : (s.extract i (i + 2)).toList = (s.data.toList.drop i).take 2 := by rw [extract_toList]; congr 1; omega
  have q3 : ((s.extract i (i + 2)).toList == [44, 32]) = true := by rw [e1]; simpa using hn
  clear hn e1
  have e2 : (s.extract (i + 2) s.size).toList = s.data.toList.drop (i + 2) := by rw [extract_toList]; exact List.take_of_length_le (by rw [List.length_drop, str_len]; exact Nat.le_refl _)
  have q5 : ((s.extract (i + 2) s.size).toList == [102, 111, 114, 101, 118, 101, 114, 41]) = true := by rw [e2, hv]; decide
  clear hv e2
  go_enter Tryd.func21, Tryd.ntmps21
  go_wp2_with fail
  (with_reducible refine (D1.out _).mono ?_)
  rintro e w1 ⟨rfl, rfl⟩
  clear D1
  go_wp2_with fail
  all_goals exact bodyPost_ret (v := .tuple #[.agg #[.int .i64 a, .int .i64 1099511627776], .int .i64 0]) (by simp [results, Tryd.results21, go_sem] <;> omega) rfl ⟨rfl, by first | exact (Below.refl _ _).alloc (Nat.le_refl _) _ | exact ((Below.refl _ _).alloc (Nat.le_refl _) _).setCell (by simp <;> omega) _ | exact (((Below.refl _ _).alloc (Nat.le_refl _) _).setCell (by simp <;> omega) _).setCell (by simp <;> omega) _⟩

set_option maxHeartbeats 1000000 in
theorem refParse_d2 (s : ByteArray) (w : World) (hs : s.size < 4294967281) (h0 : 0 < s.size) (h : s[0].toNat = 91) (a : Int) (i : Nat) (hd : dgs s.data.toList 1 = (a, (i : Int))) (hi2 : i + 2 ≤ s.size) (hn : (s.data.toList.drop i).take 2 = [44, 32]) (hv : ¬ s.data.toList.drop (i + 2) = forever ++ [41]) (b : Int) (k : Int) (hd2 : dgs s.data.toList (i + 2) = (b, k)) (hk : k < 0) :
    Calls Tryd.prog 21 #[.string s] w (Per3 (0, 0, 1) w) := by
  have b0 : ((s[0].toNat : Int) != 91) = false := by rw [h]; rfl
  have D1 := Lib.hid (fun w => digits_any s 1 w hs (by omega))
  rw [hd, show ((1 : Nat) : Int) = 1 from rfl] at D1
  have z1 : ((s.size : Int) == 0) = false := by rw [beq_eq_false_iff_ne]; omega
  have z2 : ¬ s = ByteArray.empty := fun e => by rw [e] at h0; exact absurd h0 (by decide)
  clear h hd
  have q1 : ¬ (s.size : Int) < (i : Int) + 2 := by omega
  have q2 : (i : Int) + 2 ≤ (s.size : Int) := by omega
  have e1 : (s.extract i (i + 2)).toList = (s.data.toList.drop i).take 2 := by rw [extract_toList]; congr 1; omega
  have q3 : ((s.extract i (i + 2)).toList == [44, 32]) = true := by rw [e1]; simpa using hn
  clear hn e1
  have e2 : (s.extract (i + 2) s.size).toList = s.data.toList.drop (i + 2) := by rw [extract_toList]; exact List.take_of_length_le (by rw [List.length_drop, str_len]; exact Nat.le_refl _)
  have q5 : ((s.extract (i + 2) s.size).toList == [102, 111, 114, 101, 118, 101, 114, 41]) = false := by rw [e2]; simpa [forever] using hv
  have q6 : ¬ (s.extract (i + 2) s.size).toList = [102, 111, 114, 101, 118, 101, 114, 41] := by rw [e2]; simpa [forever] using hv
  clear hv e2
  have D2 := Lib.hid (fun w => digits_any s (i + 2) w hs hi2)
  rw [hd2] at D2
  have ec : (((i + 2 : Nat)) : Int) = (i : Int) + 2 := by omega
  rw [ec] at D2
  clear hd2 ec
  go_enter Tryd.func21, Tryd.ntmps21
  go_wp2_with fail
  (with_reducible refine (D1.out _).mono ?_)
  rintro e w1 ⟨rfl, rfl⟩
  clear D1
  go_wp2_with fail
  (with_reducible refine (D2.out _).mono ?_)
  rintro e w1 ⟨rfl, rfl⟩
  clear D2
  go_wp2_with fail
  all_goals exact bodyPost_ret (v := .tuple #[.agg #[.int .i64 0, .int .i64 0], .int .i64 1]) (by simp [results, Tryd.results21, go_sem] <;> omega) rfl ⟨rfl, by first | exact (Below.refl _ _).alloc (Nat.le_refl _) _ | exact ((Below.refl _ _).alloc (Nat.le_refl _) _).setCell (by simp <;> omega) _ | exact (((Below.refl _ _).alloc (Nat.le_refl _) _).setCell (by simp <;> omega) _).setCell (by simp <;> omega) _⟩

set_option maxHeartbeats 1000000 in
theorem refParse_tail (s : ByteArray) (w : World) (hs : s.size < 4294967281) (h0 : 0 < s.size) (h : s[0].toNat = 91) (a : Int) (i : Nat) (hd : dgs s.data.toList 1 = (a, (i : Int))) (hi2 : i + 2 ≤ s.size) (hn : (s.data.toList.drop i).take 2 = [44, 32]) (hv : ¬ s.data.toList.drop (i + 2) = forever ++ [41]) (b : Int) (k : Nat) (hd2 : dgs s.data.toList (i + 2) = (b, (k : Int))) (hk : k ≤ s.size) (ht : ¬ s.data.toList.drop k = [41]) :
    Calls Tryd.prog 21 #[.string s] w (Per3 (0, 0, 1) w) := by
  have b0 : ((s[0].toNat : Int) != 91) = false := by rw [h]; rfl
  have D1 := Lib.hid (fun w => digits_any s 1 w hs (by omega))
  rw [hd, show ((1 : Nat) : Int) = 1 from rfl] at D1
  have z1 : ((s.size : Int) == 0) = false := by rw [beq_eq_false_iff_ne]; omega
  have z2 : ¬ s = ByteArray.empty := fun e => by rw [e] at h0; exact absurd h0 (by decide)
  clear h hd
  have q1 : ¬ (s.size : Int) < (i : Int) + 2 := by omega
  have q2 : (i : Int) + 2 ≤ (s.size : Int) := by omega
  have e1 : (s.extract i (i + 2)).toList = (s.data.toList.drop i).take 2 := by rw [extract_toList]; congr 1; omega
  have q3 : ((s.extract i (i + 2)).toList == [44, 32]) = true := by rw [e1]; simpa using hn
  clear hn e1
  have e2 : (s.extract (i + 2) s.size).toList = s.data.toList.drop (i + 2) := by rw [extract_toList]; exact List.take_of_length_le (by rw [List.length_drop, str_len]; exact Nat.le_refl _)
  have q5 : ((s.extract (i + 2) s.size).toList == [102, 111, 114, 101, 118, 101, 114, 41]) = false := by rw [e2]; simpa [forever] using hv
  have q6 : ¬ (s.extract (i + 2) s.size).toList = [102, 111, 114, 101, 118, 101, 114, 41] := by rw [e2]; simpa [forever] using hv
  clear hv e2
  have D2 := Lib.hid (fun w => digits_any s (i + 2) w hs hi2)
  rw [hd2] at D2
  have ec : (((i + 2 : Nat)) : Int) = (i : Int) + 2 := by omega
  rw [ec] at D2
  clear hd2 ec
  have e3 : (s.extract k s.size).toList = s.data.toList.drop k := by rw [extract_toList]; exact List.take_of_length_le (by rw [List.length_drop, str_len]; exact Nat.le_refl _)
  have q7 : ((s.extract k s.size).toList == [41]) = false := by rw [e3]; simpa using ht
  have q8 : ¬ (s.extract k s.size).toList = [41] := by rw [e3]; exact ht
  clear ht e3
  go_enter Tryd.func21, Tryd.ntmps21
  go_wp2_with fail
  (with_reducible refine (D1.out _).mono ?_)
  rintro e w1 ⟨rfl, rfl⟩
  clear D1
  go_wp2_with fail
  (with_reducible refine (D2.out _).mono ?_)
  rintro e w1 ⟨rfl, rfl⟩
  clear D2
  go_wp2_with fail
  all_goals exact bodyPost_ret (v := .tuple #[.agg #[.int .i64 0, .int .i64 0], .int .i64 1]) (by simp [results, Tryd.results21, go_sem] <;> omega) rfl ⟨rfl, by first | exact (Below.refl _ _).alloc (Nat.le_refl _) _ | exact ((Below.refl _ _).alloc (Nat.le_refl _) _).setCell (by simp <;> omega) _ | exact (((Below.refl _ _).alloc (Nat.le_refl _) _).setCell (by simp <;> omega) _).setCell (by simp <;> omega) _⟩

set_option maxHeartbeats 1000000 in
theorem refParse_r1 (s : ByteArray) (w : World) (hs : s.size < 4294967281) (h0 : 0 < s.size) (h : s[0].toNat = 91) (a : Int) (i : Nat) (hd : dgs s.data.toList 1 = (a, (i : Int))) (hi2 : i + 2 ≤ s.size) (hn : (s.data.toList.drop i).take 2 = [44, 32]) (hv : ¬ s.data.toList.drop (i + 2) = forever ++ [41]) (b : Int) (k : Nat) (hd2 : dgs s.data.toList (i + 2) = (b, (k : Int))) (hk : k ≤ s.size) (ht : s.data.toList.drop k = [41]) (hab : b ≤ a) :
    Calls Tryd.prog 21 #[.string s] w (Per3 (0, 0, 6) w) := by
  have b0 : ((s[0].toNat : Int) != 91) = false := by rw [h]; rfl
  have D1 := Lib.hid (fun w => digits_any s 1 w hs (by omega))
  rw [hd, show ((1 : Nat) : Int) = 1 from rfl] at D1
  have z1 : ((s.size : Int) == 0) = false := by rw [beq_eq_false_iff_ne]; omega
  have z2 : ¬ s = ByteArray.empty := fun e => by rw [e] at h0; exact absurd h0 (by decide)
  clear h hd
  have q1 : ¬ (s.size : Int) < (i : Int) + 2 := by omega
  have q2 : (i : Int) + 2 ≤ (s.size : Int) := by omega
  have e1 : (s.extract i (i + 2)).toList = (s.data.toList.drop i).take 2 := by rw [extract_toList]; congr 1; omega
  have q3 : ((s.extract i (i + 2)).toList == [44, 32]) = true := by rw [e1]; simpa using hn
  clear hn e1
  have e2 : (s.extract (i + 2) s.size).toList = s.data.toList.drop (i + 2) := by rw [extract_toList]; exact List.take_of_length_le (by rw [List.length_drop, str_len]; exact Nat.le_refl _)
  have q5 : ((s.extract (i + 2) s.size).toList == [102, 111, 114, 101, 118, 101, 114, 41]) = false := by rw [e2]; simpa [forever] using hv
  have q6 : ¬ (s.extract (i + 2) s.size).toList = [102, 111, 114, 101, 118, 101, 114, 41] := by rw [e2]; simpa [forever] using hv
  clear hv e2
  have D2 := Lib.hid (fun w => digits_any s (i + 2) w hs hi2)
  rw [hd2] at D2
  have ec : (((i + 2 : Nat)) : Int) = (i : Int) + 2 := by omega
  rw [ec] at D2
  clear hd2 ec
  have e3 : (s.extract k s.size).toList = s.data.toList.drop k := by rw [extract_toList]; exact List.take_of_length_le (by rw [List.length_drop, str_len]; exact Nat.le_refl _)
  have q7 : ((s.extract k s.size).toList == [41]) = true := by rw [e3, ht]; decide
  clear ht e3
  go_enter Tryd.func21, Tryd.ntmps21
  go_wp2_with fail
  (with_reducible refine (D1.out _).mono ?_)
  rintro e w1 ⟨rfl, rfl⟩
  clear D1
  go_wp2_with fail
  (with_reducible refine (D2.out _).mono ?_)
  rintro e w1 ⟨rfl, rfl⟩
  clear D2
  go_wp2_with fail
  all_goals exact bodyPost_ret (v := .tuple #[.agg #[.int .i64 0, .int .i64 0], .int .i64 6]) (by simp [results, Tryd.results21, go_sem] <;> omega) rfl ⟨rfl, by first | exact (Below.refl _ _).alloc (Nat.le_refl _) _ | exact ((Below.refl _ _).alloc (Nat.le_refl _) _).setCell (by simp <;> omega) _ | exact (((Below.refl _ _).alloc (Nat.le_refl _) _).setCell (by simp <;> omega) _).setCell (by simp <;> omega) _⟩

set_option maxHeartbeats 1000000 in
theorem refParse_r2 (s : ByteArray) (w : World) (hs : s.size < 4294967281) (h0 : 0 < s.size) (h : s[0].toNat = 91) (a : Int) (i : Nat) (hd : dgs s.data.toList 1 = (a, (i : Int))) (hi2 : i + 2 ≤ s.size) (hn : (s.data.toList.drop i).take 2 = [44, 32]) (hv : ¬ s.data.toList.drop (i + 2) = forever ++ [41]) (b : Int) (k : Nat) (hd2 : dgs s.data.toList (i + 2) = (b, (k : Int))) (hk : k ≤ s.size) (ht : s.data.toList.drop k = [41]) (hab : ¬ b ≤ a) (hb : 1099511627776 ≤ b) :
    Calls Tryd.prog 21 #[.string s] w (Per3 (0, 0, 6) w) := by
  have b0 : ((s[0].toNat : Int) != 91) = false := by rw [h]; rfl
  have D1 := Lib.hid (fun w => digits_any s 1 w hs (by omega))
  rw [hd, show ((1 : Nat) : Int) = 1 from rfl] at D1
  have z1 : ((s.size : Int) == 0) = false := by rw [beq_eq_false_iff_ne]; omega
  have z2 : ¬ s = ByteArray.empty := fun e => by rw [e] at h0; exact absurd h0 (by decide)
  clear h hd
  have q1 : ¬ (s.size : Int) < (i : Int) + 2 := by omega
  have q2 : (i : Int) + 2 ≤ (s.size : Int) := by omega
  have e1 : (s.extract i (i + 2)).toList = (s.data.toList.drop i).take 2 := by rw [extract_toList]; congr 1; omega
  have q3 : ((s.extract i (i + 2)).toList == [44, 32]) = true := by rw [e1]; simpa using hn
  clear hn e1
  have e2 : (s.extract (i + 2) s.size).toList = s.data.toList.drop (i + 2) := by rw [extract_toList]; exact List.take_of_length_le (by rw [List.length_drop, str_len]; exact Nat.le_refl _)
  have q5 : ((s.extract (i + 2) s.size).toList == [102, 111, 114, 101, 118, 101, 114, 41]) = false := by rw [e2]; simpa [forever] using hv
  have q6 : ¬ (s.extract (i + 2) s.size).toList = [102, 111, 114, 101, 118, 101, 114, 41] := by rw [e2]; simpa [forever] using hv
  clear hv e2
  have D2 := Lib.hid (fun w => digits_any s (i + 2) w hs hi2)
  rw [hd2] at D2
  have ec : (((i + 2 : Nat)) : Int) = (i : Int) + 2 := by omega
  rw [ec] at D2
  clear hd2 ec
  have e3 : (s.extract k s.size).toList = s.data.toList.drop k := by rw [extract_toList]; exact List.take_of_length_le (by rw [List.length_drop, str_len]; exact Nat.le_refl _)
  have q7 : ((s.extract k s.size).toList == [41]) = true := by rw [e3, ht]; decide
  clear ht e3
  go_enter Tryd.func21, Tryd.ntmps21
  go_wp2_with fail
  (with_reducible refine (D1.out _).mono ?_)
  rintro e w1 ⟨rfl, rfl⟩
  clear D1
  go_wp2_with fail
  (with_reducible refine (D2.out _).mono ?_)
  rintro e w1 ⟨rfl, rfl⟩
  clear D2
  go_wp2_with fail
  all_goals exact bodyPost_ret (v := .tuple #[.agg #[.int .i64 0, .int .i64 0], .int .i64 6]) (by simp [results, Tryd.results21, go_sem] <;> omega) rfl ⟨rfl, by first | exact (Below.refl _ _).alloc (Nat.le_refl _) _ | exact ((Below.refl _ _).alloc (Nat.le_refl _) _).setCell (by simp <;> omega) _ | exact (((Below.refl _ _).alloc (Nat.le_refl _) _).setCell (by simp <;> omega) _).setCell (by simp <;> omega) _⟩

set_option maxHeartbeats 1000000 in
theorem refParse_ok (s : ByteArray) (w : World) (hs : s.size < 4294967281) (h0 : 0 < s.size) (h : s[0].toNat = 91) (a : Int) (i : Nat) (hd : dgs s.data.toList 1 = (a, (i : Int))) (hi2 : i + 2 ≤ s.size) (hn : (s.data.toList.drop i).take 2 = [44, 32]) (hv : ¬ s.data.toList.drop (i + 2) = forever ++ [41]) (b : Int) (k : Nat) (hd2 : dgs s.data.toList (i + 2) = (b, (k : Int))) (hk : k ≤ s.size) (ht : s.data.toList.drop k = [41]) (hab : ¬ b ≤ a) (hb : ¬ 1099511627776 ≤ b) :
    Calls Tryd.prog 21 #[.string s] w (Per3 (a, b, 0) w) := by
  have b0 : ((s[0].toNat : Int) != 91) = false := by rw [h]; rfl
  have D1 := Lib.hid (fun w => digits_any s 1 w hs (by omega))
  rw [hd, show ((1 : Nat) : Int) = 1 from rfl] at D1
  have z1 : ((s.size : Int) == 0) = false := by rw [beq_eq_false_iff_ne]; omega
  have z2 : ¬ s = ByteArray.empty := fun e => by rw [e] at h0; exact absurd h0 (by decide)
  clear h hd
  have q1 : ¬ (s.size : Int) < (i : Int) + 2 := by omega
  have q2 : (i : Int) + 2 ≤ (s.size : Int) := by omega
  have e1 : (s.extract i (i + 2)).toList = (s.data.toList.drop i).take 2 := by rw [extract_toList]; congr 1; omega
  have q3 : ((s.extract i (i + 2)).toList == [44, 32]) = true := by rw [e1]; simpa using hn
  clear hn e1
  have e2 : (s.extract (i + 2) s.size).toList = s.data.toList.drop (i + 2) := by rw [extract_toList]; exact List.take_of_length_le (by rw [List.length_drop, str_len]; exact Nat.le_refl _)
  have q5 : ((s.extract (i + 2) s.size).toList == [102, 111, 114, 101, 118, 101, 114, 41]) = false := by rw [e2]; simpa [forever] using hv
  have q6 : ¬ (s.extract (i + 2) s.size).toList = [102, 111, 114, 101, 118, 101, 114, 41] := by rw [e2]; simpa [forever] using hv
  clear hv e2
  have D2 := Lib.hid (fun w => digits_any s (i + 2) w hs hi2)
  rw [hd2] at D2
  have ec : (((i + 2 : Nat)) : Int) = (i : Int) + 2 := by omega
  rw [ec] at D2
  clear hd2 ec
  have e3 : (s.extract k s.size).toList = s.data.toList.drop k := by rw [extract_toList]; exact List.take_of_length_le (by rw [List.length_drop, str_len]; exact Nat.le_refl _)
  have q7 : ((s.extract k s.size).toList == [41]) = true := by rw [e3, ht]; decide
  clear ht e3
  go_enter Tryd.func21, Tryd.ntmps21
  go_wp2_with fail
  (with_reducible refine (D1.out _).mono ?_)
  rintro e w1 ⟨rfl, rfl⟩
  clear D1
  go_wp2_with fail
  (with_reducible refine (D2.out _).mono ?_)
  rintro e w1 ⟨rfl, rfl⟩
  clear D2
  go_wp2_with fail
  all_goals exact bodyPost_ret (v := .tuple #[.agg #[.int .i64 a, .int .i64 b], .int .i64 0]) (by simp [results, Tryd.results21, go_sem] <;> omega) rfl ⟨rfl, by first | exact (Below.refl _ _).alloc (Nat.le_refl _) _ | exact ((Below.refl _ _).alloc (Nat.le_refl _) _).setCell (by simp <;> omega) _ | exact (((Below.refl _ _).alloc (Nat.le_refl _) _).setCell (by simp <;> omega) _).setCell (by simp <;> omega) _⟩

theorem refParse_any (s : ByteArray) (w : World) (hs : s.size < 4294967281) :
    Calls Tryd.prog 21 #[.string s] w (Per3 (refP s.data.toList) w) := by
  unfold refP
  by_cases h0 : s.size = 0
  · have hnil : s.data.toList = [] := List.eq_nil_of_length_eq_zero (by rw [str_len]; exact h0)
    rw [hnil, if_pos (by simp)]
    exact refParse_empty s w (data_inj (by rw [hnil]))
  · have hpos : 0 < s.size := by omega
    rw [str_head s hpos]
    by_cases h : s[0].toNat = 91
    · rw [if_neg (by rw [show s[0] = 91 from UInt8.toNat_inj.1 h]; simp)]
      have hle := dgs_le s.data.toList 1
      rcases hd : dgs s.data.toList 1 with ⟨a, i⟩
      rw [hd] at hle
      simp only at hle ⊢
      by_cases hi : i < 0
      · rw [if_pos hi]; exact refParse_d1 s w hs hpos h a i hd hi
      · rw [if_neg hi]
        have hle := hle hi (by rw [str_len]; omega)
        rw [str_len] at hle
        obtain ⟨i, rfl⟩ := Int.eq_ofNat_of_zero_le (show 0 ≤ i by omega)
        rw [Int.toNat_natCast]
        by_cases hn : (s.data.toList.drop i).take 2 = [44, 32]
        · rw [if_neg (by simpa using hn)]
          have hi2 : i + 2 ≤ s.size := by
            have := congrArg List.length hn
            rw [List.length_take, List.length_drop, str_len] at this
            simp at this
            omega
          unfold refEnd
          by_cases hv : s.data.toList.drop (i + 2) = forever ++ [41]
          · rw [if_pos hv]
            by_cases ha : 1099511627776 ≤ a
            · rw [if_pos ha]; exact refParse_ev1 s w hs hpos h a i hd hi2 hn hv ha
            · rw [if_neg ha]; exact refParse_ev2 s w hs hpos h a i hd hi2 hn hv ha
          · rw [if_neg hv]
            have hle2 := dgs_le s.data.toList (i + 2)
            rcases hd2 : dgs s.data.toList (i + 2) with ⟨b, k⟩
            rw [hd2] at hle2
            simp only at hle2 ⊢
            by_cases hk : k < 0
            · rw [if_pos hk]; exact refParse_d2 s w hs hpos h a i hd hi2 hn hv b k hd2 hk
            · rw [if_neg hk]
              have hle2 := hle2 hk (by rw [str_len]; omega)
              rw [str_len] at hle2
              obtain ⟨k, rfl⟩ := Int.eq_ofNat_of_zero_le (show 0 ≤ k by omega)
              rw [Int.toNat_natCast]
              by_cases ht : s.data.toList.drop k = [41]
              · rw [if_neg (by simpa using ht)]
                by_cases hab : b ≤ a
                · rw [if_pos (.inl hab)]; exact refParse_r1 s w hs hpos h a i hd hi2 hn hv b k hd2 (by omega) ht hab
                · by_cases hb : 1099511627776 ≤ b
                  · rw [if_pos (.inr hb)]; exact refParse_r2 s w hs hpos h a i hd hi2 hn hv b k hd2 (by omega) ht hab hb
                  · rw [if_neg (by omega)]; exact refParse_ok s w hs hpos h a i hd hi2 hn hv b k hd2 (by omega) ht hab hb
              · rw [if_pos ht]; exact refParse_tail s w hs hpos h a i hd hi2 hn hv b k hd2 (by omega) ht
        · rw [if_pos hn]
          by_cases hi2 : i + 2 ≤ s.size
          · exact refParse_sep s w hs hpos h a i hd hi2 hn
          · exact refParse_short s w hs hpos h a i hd (by omega) (by omega)
    · rw [if_pos (fun he => h (by simp only [Option.some.injEq] at he; rw [he]; rfl))]
      exact refParse_head s w hpos h
end Go.Proofs.YtipngnejiddkdaaDoor
