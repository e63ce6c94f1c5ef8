/-
  Periods: the reference's numbers.
-/
import Derived.Test.YtipngnejiddkdaaDoorPerE
namespace Go.Proofs.YtipngnejiddkdaaDoor
open Go.RowKit Go.Lib

theorem dec_len : ∀ (k n : Nat), n < 10 ^ (k + 1) → (decDigits n).length ≤ k + 1
  | 0, n, h => by
    rw [decDigits, dif_pos (by simpa using h)]; simp
  | k + 1, n, h => by
    rw [decDigits]
    split
    · simp
    · rw [List.length_append]
      have := dec_len k (n / 10) (by rw [Nat.pow_succ] at h; omega)
      simp
      omega
def tenS : ByteArray := ⟨#[48, 49, 50, 51, 52, 53, 54, 55, 56, 57]⟩
theorem ten_piece {d : Nat} (h : d < 10) : (tenS.extract d (d + 1)).data.toList = [UInt8.ofNat (48 + d)] := by
  have hh : d = 0 ∨ d = 1 ∨ d = 2 ∨ d = 3 ∨ d = 4 ∨ d = 5 ∨ d = 6 ∨ d = 7 ∨ d = 8 ∨ d = 9 := by omega
  rcases hh with rfl | rfl | rfl | rfl | rfl | rfl | rfl | rfl | rfl | rfl <;> decide
theorem app_data (a b : ByteArray) : (a ++ b).data.toList = a.data.toList ++ b.data.toList := by simp
def NumbRel (N : Nat) (n s : Value) : Prop := ∃ (m : Nat) (S : ByteArray), n = .int .i64 m ∧ s = .string S ∧ decDigits m ++ S.data.toList = decDigits N ∧ m ≤ N
theorem data_inj {a b : ByteArray} (h : a.data.toList = b.data.toList) : a = b := by
  cases a; cases b; simp only at h; rw [Array.toList_inj.1 h]

set_option maxHeartbeats 1000000 in
theorem refNumber_any (N : Nat) (w : World) (hN : N ≤ 1099511627776) :
    Calls Tryd.prog 38 #[.int .i64 (N : Int)] w fun e w' => e = .returned (.string ⟨(decDigits N).toArray⟩) ∧ w = w' := by
  have hlen := dec_len 12 N (by omega)
  go_enter Tryd.func38, Tryd.ntmps38
  go_wp2
  go_loop [0, 3] (fun n s => NumbRel N n s) (fun n _ => (RowKit.intOf n).toNat)
  case atStart => exact ⟨N, ⟨#[]⟩, rfl, rfl, by simp, Nat.le_refl _⟩
  case round =>
    obtain ⟨m, S, rfl, rfl, hS, hm⟩ := hrel
    have hSl : S.size ≤ 13 := by
      have := congrArg List.length hS
      rw [List.length_append, str_len] at this
      omega
    by_cases hlt : m < 10
    · have h10 : ¬ (9 : Int) < (m : Int) := by omega
      have hp := ten_piece hlt
      have hE : ((tenS.extract m (m + 1)) ++ S) = ⟨(decDigits N).toArray⟩ := by
        apply data_inj
        rw [app_data, hp, ← hS, decDigits, dif_pos hlt]
      have HE := Lib.hid hE
      clear hp hE hS
      go_wp2
      go_ret
      exact ⟨congrArg (fun s => Ending.returned (.string s)) HE.out, rfl⟩
    · have h10 : (9 : Int) < (m : Int) := by omega
      have hd : m % 10 < 10 := by omega
      have hp := ten_piece hd
      have hE : decDigits (m / 10) ++ ((tenS.extract (m % 10) (m % 10 + 1)) ++ S).data.toList = decDigits N := by
        rw [app_data, hp, ← hS]
        conv => rhs; rw [decDigits, dif_neg hlt]
        simp
      have HE := Lib.hid hE
      clear hp hE hS
      go_wp2
      go_round
      case rel => exact ⟨m / 10, _, by go_num, rfl, HE.out, by omega⟩
      case measure => simp [RowKit.intOf]; omega

/-- what digits has read from the offset k to the offset j -/
def DigRel (s : ByteArray) (k : Nat) (n i : Value) : Prop := ∃ j : Nat, j ≤ s.size ∧ k ≤ j ∧ i = .int .i64 j ∧ n = .int .i64 ((capF 1099511627776 ((s.data.toList.drop k).take (j - k)) : Nat) : Int) ∧ ((s.data.toList.drop k).take (j - k)).all dig = true
theorem drop_snoc (s : ByteArray) (k j : Nat) (h1 : k ≤ j) (h2 : j < s.size) : (s.data.toList.drop k).take (j + 1 - k) = (s.data.toList.drop k).take (j - k) ++ [s[j]] := by
  have hl : j - k < (s.data.toList.drop k).length := by rw [List.length_drop, str_len]; omega
  rw [show j + 1 - k = (j - k) + 1 by omega, List.take_succ_eq_append_getElem hl]
  congr 2
  rw [List.getElem_drop]
  have : k + (j - k) = j := by omega
  simp only [this]
  rfl
theorem tw_take {l : List UInt8} {m : Nat} (h : (l.take m).all dig = true) (hn : ∀ c, (l.drop m).head? = some c → dig c = false) : l.takeWhile dig = l.take m := by
  conv => lhs; rw [← List.take_append_drop m l]
  exact tw_app (fun c hc => List.all_eq_true.1 h c hc) hn
def Two2 (r : Int × Int) (w : World) (e : Ending) (w' : World) : Prop := e = .returned (.tuple #[.int .i64 r.1, .int .i64 r.2]) ∧ w = w'
/-- what digits returns once it has stopped at the offset j -/
theorem dgs_end {s : ByteArray} {k j : Nat} (h1 : k ≤ j) (h2 : j ≤ s.size) (hall : ((s.data.toList.drop k).take (j - k)).all dig = true) (hn : ∀ (h : j < s.size), dig s[j] = false) :
    (s.data.toList.drop k).takeWhile dig = (s.data.toList.drop k).take (j - k) := by
  refine tw_take hall fun c hc => ?_
  rw [List.drop_drop, show k + (j - k) = j by omega] at hc
  by_cases hj : j < s.size
  · have hjl : j < s.data.toList.length := by rw [str_len]; exact hj
    rw [List.head?_drop, List.getElem?_eq_getElem hjl, Option.some.injEq] at hc
    rw [← hc]; exact hn hj
  · rw [List.drop_eq_nil_of_le (by rw [str_len]; omega)] at hc
    cases hc
theorem dgs_none {s : ByteArray} {k j : Nat} (h1 : k ≤ j) (h2 : j ≤ s.size) (ht : (s.data.toList.drop k).takeWhile dig = (s.data.toList.drop k).take (j - k)) (hb : j = k ∨ (k < s.size ∧ (∀ h : k < s.size, s[k].toNat = 48) ∧ k + 1 < j)) : dgs s.data.toList k = (0, -1) := by
  unfold dgs
  rw [ht]
  refine if_neg fun hg => ?_
  rw [goodN_iff] at hg
  rcases hb with rfl | ⟨hk, h48, hj⟩
  · exact hg.1 (by simp)
  · refine hg.2.2 ⟨?_, ?_⟩
    · have hkl : k < s.data.toList.length := by rw [str_len]; exact hk
      rw [List.head?_take, if_neg (by omega), List.head?_drop, List.getElem?_eq_getElem hkl]
      have : s.data.toList[k] = s[k] := rfl
      rw [this, show s[k] = 48 from UInt8.toNat_inj.1 (h48 hk)]
    · rw [List.length_take, List.length_drop, str_len]; omega
theorem dgs_some {s : ByteArray} {k j : Nat} (h1 : k < j) (h2 : j ≤ s.size) (hall : ((s.data.toList.drop k).take (j - k)).all dig = true) (ht : (s.data.toList.drop k).takeWhile dig = (s.data.toList.drop k).take (j - k)) (hb : ¬ ((∀ h : k < s.size, s[k].toNat = 48) ∧ k + 1 < j)) :
    dgs s.data.toList k = (((capF 1099511627776 ((s.data.toList.drop k).take (j - k)) : Nat) : Int), (j : Int)) := by
  have hlen : ((s.data.toList.drop k).take (j - k)).length = j - k := by rw [List.length_take, List.length_drop, str_len]; omega
  unfold dgs
  rw [ht, if_pos, hlen]
  · have : k + (j - k) = j := by omega
    rw [this]
  · rw [goodN_iff]
    refine ⟨fun he => by rw [he] at hlen; simp at hlen; omega, fun c hc => List.all_eq_true.1 hall c hc, fun ⟨ha, hl⟩ => hb ⟨fun hk => ?_, by omega⟩⟩
    have hkl : k < s.data.toList.length := by rw [str_len]; exact hk
    rw [List.head?_take, if_neg (by omega), List.head?_drop, List.getElem?_eq_getElem hkl, Option.some.injEq] at ha
    have : s.data.toList[k] = s[k] := rfl
    rw [← this, ha]; rfl

set_option maxRecDepth 100000 in
set_option maxHeartbeats 1000000 in
theorem digits_any (s : ByteArray) (k : Nat) (w : World) (hs : s.size < 4294967281) (hk : k ≤ s.size) :
    Calls Tryd.prog 39 #[.string s, .int .i64 (k : Int)] w (Two2 (dgs s.data.toList k) w) := by
  generalize hr : dgs s.data.toList k = r
  have HR := Lib.hid hr
  clear hr
  go_enter Tryd.func39, Tryd.ntmps39
  go_wp2
  go_loop [6, 7] (fun n i => DigRel s k n i) (fun _ i => s.size - (RowKit.intOf i).toNat)
  case atStart => exact ⟨k, hk, Nat.le_refl _, rfl, by simp [capF], by simp⟩
  case round =>
    obtain ⟨j, hj, hkj, rfl, rfl, hall⟩ := hrel
    have hcap := cap_le 1099511627776 ((s.data.toList.drop k).take (j - k))
    by_cases hgo : ∃ h : j < s.size, 48 ≤ s[j].toNat ∧ s[j].toNat ≤ 57
    · obtain ⟨hlt, hd⟩ := hgo
      have hsn := cap_snoc 1099511627776 ((s.data.toList.drop k).take (j - k)) s[j]
      rw [← drop_snoc s k j hkj hlt] at hsn
      have hal : ((s.data.toList.drop k).take (j + 1 - k)).all dig = true := by
        rw [drop_snoc s k j hkj hlt, List.all_append, hall]
        simp only [List.all_cons, List.all_nil, Bool.and_true, Bool.true_and]
        unfold dig; rw [decide_eq_true_eq]; exact hd
      have HS := Lib.hid hsn
      have HAL := Lib.hid hal
      clear hsn hal hall HR
      have d1 : (48 : Int) ≤ (s[j].toNat : Int) := by omega
      have d2 : (s[j].toNat : Int) ≤ 57 := by omega
      generalize capF 1099511627776 ((s.data.toList.drop k).take (j - k)) = N at *
      by_cases hF : (N : Int) < 1099511627776
      · clear hcap
        go_wp2
        all_goals
          go_round
          case rel => exact ⟨j + 1, by omega, by omega, by go_num, by rw [HS.out]; congr 1; omega, HAL.out⟩
          case measure => simp [RowKit.intOf]; omega
      · have HC := Lib.hid hcap
        clear hcap
        go_wp2
        all_goals
          go_round
          case rel => exact ⟨j + 1, by omega, by omega, by go_num, by rw [HS.out]; congr 1; have := HC.out; omega, HAL.out⟩
          case measure => simp [RowKit.intOf]; omega
    · have hn : ∀ h : j < s.size, dig s[j] = false := fun h => by unfold dig; rw [decide_eq_false_iff_not]; exact fun hd => hgo ⟨h, hd⟩
      have ht := dgs_end hkj hj hall hn
      have hout : (¬ j < s.size) ∨ (∃ h : j < s.size, (s[j].toNat : Int) < 48) ∨ (∃ h : j < s.size, ¬ (s[j].toNat : Int) < 48 ∧ (57 : Int) < (s[j].toNat : Int)) := by
        by_cases h : j < s.size
        · have h' : ¬ (48 ≤ s[j].toNat ∧ s[j].toNat ≤ 57) := fun hd => hgo ⟨h, hd⟩
          by_cases h48 : (s[j].toNat : Int) < 48
          · exact .inr (.inl ⟨h, h48⟩)
          · exact .inr (.inr ⟨h, h48, by omega⟩)
        · exact .inl h
      by_cases hjk : j = k
      · have hr := (dgs_none hkj hj ht (.inl hjk)).symm.trans HR.out
        obtain rfl := hr
        subst hjk
        clear HR ht hn hgo hall
        rcases hout with ho | ⟨ho, o1⟩ | ⟨ho, o1, o2⟩
        all_goals
          go_wp2
          go_ret2
          exact ⟨rfl, rfl⟩
      · have hkj' : k < j := by omega
        have hks : k < s.size := by omega
        by_cases h48 : s[k].toNat = 48
        · have b1 : ((s[k].toNat : Int) == 48) = true := by rw [h48]; rfl
          by_cases hmore : k + 1 < j
          · have hr := (dgs_none hkj hj ht (.inr ⟨hks, fun _ => h48, hmore⟩)).symm.trans HR.out
            obtain rfl := hr
            clear HR ht hn hgo hall h48
            rcases hout with ho | ⟨ho, o1⟩ | ⟨ho, o1, o2⟩
            all_goals
              go_wp2
              go_ret2
              exact ⟨rfl, rfl⟩
          · have hr := (dgs_some hkj' hj hall ht (fun h => hmore h.2)).symm.trans HR.out
            obtain rfl := hr
            clear HR ht hn hgo hall h48
            have hm' : ¬ ((k : Int) + 1 < (j : Int)) := by omega
            have hm2 : (j : Int) ≤ (k : Int) + 1 := by omega
            generalize capF 1099511627776 ((s.data.toList.drop k).take (j - k)) = N at *
            rcases hout with ho | ⟨ho, o1⟩ | ⟨ho, o1, o2⟩
            all_goals
              go_wp2
              go_ret2
              exact ⟨rfl, rfl⟩
        · have b1 : ((s[k].toNat : Int) == 48) = false := by rw [beq_eq_false_iff_ne]; omega
          have hr := (dgs_some hkj' hj hall ht (fun h => h48 (h.1 hks))).symm.trans HR.out
          obtain rfl := hr
          clear HR ht hn hgo hall h48
          generalize capF 1099511627776 ((s.data.toList.drop k).take (j - k)) = N at *
          rcases hout with ho | ⟨ho, o1⟩ | ⟨ho, o1, o2⟩
          all_goals
            go_wp2
            go_ret2
            exact ⟨rfl, rfl⟩
end Go.Proofs.YtipngnejiddkdaaDoor
