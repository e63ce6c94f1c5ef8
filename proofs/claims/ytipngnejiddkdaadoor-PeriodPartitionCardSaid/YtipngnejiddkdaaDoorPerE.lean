/-
  Periods: the numbers in texts, of the program and of the reference.
-/
import Derived.Test.YtipngnejiddkdaaDoorChecked
import Derived.Test.YtipngnejiddkdaaDoorPerD
import Derived.Test.YtipngnejiddkdaaDoorPerParse
import Derived.Test.YtipngnejiddkdaaDoorShelf
namespace Go.Proofs.YtipngnejiddkdaaDoor
open Go.RowKit Go.Lib

theorem take_snoc (s : ByteArray) (k : Nat) (h : k < s.size) : s.data.toList.take (k + 1) = s.data.toList.take k ++ [s[k]] := by
  rw [List.take_succ_eq_append_getElem (by simpa using h)]; rfl
theorem str_len (s : ByteArray) : s.data.toList.length = s.size := by rw [Array.length_toList]; rfl
theorem str_mem (s : ByteArray) (k : Nat) (h : k < s.size) : s[k] ∈ s.data.toList := by
  have : s.data.toList[k]'(by simpa using h) = s[k] := rfl
  rw [← this]; exact List.getElem_mem _
theorem str_head (s : ByteArray) (h : 0 < s.size) : s.data.toList.head? = some s[0] := by
  have : s.data.toList[0]'(by simpa using h) = s[0] := rfl
  rw [← this, List.head?_eq_getElem?, List.getElem?_eq_getElem]
def NumRel (s : ByteArray) (n i : Value) : Prop := ∃ k : Nat, k ≤ s.size ∧ i = .int .i64 k ∧ n = .int .i64 (capF 1099511627777 (s.data.toList.take k) : Nat) ∧ (s.data.toList.take k).all dig = true
def Num2 (r : Int × Bool) (w : World) (e : Ending) (w' : World) : Prop := e = .returned (.tuple #[.int .i64 r.1, .bool r.2]) ∧ w = w'

set_option maxHeartbeats 1000000 in
theorem number_any (s : ByteArray) (w : World) (hs : s.size < 4294967281) :
    Calls Tryd.prog 37 #[.string s] w (Num2 (numB s.data.toList) w) := by
  by_cases h0 : s.size = 0
  · obtain rfl : s = ⟨#[]⟩ := by
      have : s.data.toList = [] := List.eq_nil_of_length_eq_zero (by rw [str_len]; exact h0)
      have h2 : s.data = #[] := by apply Array.toList_inj.1; rw [this]
      cases s; simp at h2; rw [h2]
    have hr : numB (⟨#[]⟩ : ByteArray).data.toList = (0, false) := by decide
    rw [hr]
    clear h0 hs hr
    go_enter Tryd.func37, Tryd.ntmps37
    go_wp2
    go_ret2
    exact ⟨rfl, rfl⟩
  · have hpos : 0 < s.size := by omega
    have hne : s.data.toList ≠ [] := fun h => h0 (by rw [← str_len, h]; rfl)
    have hne1 : s.toList = [] ↔ False := by rw [ByteArray.toList_eq]; simpa using hne
    have hne2 : s.toList.isEmpty = false := by rw [ByteArray.toList_eq]; cases h : s.data.toList <;> simp_all
    have hhead := str_head s hpos
    by_cases h1 : s[0].toNat = 48 ∧ 1 < s.size
    · have hr : numB s.data.toList = (0, false) := numB_bad (fun hg => ((goodN_iff _).1 hg).2.2 ⟨by rw [hhead, show s[0] = 48 from UInt8.toNat_inj.1 h1.1], by rw [str_len]; exact h1.2⟩)
      rw [hr]
      have b1 : ((s[0].toNat : Int) == 48) = true := by rw [h1.1]; rfl
      have b2 : 1 < s.size := h1.2
      clear hr hhead hne h0 h1
      go_enter Tryd.func37, Tryd.ntmps37
      go_wp2
      go_ret2
      exact ⟨rfl, rfl⟩
    · have hC : (((s[0].toNat : Int) == 48) = true ∧ ¬ 1 < s.size) ∨ ((s[0].toNat : Int) == 48) = false := by
        by_cases hh : s[0].toNat = 48
        · exact .inl ⟨by rw [hh]; rfl, fun h => h1 ⟨hh, h⟩⟩
        · exact .inr (by rw [beq_eq_false_iff_ne]; omega)
      have hgood : s.data.toList.all dig = true → numB s.data.toList = (((capF 1099511627777 s.data.toList : Nat) : Int), true) := fun hall => by
        rw [numB, if_pos ((goodN_iff _).2 ⟨hne, fun c hc => List.all_eq_true.1 hall c hc, fun ⟨a, b⟩ => h1 ⟨by rw [hhead] at a; simp only [Option.some.injEq] at a; rw [a]; rfl, by rw [str_len] at b; exact b⟩⟩)]
      have hbad : ∀ k (hk : k < s.size), dig s[k] = false → numB s.data.toList = (0, false) := fun k hk hd =>
        numB_bad fun hg => by have := good_dig hg _ (str_mem s k hk); rw [hd] at this; cases this
      have HG := Lib.hid hgood
      have HB := Lib.hid hbad
      generalize numB s.data.toList = r at *
      clear hgood hbad hne h0 h1 hhead
      rcases hC with ⟨b1, b2⟩ | b1
      all_goals
        go_enter Tryd.func37, Tryd.ntmps37
        go_wp2
        go_loop [4, 20] (fun n i => NumRel s n i) (fun _ i => s.size - (RowKit.intOf i).toNat)
        case atStart => exact ⟨0, Nat.zero_le _, rfl, rfl, rfl⟩
        case round =>
          obtain ⟨k, hk, rfl, rfl, hall⟩ := hrel
          have hcap := cap_le 1099511627777 (s.data.toList.take k)
          by_cases hlt : k < s.size
          · have hsn := cap_snoc 1099511627777 (s.data.toList.take k) s[k]
            rw [← take_snoc s k hlt] at hsn
            have hal : dig s[k] = true → (s.data.toList.take (k + 1)).all dig = true := fun h => by rw [take_snoc s k hlt, List.all_append, hall]; simp [h]
            have hbk := HB.out k hlt
            have HS := Lib.hid hsn
            have HAL := Lib.hid hal
            have HBK := Lib.hid hbk
            clear hsn hal hbk hall
            generalize capF 1099511627777 (s.data.toList.take k) = N at *
            by_cases hd : 48 ≤ s[k].toNat ∧ s[k].toNat ≤ 57
            · have d1 : ¬ (s[k].toNat : Int) < 48 := by omega
              have d2 : ¬ (57 : Int) < (s[k].toNat : Int) := by omega
              have hdg := HAL.out (by unfold dig; rw [decide_eq_true_eq]; exact hd)
              have HDG := Lib.hid hdg
              clear hdg
              go_wp2
              all_goals
                go_round
                case rel => exact ⟨k + 1, by omega, by go_num, by rw [HS.out]; congr 1; omega, HDG.out⟩
                case measure => simp [RowKit.intOf]; omega
            · have hdg := HBK.out (by unfold dig; rw [decide_eq_false_iff_not]; exact hd)
              obtain rfl := hdg
              have d1 : (s[k].toNat : Int) < 48 ∨ (57 : Int) < (s[k].toNat : Int) := by omega
              clear hd HBK HAL HS HB HG
              rcases d1 with d1 | d1
              · go_wp2
                go_ret2
                exact ⟨rfl, rfl⟩
              · have d2 : ¬ (s[k].toNat : Int) < 48 := by omega
                go_wp2
                go_ret2
                exact ⟨rfl, rfl⟩
          · have hke : k = s.size := by omega
            have htk : s.data.toList.take k = s.data.toList := List.take_of_length_le (by rw [str_len]; omega)
            rw [htk] at hall hcap
            have hr := HG.out hall
            obtain rfl := hr
            have HT := Lib.hid htk
            clear hall htk hke HB HG
            go_wp2
            go_ret2
            exact ⟨by simp only [HT.out]; rfl, rfl⟩
end Go.Proofs.YtipngnejiddkdaaDoor
