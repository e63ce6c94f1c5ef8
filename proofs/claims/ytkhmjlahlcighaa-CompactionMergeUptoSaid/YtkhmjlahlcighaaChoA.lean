/-
  Which range is chosen: the walks.
-/
import Derived.Test.YtkhmjlahlcighaaChoPure
namespace Go.Proofs.Ytkhmjlahlcighaa
open Go.RowKit Go.Lib Go.IntWalk Go.Sort Go.Shelf

def iv (l : List Int) : List Value := l.map (.int .i64)
/-- v is a slice of integers -/
def RdI (w : World) (F : Nat → Prop) (v : Value) (l : List Int) : Prop := Rd w F 1 v l.length (iv l)
theorem RdI.at_ {w : World} {F : Nat → Prop} {A : Option Addr} {c : Nat} {l : List Int} (h : RdI w F (.slice A l.length c) l) {k : Nat} (hk : k < l.length) :
    ∃ b off, A = some ⟨b, off, none⟩ ∧ F b ∧ w.cell? ⟨b, off + k, none⟩ = some (.int .i64 l[k]) := by
  obtain ⟨b, off, rfl, hF, hc⟩ := Rd.plain h (by omega) (by omega)
  exact ⟨b, off, rfl, hF, hc k _ (by rw [iv, List.getElem?_map, List.getElem?_eq_getElem hk]; rfl)⟩
theorem RdI.keep {w w' : World} {F : Nat → Prop} {v : Value} {l : List Int} (h : RdI w F v l) (hk : Keeps F w w') : RdI w' F v l := Rd.keep h hk
/-- small enough -/
def SmallI (l : List Int) : Prop := l.length ≤ 60 ∧ ∀ x ∈ l, x ≤ 1099511627776
theorem SmallI.seg {l : List Int} (h : SmallI l) (i j : Nat) (hj : j ≤ l.length) : 0 ≤ maxP (seg l i j) ∧ maxP (seg l i j) ≤ sumP (seg l i j) ∧ sumP (seg l i j) ≤ 65970697666560 := by
  have := sumP_bd (Go.Proofs.Ytkhmjlahlcighaa.seg l i j) (fun x hx => h.2 x (seg_mem hx))
  rw [seg_length l i j hj] at this
  have h1 := h.1
  refine ⟨this.1, this.2.1, ?_⟩
  omega

set_option maxRecDepth 1000000 in
set_option maxHeartbeats 2000000 in
theorem choose_any (v : Value) (l : List Int) (w : World) (F : Nat → Prop) (hv : RdI w F v l) (hs : SmallI l) :
    Calls Try.prog 6 #[v] w fun e w' => ∃ a b : Nat, e = .returned (.tuple #[.int .i64 (a : Int), .int .i64 (b : Int)]) ∧ Best l (fun _ _ => True) a b ∧ w' = w := by
  obtain ⟨A, c, rfl, hc1, hc2, hc3⟩ := Rd.open_ hv
  unfold maxLen at hc2
  have hlen := hs.1
  have HVS := Lib.hid hv
  have HS := Lib.hid hs
  clear hv hs
  go_enter Try.func6, Try.ntmps6
  go_wp2_with fail
  go_loopw [4, 5, 13] (fun va vb vi wr => ∃ a b i : Nat, va = .int .i64 (a : Int) ∧ vb = .int .i64 (b : Int) ∧ vi = .int .i64 (i : Int) ∧ i ≤ l.length ∧ a ≤ i ∧ a ≤ b ∧ b ≤ l.length ∧ Hid (Best l (Seen i i) a b) ∧ wr = w) (fun _ _ vi _ => l.length - (intOf vi).toNat)
  case atStart => exact ⟨0, 0, 0, rfl, rfl, rfl, Nat.zero_le _, Nat.zero_le _, Nat.zero_le _, Nat.zero_le _, Lib.hid (best_start l), rfl⟩
  case round =>
    obtain ⟨a, b, i, rfl, rfl, rfl, hi, ha, hab, hb, HB, hw⟩ := hrel
    rw [hw]
    clear hw
    by_cases hlt : i < l.length
    case neg =>
      have hie : i = l.length := by omega
      have HBB : Hid (Best l (fun _ _ => True) a b) := Lib.hid (best_all (by have := HB.out; rwa [hie] at this))
      clear HB hie
      go_wp2_with fail
      go_ret2
      exact ⟨a, b, rfl, HBB.out, rfl⟩
    case pos =>
      go_wp2_with fail
      go_loopw [4, 5, 7, 8, 9] (fun va vb vs vg vj wr => ∃ a b j : Nat, ∃ sm gr : Int, va = .int .i64 (a : Int) ∧ vb = .int .i64 (b : Int) ∧ vs = .int .i64 sm ∧ vg = .int .i64 gr ∧ vj = .int .i64 (j : Int) ∧ i ≤ j ∧ j ≤ l.length ∧ a ≤ i ∧ a ≤ b ∧ b ≤ l.length ∧ Hid (sm = sumP (seg l i j)) ∧ Hid (gr = maxP (seg l i j)) ∧ Hid (Best l (Seen i j) a b) ∧ wr = w) (fun _ _ _ _ vj _ => l.length - (intOf vj).toNat)
      case atStart => exact ⟨a, b, i, 0, 0, rfl, rfl, rfl, rfl, rfl, Nat.le_refl _, hi, ha, hab, hb, Lib.hid (by rw [seg_self]; rfl), Lib.hid (by rw [seg_self]; rfl), HB, rfl⟩
      case round =>
        obtain ⟨a, b, j, sm, gr, rfl, rfl, rfl, rfl, rfl, hij, hj, ha, hab, hb, HSM, HGR, HB, hw⟩ := hrel
        rw [hw]
        clear hw
        by_cases hlt2 : j < l.length
        case neg =>
          have hje : j = l.length := by omega
          have HBB : Hid (Best l (Seen (i + 1) (i + 1)) a b) := Lib.hid (best_row (by have := HB.out; rwa [hje] at this))
          clear HB hje HSM HGR
          go_wp2_with fail
          go_roundw
          case rel => exact ⟨a, b, i + 1, rfl, rfl, by go_num, by omega, by omega, hab, hb, HBB, by first | rfl | trivial⟩
          case measure => simp [intOf]; omega
        case pos =>
          obtain ⟨bb, off, rfl, hF, hc⟩ := RdI.at_ HVS.out hlt2
          have hsn := seg_snoc l i j hij hlt2
          have hbd := HS.out.seg i j (by omega)
          have hbd2 := HS.out.seg i (j + 1) (by omega)
          have hxm : l[j] ≤ 1099511627776 := HS.out.2 _ (List.getElem_mem hlt2)
          have hs1 : sumP (seg l i (j + 1)) = sm + max 0 l[j] := by rw [hsn, sumP_snoc, HSM.out]
          have hg1 : maxP (seg l i (j + 1)) = max gr (max 0 l[j]) := by rw [hsn, maxP_snoc, HGR.out]
          have hbi := Bal.iff (l := l) hij hlt2
          rw [← HSM.out, ← HGR.out] at hbd
          rw [hs1, hg1] at hbd2 hbi
          have HS1 := Lib.hid hs1
          have HG1 := Lib.hid hg1
          clear hsn hs1 hg1 HSM HGR
          generalize l[j] = x at *
          obtain ⟨m, hm⟩ : ∃ m, m = max 0 x := ⟨_, rfl⟩
          rw [← hm] at hbd2 hbi HS1 HG1
          obtain ⟨g2, hg2⟩ : ∃ g2, g2 = max gr m := ⟨_, rfl⟩
          rw [← hg2] at hbd2 hbi HG1
          have hm0 : 0 ≤ m ∧ m ≤ 1099511627776 := by omega
          have HBI := Lib.hid hbi
          clear hbi
          have HM := Lib.hid hm
          have HG2 := Lib.hid hg2
          have hy : Bal l i (j + 1) → b - a < j + 1 - i → Best l (Seen i (j + 1)) i (j + 1) := fun h1 h2 => best_yes HB.out h1 h2
          have hn : (Bal l i (j + 1) → j + 1 - i ≤ b - a) → Best l (Seen i (j + 1)) a b := fun h => best_no HB.out ha h
          have HY := Lib.hid hy
          have HN := Lib.hid hn
          clear hy hn HB
          have hH1 : sm + max 0 x = sumP (seg l i (j + 1)) := by rw [HS1.out, HM.out]
          have hH2 : max gr (max 0 x) = maxP (seg l i (j + 1)) := by rw [HG1.out, HG2.out, HM.out]
          have HH1 := Lib.hid hH1
          have HH2 := Lib.hid hH2
          clear hH1 hH2
          go_wp2_with fail
          all_goals first
            | exact ⟨⟨a, b, j + 1, _, _, rfl, rfl, rfl, rfl, by go_num, by omega, by omega, ha, hab, hb, HH1, HH2, Lib.hid (HN.out (fun h => by have := HBI.out.1 h; omega)), by first | rfl | trivial⟩, by simp [intOf]; omega⟩
            | exact ⟨⟨i, j + 1, j + 1, _, _, rfl, by go_num, rfl, rfl, by go_num, by omega, by omega, by omega, by omega, by omega, HH1, HH2, Lib.hid (HY.out (HBI.out.2 (by omega)) (by omega)), by first | rfl | trivial⟩, by simp [intOf]; omega⟩

set_option maxRecDepth 1000000 in
set_option maxHeartbeats 2000000 in
theorem balanced_any (v : Value) (l : List Int) (w : World) (F : Nat → Prop) (hv : RdI w F v l) (hs : SmallI l) :
    Calls Try.prog 8 #[v] w fun e w' => e = .returned (.bool (balP l)) ∧ w' = w := by
  obtain ⟨A, c, rfl, hc1, hc2, hc3⟩ := Rd.open_ hv
  unfold maxLen at hc2
  have hlen := hs.1
  have HVS := Lib.hid hv
  have HS := Lib.hid hs
  have hbd0 := hs.seg 0 l.length (Nat.le_refl _)
  have e0 : seg l 0 l.length = l := by simp [seg]
  rw [e0] at hbd0
  have HBL : Hid (balP l = (decide (2 ≤ l.length) && decide (maxP l ≤ sumP l - maxP l))) := Lib.hid rfl
  generalize balP l = r at *
  clear hv hs e0
  go_enter Try.func8, Try.ntmps8
  go_wp2_with fail
  go_loopw [3, 4, 9] (fun vs vg vj wr => ∃ j : Nat, ∃ sm gr : Int, vs = .int .i64 sm ∧ vg = .int .i64 gr ∧ vj = .int .i64 (j : Int) ∧ j ≤ l.length ∧ Hid (sm = sumP (seg l 0 j)) ∧ Hid (gr = maxP (seg l 0 j)) ∧ wr = w) (fun _ _ vj _ => l.length - (intOf vj).toNat)
  case atStart => exact ⟨0, 0, 0, rfl, rfl, rfl, Nat.zero_le _, Lib.hid (by rw [seg_self]; rfl), Lib.hid (by rw [seg_self]; rfl), rfl⟩
  case round =>
    obtain ⟨j, sm, gr, rfl, rfl, rfl, hj, HSM, HGR, hw⟩ := hrel
    rw [hw]
    clear hw
    by_cases hlt2 : j < l.length
    case neg =>
      have hje : j = l.length := by omega
      have e0 : seg l 0 l.length = l := by simp [seg]
      have hsm := HSM.out
      have hgr := HGR.out
      rw [hje, e0] at hsm hgr
      rw [← hsm, ← hgr] at hbd0
      have HB2 := HBL.out
      rw [← hsm, ← hgr] at HB2
      have HBL2 := Lib.hid HB2
      clear HSM HGR hsm hgr HB2 HBL hje e0
      by_cases h2 : 2 ≤ l.length
      case neg =>
        have HR : Hid (r = false) := Lib.hid (by rw [HBL2.out]; simp [h2])
        have hz : ¬ (2 : Int) ≤ (l.length : Int) := by omega
        go_wp2_with fail
        all_goals go_ret
        all_goals exact ⟨ret_bool HR.out.symm, rfl⟩
      case pos =>
        have hz : (2 : Int) ≤ (l.length : Int) := by omega
        have HR : Hid (r = decide (gr ≤ sm - gr)) := Lib.hid (by rw [HBL2.out]; simp [h2])
        by_cases h3 : gr ≤ sm - gr
        case pos =>
          have HR2 : Hid (r = true) := Lib.hid (by rw [HR.out]; exact decide_eq_true h3)
          clear HR
          go_wp2_with fail
          all_goals go_ret
          all_goals exact ⟨ret_bool (by first | exact HR2.out.symm | (rw [HR2.out]; simp; omega)), rfl⟩
        case neg =>
          have HR2 : Hid (r = false) := Lib.hid (by rw [HR.out]; exact decide_eq_false h3)
          clear HR
          go_wp2_with fail
          all_goals go_ret
          all_goals exact ⟨ret_bool (by first | exact HR2.out.symm | (rw [HR2.out]; simp; omega)), rfl⟩
    case pos =>
      obtain ⟨bb, off, rfl, hF, hc⟩ := RdI.at_ HVS.out hlt2
      have hsn := seg_snoc l 0 j (Nat.zero_le _) hlt2
      have hbd := HS.out.seg 0 j (by omega)
      have hbd2 := HS.out.seg 0 (j + 1) (by omega)
      have hs1 : sumP (seg l 0 (j + 1)) = sm + max 0 l[j] := by rw [hsn, sumP_snoc, HSM.out]
      have hg1 : maxP (seg l 0 (j + 1)) = max gr (max 0 l[j]) := by rw [hsn, maxP_snoc, HGR.out]
      rw [← HSM.out, ← HGR.out] at hbd
      rw [hs1, hg1] at hbd2
      have HS1 := Lib.hid hs1
      have HG1 := Lib.hid hg1
      clear hsn hs1 hg1 HSM HGR
      generalize l[j] = x at *
      have hh1 : sm + max x 0 = sumP (seg l 0 (j + 1)) := by rw [HS1.out, Int.max_comm]
      have hh2 : max gr x = maxP (seg l 0 (j + 1)) := by rw [HG1.out]; omega
      have HH1 := Lib.hid hh1
      have HH2 := Lib.hid hh2
      clear hh1 hh2 HS1 HG1
      go_wp2_with fail
      go_roundw
      case rel => exact ⟨j + 1, _, _, rfl, rfl, by go_num, by omega, HH1, HH2, by first | rfl | trivial⟩
      case measure => simp [intOf]; omega
end Go.Proofs.Ytkhmjlahlcighaa
