/-
  The stable sort: symMerge with one element on the right.
-/
import Derived.Test.YtkhmjlahlcighaaStabD
namespace Go.Proofs.Ytkhmjlahlcighaa
open Go.RowKit Go.Lib Go.IntWalk Go.Sort Go.Shelf

theorem SWO.lt_le {α : Type} {lt : α → α → Bool} (S : SWO lt) {x y z : α} (h1 : lt x y = true) (h2 : lt z y = false) : lt x z = true := by
  rcases h : lt x z with _ | _
  · have := S.ntrans _ _ _ h h2
    rw [h1] at this; cases this
  · rfl
section
variable {α : Type} [Inhabited α]
/-- element m moved t places to the left -/
structure MovB (d : Array α) (a m t : Nat) (d' : Array α) : Prop where
  perm : PermIn a (m + 1) d d'
  hi : ∀ x, m - t < x → x ≤ m → d'[x]! = d[x - 1]!
  at_ : d'[m - t]! = d[m]!
  lo : ∀ x, a ≤ x → x < m - t → d'[x]! = d[x]!
theorem MovB.zero (d : Array α) (a m : Nat) : MovB d a m 0 d := ⟨permIn_refl _ _ _, fun x _ _ => by omega, rfl, fun _ _ _ => rfl⟩
theorem MovB.step {d d' : Array α} {a m t : Nat} (h : MovB d a m t d') (hb : m + 1 ≤ d.size) (ht : a + t < m) : MovB d a m (t + 1) (swp d' (m - t) (m - t - 1)) := by
  have hs := h.perm.1
  refine ⟨permIn_trans _ _ _ _ _ h.perm (swp_permIn _ _ _ _ _ (by omega) (by omega) (by omega) (by omega) (by omega)), fun x h1 h2 => ?_, ?_, fun x h1 h2 => ?_⟩
  · by_cases c : x = m - t
    · subst c
      rw [swp_left _ _ _ (by omega) (by omega), h.lo _ (by omega) (by omega)]
    · rw [swp_other _ _ _ _ c (by omega), h.hi x (by omega) h2]
  · rw [show m - (t + 1) = m - t - 1 from by omega, swp_right _ _ _ (by omega), h.at_]
  · rw [swp_other _ _ _ _ (by omega) (by omega), h.lo x h1 (by omega)]
theorem MovB.sorted {lt : α → α → Bool} {d d' : Array α} {a m i : Nat} (h : MovB d a m (m - i) d') (S : SWO lt) (hs : SortedIn lt a m d) (hi1 : a ≤ i) (hi2 : i ≤ m) (q1 : ∀ x, a ≤ x → x < i → lt d[m]! d[x]! = false) (q2 : ∀ x, i ≤ x → x < m → lt d[m]! d[x]! = true) : SortedIn lt a (m + 1) d' := by
  intro x y h1 h2 h3
  have ea : m - (m - i) = i := by omega
  have h4 := h.lo; have h5 := h.at_; have h6 := h.hi
  rw [ea] at h4 h5 h6
  by_cases c1 : y < i
  · rw [h4 x h1 (by omega), h4 y (by omega) c1]; exact hs _ _ h1 h2 (by omega)
  · by_cases c2 : y = i
    · subst c2
      rw [h4 x h1 h2, h5]; exact q1 x h1 h2
    · rw [h6 y (by omega) (by omega)]
      by_cases c3 : x < i
      · rw [h4 x h1 c3]; exact hs _ _ h1 (by omega) (by omega)
      · by_cases c4 : x = i
        · subst c4; rw [h5]; exact SWO.asym S (q2 _ (by omega) (by omega))
        · rw [h6 x (by omega) (by omega)]; exact hs _ _ (by omega) (by omega) (by omega)
end

set_option maxRecDepth 1000000 in
set_option maxHeartbeats 8000000 in
theorem sym2_any {α : Type} [Inhabited α] (enc : α → List Value) (k : Nat) (aE : ∀ w, (isAgg 38).run Try.prog w = .ok true w) (zE : ∀ w, (Go.sizeOf 38).run Try.prog w = .ok k w) (hk : ∀ x, (enc x).length = k) (h1 : ∀ x, ∀ v ∈ enc x, v.oneCell' = true) (cf : α → α → Int) (hcmp : CmpB enc cf) (S : SWO (ltOf cf))
    (blk off cap a m b sz : Nat) (d : Array α) (hz : d.size = sz) (w : World) (hH : HoldsK enc k w blk off d) (hblk : blk < w.heap.size) (ham : a < m) (hmb : m < b) (hb : b ≤ d.size) (hsz : d.size < 4611686018427387904) (hs1 : SortedIn (ltOf cf) a m d) (hs2 : SortedIn (ltOf cf) m b d) (h1m : b = m + 1) (hne1 : m ≠ a + 1) :
    Calls Try.prog 33 #[.slice (some ⟨blk, off, none⟩) sz cap, .int .i64 a, .int .i64 m, .int .i64 b, .func (.func 17) #[] #[]] w (SymOut (ltOf cf) enc k blk off a b d w) := by
  subst hz
  have HH : Hid (HoldsK enc k w blk off d) := hH
  have HK : Hid (∀ x, (enc x).length = k) := hk
  have H1 : Hid (∀ x, ∀ v ∈ enc x, v.oneCell' = true) := h1
  have HC : Hid (CmpB enc cf) := hcmp
  have mixed : Try.prog.follows .mixedOrders = true := by kernel_rfl
  have HS1 := Lib.hid hs1
  have HS2 := Lib.hid hs2
  clear hH hk h1 hcmp hs1 hs2
  subst h1m
  have em : IntKind.i64.wrap ((m : Int) - (a : Int)) = ((m - a : Nat) : Int) := by rw [IntKind.wrap_i64]; omega
  have em2 : IntKind.i64.wrap (((m + 1 : Nat) : Int) - (m : Int)) = 1 := by rw [IntKind.wrap_i64]; omega
  have hme : (((m - a : Nat) : Int) == 1) = false := by rw [beq_eq_false_iff_ne]; omega
  go_enter Try.func33, Try.ntmps33
  go_wp2_with fail
  go_loopw [14, 15] (fun vi vj wr => ∃ i j : Nat, vi = .int .i64 (i : Int) ∧ vj = .int .i64 (j : Int) ∧ a ≤ i ∧ i ≤ j ∧ j ≤ m ∧ Hid (∀ x, a ≤ x → x < i → ltOf cf d[m]! d[x]! = false) ∧ Hid (∀ x, j ≤ x → x < m → ltOf cf d[m]! d[x]! = true) ∧ Hid (HoldsK enc k wr blk off d) ∧ Below w.heap.size w wr) (fun vi vj _ => (RowKit.intOf vj).toNat - (RowKit.intOf vi).toNat)
  case atStart => exact ⟨a, m, by go_num, rfl, by omega, by omega, by omega, Lib.hid (fun x h1 h2 => by omega), Lib.hid (fun x h1 h2 => by omega), HH, Below.refl _ _⟩
  case round =>
    obtain ⟨i, j, rfl, rfl, hi, hij, hjb, Q1, Q2, HR, hB⟩ := hrel
    have hsr := hB.size
    by_cases hlt : i < j
    case pos =>
      obtain ⟨h, hh⟩ : ∃ h, h = (i + j) / 2 := ⟨_, rfl⟩
      have hh1 : i ≤ h := by omega
      have hh2 : h < j := by omega
      have HHH := Lib.hid hh
      clear hh
      have hx1 : h < d.size := by omega
      have hx2 : m < d.size := by omega
      have eh1 : IntKind.i64.wrap ((i : Int) + (j : Int)) = ((i + j : Nat) : Int) := by rw [IntKind.wrap_i64]; omega
      obtain ⟨xi, hxi⟩ : ∃ x, d[m]! = x := ⟨_, rfl⟩
      obtain ⟨xj, hxj⟩ : ∃ x, d[h]! = x := ⟨_, rfl⟩
      obtain ⟨cv, hcv⟩ : ∃ c, c = cf xi xj := ⟨_, rfl⟩
      have HCV := Lib.hid (show cv = cf d[m]! d[h]! from by rw [hxi, hxj]; exact hcv)
      have hcq := HC.out xi xj wr.drew
      rw [← hcv] at hcq
      have HXI := Lib.hid hxi
      have HXJ := Lib.hid hxj
      clear hcv hxi hxj
      go_wp2_with fail
      rw [show ((i : Int) + (j : Int)) / 2 = ((h : Nat) : Int) from by have := HHH.out; omega]
      refine wp_region_noPanic ?_
      refine wp_region_held_drew (S := (fun w' => Below wr.heap.size wr w')) (by kernel_rfl) ?_ (fun hHeld => ?_)
      · exact (Below.refl _ _).drew
      refine heldTake 0 (some 92) (v := ?_) rfl rfl (by kernel_rfl) (by kernel_rfl) (by kernel_rfl) (by rfl) hHeld (fun _ _ _ h => h) ?_ ?_
      rotate_left
      · intro w' hSw; (try dsimp only at hSw); go_simp <;> with_reducible rfl
      simp only [Act.put, List.setIfInBounds_toArray, List.set_cons_zero, List.set_cons_succ]
      refine heldTake 1 (some 93) (v := ?_) rfl rfl (by kernel_rfl) (by kernel_rfl) (by kernel_rfl) (by rfl) hHeld (fun _ _ _ h => h) ?_ ?_
      rotate_left
      · intro w' hSw; (try dsimp only at hSw); go_simp <;> with_reducible rfl
      simp only [Act.put, List.setIfInBounds_toArray, List.set_cons_zero, List.set_cons_succ]
      refine heldTake 2 (some 94) (v := ?_) rfl rfl (by kernel_rfl) (by kernel_rfl) (by kernel_rfl) (by rfl) hHeld (fun _ _ _ h => h) ?_ ?_
      rotate_left
      · intro w' hSw; (try dsimp only at hSw); go_simp <;> with_reducible rfl
      simp only [Act.put, List.setIfInBounds_toArray, List.set_cons_zero, List.set_cons_succ]
      refine heldTake 3 (some 95) (v := ?_) rfl rfl (by kernel_rfl) (by kernel_rfl) (by kernel_rfl) (by rfl) hHeld (fun _ _ _ h => h) ?_ ?_
      rotate_left
      · intro w' hSw; (try dsimp only at hSw); go_simp <;> with_reducible rfl
      simp only [Act.put, List.setIfInBounds_toArray, List.set_cons_zero, List.set_cons_succ]
      refine heldTake 4 (some 96) (v := ?_) rfl rfl (by kernel_rfl) (by kernel_rfl) (by kernel_rfl) (by rfl) hHeld (fun _ _ _ h => h) ?_ ?_
      rotate_left
      · intro w' hSw; (try dsimp only at hSw); have hH' := HoldsK.keep (HR.out) (hSw.block blk (by omega)); have la := load_elem HK.out hH' (i := m) (by omega); rw [HXI.out] at la; go_simp <;> with_reducible rfl
      simp only [Act.put, List.setIfInBounds_toArray, List.set_cons_zero, List.set_cons_succ]
      refine heldTake 5 (some 97) (v := ?_) rfl rfl (by kernel_rfl) (by kernel_rfl) (by kernel_rfl) (by rfl) hHeld (fun _ _ _ h => h) ?_ ?_
      rotate_left
      · intro w' hSw; (try dsimp only at hSw); go_simp <;> with_reducible rfl
      simp only [Act.put, List.setIfInBounds_toArray, List.set_cons_zero, List.set_cons_succ]
      refine heldTake 6 (some 98) (v := ?_) rfl rfl (by kernel_rfl) (by kernel_rfl) (by kernel_rfl) (by rfl) hHeld (fun _ _ _ h => h) ?_ ?_
      rotate_left
      · intro w' hSw; (try dsimp only at hSw); go_simp <;> with_reducible rfl
      simp only [Act.put, List.setIfInBounds_toArray, List.set_cons_zero, List.set_cons_succ]
      refine heldTake 7 (some 99) (v := ?_) rfl rfl (by kernel_rfl) (by kernel_rfl) (by kernel_rfl) (by rfl) hHeld (fun _ _ _ h => h) ?_ ?_
      rotate_left
      · intro w' hSw; (try dsimp only at hSw); go_simp <;> with_reducible rfl
      simp only [Act.put, List.setIfInBounds_toArray, List.set_cons_zero, List.set_cons_succ]
      refine heldTake 8 (some 100) (v := ?_) rfl rfl (by kernel_rfl) (by kernel_rfl) (by kernel_rfl) (by rfl) hHeld (fun _ _ _ h => h) ?_ ?_
      rotate_left
      · intro w' hSw; (try dsimp only at hSw); have hH' := HoldsK.keep (HR.out) (hSw.block blk (by omega)); have la := load_elem HK.out hH' (i := h) (by omega); rw [HXJ.out] at la; go_simp <;> with_reducible rfl
      simp only [Act.put, List.setIfInBounds_toArray, List.set_cons_zero, List.set_cons_succ]
      refine heldCall 9 (some 101) (f := ?_) (args := ?_) rfl rfl (by kernel_rfl) (by rfl) ?_ ?_
      rotate_left 2
      · go_simp <;> first | (constructor <;> with_reducible rfl) | with_reducible rfl
      (with_reducible refine hcq.mono ?_)
      rintro _ w2 ⟨rfl, hb2'⟩
      have hb2 : Below wr.heap.size wr w2 := Below.undrew hb2'
      have hs2 := hb2.size
      refine ⟨_, rfl, keepAnd ?_ (fun hNew => ?_)⟩
      · exact hb2
      clear hHeld
      have hHeld := hNew
      clear hNew
      simp only [Act.put, List.setIfInBounds_toArray, List.set_cons_zero, List.set_cons_succ]
      refine heldTake 10 (some 102) (v := ?_) rfl rfl (by kernel_rfl) (by kernel_rfl) (by kernel_rfl) (by rfl) hHeld (fun _ _ _ h => h) ?_ ?_
      rotate_left
      · intro w' hSw; (try dsimp only at hSw); go_simp <;> with_reducible rfl
      simp only [Act.put, List.setIfInBounds_toArray, List.set_cons_zero, List.set_cons_succ]
      refine heldTake 11 (some 103) (v := ?_) rfl rfl (by kernel_rfl) (by kernel_rfl) (by kernel_rfl) (by rfl) hHeld (fun _ _ _ h => h) ?_ ?_
      rotate_left
      · intro w' hSw; (try dsimp only at hSw); go_simp <;> with_reducible rfl
      simp only [Act.put, List.setIfInBounds_toArray, List.set_cons_zero, List.set_cons_succ]
      refine wpAnyH_done (by kernel_rfl) ?_ _
      refine NoPanic.normal ?_
      have hH2 : HoldsK enc k w2 blk off d := HoldsK.keep HR.out (hb2.block blk (by omega))
      have hB2 : Below w.heap.size w w2 := hB.trans (hb2.mono (by omega))
      clear hcq hHeld
      by_cases hlv : cv < 0
      case pos =>
        have HL : Hid (ltOf cf d[m]! d[h]! = true) := Lib.hid (by rw [ltOf, ← HCV.out]; exact decide_eq_true hlv)
        rw [show (!decide (cv < 0)) = false from by rw [decide_eq_true hlv]; rfl]
        go_wp2_with fail
        go_roundw
        case rel => exact ⟨i, h, rfl, rfl, hi, hh1, by omega, Q1, Lib.hid (fun x h1 h2 => SWO.lt_le S HL.out (SortedIn.le S HS1.out (i := h) (j := x) (by omega) h1 h2)), Lib.hid hH2, hB2⟩
        case measure => simp [RowKit.intOf]; omega
      case neg =>
        have HL : Hid (ltOf cf d[m]! d[h]! = false) := Lib.hid (by rw [ltOf, ← HCV.out]; exact decide_eq_false hlv)
        rw [show (!decide (cv < 0)) = true from by rw [decide_eq_false hlv]; rfl]
        go_wp2_with fail
        go_roundw
        case rel => exact ⟨h + 1, j, by go_num, rfl, by omega, by omega, hjb, Lib.hid (fun x h1 h2 => S.ntrans _ _ _ HL.out (SortedIn.le S HS1.out (i := x) (j := h) h1 (by omega) (by omega))), Q2, Lib.hid hH2, hB2⟩
        case measure => simp [RowKit.intOf]; omega
    case neg =>
      obtain rfl : i = j := by omega
      go_wp2_with fail
      go_loopw [17] (fun vk wr2 => ∃ (t : Nat) (dk : Array α), vk = .int .i64 ((m - t : Nat) : Int) ∧ t ≤ m - i ∧ dk.size = d.size ∧ Hid (MovB d a m t dk) ∧ Hid (HoldsK enc k wr2 blk off dk) ∧ Chg (· = blk) wr wr2) (fun vk _ => (RowKit.intOf vk).toNat)
      case atStart => exact ⟨0, d, rfl, by omega, rfl, Lib.hid (MovB.zero d a m), HR, Chg.refl _ _⟩
      case round =>
        obtain ⟨t, dk, rfl, hti, hsk, HM, HK', hC⟩ := hrel
        have hsq := hC.size
        by_cases hlt2 : i < m - t
        case pos =>
          have HMn := Lib.hid (HM.out.step (by omega) (by omega))
          obtain ⟨z, hz⟩ : ∃ z, m - t = z + 1 := ⟨m - t - 1, by omega⟩
          rw [hz, show z + 1 - 1 = z from by omega] at HMn
          rw [hz] at hlt2 ⊢
          have HZ := Lib.hid hz
          have hzs : z + 1 < d.size := by omega
          clear hz
          have jz : (i : Int) < (z : Int) + 1 := by omega
          have w1 : IntKind.i64.wrap (z : Int) = (z : Int) := by rw [IntKind.wrap_i64]; omega
          have b1 : (z : Int) + 1 < (d.size : Int) := by omega
          have b2 : (z : Int) < (d.size : Int) := by omega
          have p0 : (0 : Int) ≤ (z : Int) + 1 := by omega
          have e0 : ((z : Int) + 1).toNat = z + 1 := by omega
          have hHd : HoldsK enc k wr.drew blk off dk := HK'.out
          obtain ⟨la, lb, s1, s2, hN, hCN⟩ := swap_facts HK.out H1.out hHd (i := z + 1) (j := z) (by omega) (by omega)
          have hsA : (enc dk[z + 1]!).length = k := HK.out _
          have hsB : (enc dk[z]!).length = k := HK.out _
          have HN := Lib.hid hN
          have HCN := Lib.hid hCN
          clear hN hCN hHd
          generalize enc dk[z + 1]! = cA at la s2 hsA HN HCN
          generalize enc dk[z]! = cB at lb s1 s2 hsB HN HCN
          go_wp2_with fail
          go_big_region_o
          all_goals go_wp2_with fail
          go_roundw
          case rel => exact ⟨t + 1, _, by rw [show m - (t + 1) = z from by have := HZ.out; omega], by have := HZ.out; omega, by rw [size_swp]; exact hsk, HMn, HN, hC.drew.trans HCN.out (fun _ _ h => h)⟩
          case measure => simp [RowKit.intOf]
        case neg =>
          obtain rfl : t = m - i := by omega
          have jz : ¬ (i : Int) < ((m - (m - i) : Nat) : Int) := by omega
          go_wp2_with fail
          go_end0
          refine ⟨rfl, dk, HM.out.perm, HM.out.sorted S HS1.out hi hjb Q1.out Q2.out, HK'.out, (Chg.of_below hB _).trans hC (fun _ _ h => h)⟩
end Go.Proofs.Ytkhmjlahlcighaa
