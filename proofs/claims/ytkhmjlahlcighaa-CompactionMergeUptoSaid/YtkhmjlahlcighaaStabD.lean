/-
  The stable sort: symMerge with one element on one side.
-/
import Derived.Test.YtkhmjlahlcighaaStabC
namespace Go.Proofs.Ytkhmjlahlcighaa
open Go.RowKit Go.Lib Go.IntWalk Go.Sort Go.Shelf

section
variable {α : Type} [Inhabited α]
def SymOut (lt : α → α → Bool) (enc : α → List Value) (k blk off a b : Nat) (d : Array α) (w0 : World) (e : Ending) (w : World) : Prop :=
  e = .returned (.tuple #[]) ∧ ∃ d', PermIn a b d d' ∧ SortedIn lt a b d' ∧ HoldsK enc k w blk off d' ∧ Chg (· = blk) w0 w
/-- element a moved t places to the right -/
structure MovF (d : Array α) (a b t : Nat) (d' : Array α) : Prop where
  perm : PermIn a b d d'
  lo : ∀ x, a ≤ x → x < a + t → d'[x]! = d[x + 1]!
  at_ : d'[a + t]! = d[a]!
  hi : ∀ x, a + t < x → x < b → d'[x]! = d[x]!
theorem MovF.zero (d : Array α) (a b : Nat) : MovF d a b 0 d := ⟨permIn_refl _ _ _, fun x _ _ => by omega, rfl, fun _ _ _ => rfl⟩
theorem MovF.step {d d' : Array α} {a b t : Nat} (h : MovF d a b t d') (hb : b ≤ d.size) (ht : a + t + 1 < b) : MovF d a b (t + 1) (swp d' (a + t) (a + t + 1)) := by
  have hs := h.perm.1
  refine ⟨permIn_trans _ _ _ _ _ h.perm (swp_permIn _ _ _ _ _ (by omega) (by omega) (by omega) (by omega) (by omega)), fun x h1 h2 => ?_, ?_, fun x h1 h2 => ?_⟩
  · by_cases c : x = a + t
    · subst c
      rw [swp_left _ _ _ (by omega) (by omega), h.hi _ (by omega) (by omega)]
    · rw [swp_other _ _ _ _ c (by omega), h.lo x h1 (by omega)]
  · rw [show a + (t + 1) = a + t + 1 from rfl, swp_right _ _ _ (by omega), h.at_]
  · rw [swp_other _ _ _ _ (by omega) (by omega), h.hi x (by omega) h2]
theorem MovF.sorted {lt : α → α → Bool} {d d' : Array α} {a b i : Nat} (h : MovF d a b (i - 1 - a) d') (S : SWO lt) (hs : SortedIn lt (a + 1) b d) (hi1 : a + 1 ≤ i) (hi2 : i ≤ b) (q1 : ∀ x, a + 1 ≤ x → x < i → lt d[x]! d[a]! = true) (q2 : ∀ x, i ≤ x → x < b → lt d[x]! d[a]! = false) : SortedIn lt a b d' := by
  intro x y h1 h2 h3
  have ea : a + (i - 1 - a) = i - 1 := by omega
  have h4 := h.lo; have h5 := h.at_; have h6 := h.hi
  rw [ea] at h4 h5 h6
  by_cases c1 : y < i - 1
  · rw [h4 x h1 (by omega), h4 y (by omega) c1]; exact hs _ _ (by omega) (by omega) (by omega)
  · by_cases c2 : y = i - 1
    · subst c2
      rw [h4 x h1 h2, h5]; exact SWO.asym S (q1 _ (by omega) (by omega))
    · rw [h6 y (by omega) h3]
      by_cases c3 : x < i - 1
      · rw [h4 x h1 c3]; exact hs _ _ (by omega) (by omega) h3
      · by_cases c4 : x = i - 1
        · subst c4; rw [h5]; exact q2 y (by omega) h3
        · rw [h6 x (by omega) (by omega)]; exact hs _ _ (by omega) h2 h3
end

set_option maxRecDepth 1000000 in
set_option maxHeartbeats 8000000 in
theorem sym1_any {α : Type} [Inhabited α] (enc : α → List Value) (k : Nat) (aE : ∀ w, (isAgg 38).run Try.prog w = .ok true w) (zE : ∀ w, (Go.sizeOf 38).run Try.prog w = .ok k w) (hk : ∀ x, (enc x).length = k) (h1 : ∀ x, ∀ v ∈ enc x, v.oneCell' = true) (cf : α → α → Int) (hcmp : CmpB enc cf) (S : SWO (ltOf cf))
    (blk off cap a m b sz : Nat) (d : Array α) (hz : d.size = sz) (w : World) (hH : HoldsK enc k w blk off d) (hblk : blk < w.heap.size) (ham : a < m) (hmb : m < b) (hb : b ≤ d.size) (hsz : d.size < 4611686018427387904) (hs1 : SortedIn (ltOf cf) a m d) (hs2 : SortedIn (ltOf cf) m b d) (h1m : m = a + 1) :
    Calls Try.prog 33 #[.slice (some ⟨blk, off, none⟩) sz cap, .int .i64 a, .int .i64 m, .int .i64 b, .func (.func 17) #[] #[]] w (SymOut (ltOf cf) enc k blk off a b d w) := by
  subst hz
  have HH : Hid (HoldsK enc k w blk off d) := hH
  have HK : Hid (∀ x, (enc x).length = k) := hk
  have H1 : Hid (∀ x, ∀ v ∈ enc x, v.oneCell' = true) := h1
  have HC : Hid (CmpB enc cf) := hcmp
  have mixed : Try.prog.follows .mixedOrders = true := by kernel_rfl
  have HS1 := Lib.hid hs1
  have HS2 := Lib.hid hs2
  clear hH hk h1 hcmp hs1 hs2
  subst h1m
  have em : IntKind.i64.wrap (((a + 1 : Nat) : Int) - (a : Int)) = 1 := by rw [IntKind.wrap_i64]; omega
  go_enter Try.func33, Try.ntmps33
  go_wp2_with fail
  go_loopw [10, 11] (fun vi vj wr => ∃ i j : Nat, vi = .int .i64 (i : Int) ∧ vj = .int .i64 (j : Int) ∧ a + 1 ≤ i ∧ i ≤ j ∧ j ≤ b ∧ Hid (∀ x, a + 1 ≤ x → x < i → ltOf cf d[x]! d[a]! = true) ∧ Hid (∀ x, j ≤ x → x < b → ltOf cf d[x]! d[a]! = false) ∧ Hid (HoldsK enc k wr blk off d) ∧ Below w.heap.size w wr) (fun vi vj _ => (RowKit.intOf vj).toNat - (RowKit.intOf vi).toNat)
  case atStart => exact ⟨a + 1, b, by go_num, rfl, by omega, by omega, by omega, Lib.hid (fun x h1 h2 => by omega), Lib.hid (fun x h1 h2 => by omega), HH, Below.refl _ _⟩
  case round =>
    obtain ⟨i, j, rfl, rfl, hi, hij, hjb, Q1, Q2, HR, hB⟩ := hrel
    have hsr := hB.size
    by_cases hlt : i < j
    case pos =>
      obtain ⟨h, hh⟩ : ∃ h, h = (i + j) / 2 := ⟨_, rfl⟩
      have hh1 : i ≤ h := by omega
      have hh2 : h < j := by omega
      have HHH := Lib.hid hh
      clear hh
      have hx1 : h < d.size := by omega
      have hx2 : a < d.size := by omega
      have eh1 : IntKind.i64.wrap ((i : Int) + (j : Int)) = ((i + j : Nat) : Int) := by rw [IntKind.wrap_i64]; omega
      obtain ⟨xi, hxi⟩ : ∃ x, d[h]! = x := ⟨_, rfl⟩
      obtain ⟨xj, hxj⟩ : ∃ x, d[a]! = x := ⟨_, rfl⟩
      obtain ⟨cv, hcv⟩ : ∃ c, c = cf xi xj := ⟨_, rfl⟩
      have HCV := Lib.hid (show cv = cf d[h]! d[a]! from by rw [hxi, hxj]; exact hcv)
      have hcq := HC.out xi xj wr.drew
      rw [← hcv] at hcq
      have HXI := Lib.hid hxi
      have HXJ := Lib.hid hxj
      clear hcv hxi hxj
      go_wp2_with fail
      rw [show ((i : Int) + (j : Int)) / 2 = ((h : Nat) : Int) from by have := HHH.out; omega]
      refine wp_region_noPanic ?_
      refine wp_region_held_drew (S := (fun w' => Below wr.heap.size wr w')) (by kernel_rfl) ?_ (fun hHeld => ?_)
      · exact (Below.refl _ _).drew
      refine heldTake 0 (some 40) (v := ?_) rfl rfl (by kernel_rfl) (by kernel_rfl) (by kernel_rfl) (by rfl) hHeld (fun _ _ _ h => h) ?_ ?_
      rotate_left
      · intro w' hSw; (try dsimp only at hSw); go_simp <;> with_reducible rfl
      simp only [Act.put, List.setIfInBounds_toArray, List.set_cons_zero, List.set_cons_succ]
      refine heldTake 1 (some 41) (v := ?_) rfl rfl (by kernel_rfl) (by kernel_rfl) (by kernel_rfl) (by rfl) hHeld (fun _ _ _ h => h) ?_ ?_
      rotate_left
      · intro w' hSw; (try dsimp only at hSw); go_simp <;> with_reducible rfl
      simp only [Act.put, List.setIfInBounds_toArray, List.set_cons_zero, List.set_cons_succ]
      refine heldTake 2 (some 42) (v := ?_) rfl rfl (by kernel_rfl) (by kernel_rfl) (by kernel_rfl) (by rfl) hHeld (fun _ _ _ h => h) ?_ ?_
      rotate_left
      · intro w' hSw; (try dsimp only at hSw); go_simp <;> with_reducible rfl
      simp only [Act.put, List.setIfInBounds_toArray, List.set_cons_zero, List.set_cons_succ]
      refine heldTake 3 (some 43) (v := ?_) rfl rfl (by kernel_rfl) (by kernel_rfl) (by kernel_rfl) (by rfl) hHeld (fun _ _ _ h => h) ?_ ?_
      rotate_left
      · intro w' hSw; (try dsimp only at hSw); go_simp <;> with_reducible rfl
      simp only [Act.put, List.setIfInBounds_toArray, List.set_cons_zero, List.set_cons_succ]
      refine heldTake 4 (some 44) (v := ?_) rfl rfl (by kernel_rfl) (by kernel_rfl) (by kernel_rfl) (by rfl) hHeld (fun _ _ _ h => h) ?_ ?_
      rotate_left
      · intro w' hSw; (try dsimp only at hSw); have hH' := HoldsK.keep (HR.out) (hSw.block blk (by omega)); have la := load_elem HK.out hH' (i := h) (by omega); rw [HXI.out] at la; go_simp <;> with_reducible rfl
      simp only [Act.put, List.setIfInBounds_toArray, List.set_cons_zero, List.set_cons_succ]
      refine heldTake 5 (some 45) (v := ?_) rfl rfl (by kernel_rfl) (by kernel_rfl) (by kernel_rfl) (by rfl) hHeld (fun _ _ _ h => h) ?_ ?_
      rotate_left
      · intro w' hSw; (try dsimp only at hSw); go_simp <;> with_reducible rfl
      simp only [Act.put, List.setIfInBounds_toArray, List.set_cons_zero, List.set_cons_succ]
      refine heldTake 6 (some 46) (v := ?_) rfl rfl (by kernel_rfl) (by kernel_rfl) (by kernel_rfl) (by rfl) hHeld (fun _ _ _ h => h) ?_ ?_
      rotate_left
      · intro w' hSw; (try dsimp only at hSw); go_simp <;> with_reducible rfl
      simp only [Act.put, List.setIfInBounds_toArray, List.set_cons_zero, List.set_cons_succ]
      refine heldTake 7 (some 47) (v := ?_) rfl rfl (by kernel_rfl) (by kernel_rfl) (by kernel_rfl) (by rfl) hHeld (fun _ _ _ h => h) ?_ ?_
      rotate_left
      · intro w' hSw; (try dsimp only at hSw); go_simp <;> with_reducible rfl
      simp only [Act.put, List.setIfInBounds_toArray, List.set_cons_zero, List.set_cons_succ]
      refine heldTake 8 (some 48) (v := ?_) rfl rfl (by kernel_rfl) (by kernel_rfl) (by kernel_rfl) (by rfl) hHeld (fun _ _ _ h => h) ?_ ?_
      rotate_left
      · intro w' hSw; (try dsimp only at hSw); have hH' := HoldsK.keep (HR.out) (hSw.block blk (by omega)); have la := load_elem HK.out hH' (i := a) (by omega); rw [HXJ.out] at la; go_simp <;> with_reducible rfl
      simp only [Act.put, List.setIfInBounds_toArray, List.set_cons_zero, List.set_cons_succ]
      refine heldCall 9 (some 49) (f := ?_) (args := ?_) rfl rfl (by kernel_rfl) (by rfl) ?_ ?_
      rotate_left 2
      · go_simp <;> first | (constructor <;> with_reducible rfl) | with_reducible rfl
      (with_reducible refine hcq.mono ?_)
      rintro _ w2 ⟨rfl, hb2'⟩
      have hb2 : Below wr.heap.size wr w2 := Below.undrew hb2'
      have hs2 := hb2.size
      refine ⟨_, rfl, keepAnd ?_ (fun hNew => ?_)⟩
      · exact hb2
      clear hHeld
      have hHeld := hNew
      clear hNew
      simp only [Act.put, List.setIfInBounds_toArray, List.set_cons_zero, List.set_cons_succ]
      refine heldTake 10 (some 50) (v := ?_) rfl rfl (by kernel_rfl) (by kernel_rfl) (by kernel_rfl) (by rfl) hHeld (fun _ _ _ h => h) ?_ ?_
      rotate_left
      · intro w' hSw; (try dsimp only at hSw); go_simp <;> with_reducible rfl
      simp only [Act.put, List.setIfInBounds_toArray, List.set_cons_zero, List.set_cons_succ]
      refine wpAnyH_done (by kernel_rfl) ?_ _
      refine NoPanic.normal ?_
      have hH2 : HoldsK enc k w2 blk off d := HoldsK.keep HR.out (hb2.block blk (by omega))
      have hB2 : Below w.heap.size w w2 := hB.trans (hb2.mono (by omega))
      clear hcq hHeld
      by_cases hlv : cv < 0
      case pos =>
        have HL : Hid (ltOf cf d[h]! d[a]! = true) := Lib.hid (by rw [ltOf, ← HCV.out]; exact decide_eq_true hlv)
        go_wp2_with fail
        go_roundw
        case rel => exact ⟨h + 1, j, by go_num, rfl, by omega, by omega, hjb, Lib.hid (fun x h1 h2 => SWO.le_lt S (SortedIn.le S HS2.out (i := x) (j := h) h1 (by omega) (by omega)) HL.out), Q2, Lib.hid hH2, hB2⟩
        case measure => simp [RowKit.intOf]; omega
      case neg =>
        have HL : Hid (ltOf cf d[h]! d[a]! = false) := Lib.hid (by rw [ltOf, ← HCV.out]; exact decide_eq_false hlv)
        go_wp2_with fail
        go_roundw
        case rel => exact ⟨i, h, rfl, rfl, hi, hh1, by omega, Q1, Lib.hid (fun x h1 h2 => S.ntrans _ _ _ (SortedIn.le S HS2.out (i := h) (j := x) (by omega) h1 h2) HL.out), Lib.hid hH2, hB2⟩
        case measure => simp [RowKit.intOf]; omega
    case neg =>
      obtain rfl : i = j := by omega
      have e1 : IntKind.i64.wrap ((i : Int) - 1) = ((i - 1 : Nat) : Int) := by rw [IntKind.wrap_i64]; omega
      go_wp2_with fail
      go_loopw [13] (fun vk wr2 => ∃ (t : Nat) (dk : Array α), vk = .int .i64 ((a + t : Nat) : Int) ∧ a + t ≤ i - 1 ∧ dk.size = d.size ∧ Hid (MovF d a b t dk) ∧ Hid (HoldsK enc k wr2 blk off dk) ∧ Chg (· = blk) wr wr2) (fun vk _ => i - 1 - (RowKit.intOf vk).toNat)
      case atStart => exact ⟨0, d, rfl, by omega, rfl, Lib.hid (MovF.zero d a b), HR, Chg.refl _ _⟩
      case round =>
        obtain ⟨t, dk, rfl, hti, hsk, HM, HK', hC⟩ := hrel
        have hsq := hC.size
        by_cases hlt2 : a + t < i - 1
        case pos =>
          have jz : ((a + t : Nat) : Int) < ((i - 1 : Nat) : Int) := by omega
          have w1 : IntKind.i64.wrap (((a + t : Nat) : Int) + 1) = ((a + t + 1 : Nat) : Int) := by rw [IntKind.wrap_i64]; omega
          have b1 : ((a + t : Nat) : Int) < (d.size : Int) := by omega
          have b2 : ((a + t + 1 : Nat) : Int) < (d.size : Int) := by omega
          have HMn := Lib.hid (HM.out.step hb (by omega))
          have hHd : HoldsK enc k wr.drew blk off dk := HK'.out
          obtain ⟨la, lb, s1, s2, hN, hCN⟩ := swap_facts HK.out H1.out hHd (i := a + t) (j := a + t + 1) (by omega) (by omega)
          have hsA : (enc dk[a + t]!).length = k := HK.out _
          have hsB : (enc dk[a + t + 1]!).length = k := HK.out _
          have HN := Lib.hid hN
          have HCN := Lib.hid hCN
          clear hN hCN hHd
          generalize enc dk[a + t]! = cA at la s2 hsA HN HCN
          generalize enc dk[a + t + 1]! = cB at lb s1 s2 hsB HN HCN
          generalize hz : a + t = z at *
          go_wp2_with fail
          go_big_region_o
          all_goals go_wp2_with fail
          go_roundw
          case rel => exact ⟨t + 1, _, by subst hz; go_num, by omega, by rw [size_swp]; exact hsk, HMn, HN, hC.drew.trans HCN.out (fun _ _ h => h)⟩
          case measure => simp [RowKit.intOf]; omega
        case neg =>
          have jz : ¬ ((a + t : Nat) : Int) < ((i - 1 : Nat) : Int) := by omega
          obtain rfl : t = i - 1 - a := by omega
          go_wp2_with fail
          go_end0
          refine ⟨rfl, dk, HM.out.perm, HM.out.sorted S HS2.out hi hjb Q1.out Q2.out, HK'.out, (Chg.of_below hB _).trans hC (fun _ _ h => h)⟩
end Go.Proofs.Ytkhmjlahlcighaa
