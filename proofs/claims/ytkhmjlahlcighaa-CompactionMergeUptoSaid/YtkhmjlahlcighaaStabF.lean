/-
  The stable sort: symMerge.
-/
import Derived.Test.YtkhmjlahlcighaaStabE
namespace Go.Proofs.Ytkhmjlahlcighaa
open Go.RowKit Go.Lib Go.IntWalk Go.Sort Go.Shelf

set_option maxRecDepth 1000000 in
set_option maxHeartbeats 8000000 in
theorem sym3_any {α : Type} [Inhabited α] (enc : α → List Value) (k : Nat) (aE : ∀ w, (isAgg 38).run Try.prog w = .ok true w) (zE : ∀ w, (Go.sizeOf 38).run Try.prog w = .ok k w) (hk : ∀ x, (enc x).length = k) (h1 : ∀ x, ∀ v ∈ enc x, v.oneCell' = true) (cf : α → α → Int) (hcmp : CmpB enc cf) (S : SWO (ltOf cf))
    (blk off cap a m b sz : Nat) (d : Array α) (hz : d.size = sz) (w : World) (hH : HoldsK enc k w blk off d) (hblk : blk < w.heap.size) (ham : a < m) (hmb : m < b) (hb : b ≤ d.size) (hsz : d.size < 4611686018427387904) (hs1 : SortedIn (ltOf cf) a m d) (hs2 : SortedIn (ltOf cf) m b d) (hne1 : m ≠ a + 1) (hne2 : b ≠ m + 1) (n : Nat) (IH : Hid (∀ (a m b : Nat) (d : Array α) (_ : d.size = sz) (w : World), HoldsK enc k w blk off d → blk < w.heap.size → a < m → m < b → b ≤ d.size → SortedIn (ltOf cf) a m d → SortedIn (ltOf cf) m b d → b - a < n → Calls Try.prog 33 #[.slice (some ⟨blk, off, none⟩) sz cap, .int .i64 a, .int .i64 m, .int .i64 b, .func (.func 17) #[] #[]] w (SymOut (ltOf cf) enc k blk off a b d w))) (hn : b - a ≤ n) :
    Calls Try.prog 33 #[.slice (some ⟨blk, off, none⟩) sz cap, .int .i64 a, .int .i64 m, .int .i64 b, .func (.func 17) #[] #[]] w (SymOut (ltOf cf) enc k blk off a b d w) := by
  subst hz
  have HH : Hid (HoldsK enc k w blk off d) := hH
  have HK : Hid (∀ x, (enc x).length = k) := hk
  have H1 : Hid (∀ x, ∀ v ∈ enc x, v.oneCell' = true) := h1
  have HC : Hid (CmpB enc cf) := hcmp
  have mixed : Try.prog.follows .mixedOrders = true := by kernel_rfl
  have HS1 := Lib.hid hs1
  have HS2 := Lib.hid hs2
  clear hH hk h1 hcmp hs1 hs2
  have em : IntKind.i64.wrap ((m : Int) - (a : Int)) = ((m - a : Nat) : Int) := by rw [IntKind.wrap_i64]; omega
  have em2 : IntKind.i64.wrap ((b : Int) - (m : Int)) = ((b - m : Nat) : Int) := by rw [IntKind.wrap_i64]; omega
  have hme : (((m - a : Nat) : Int) == 1) = false := by rw [beq_eq_false_iff_ne]; omega
  have hme2 : (((b - m : Nat) : Int) == 1) = false := by rw [beq_eq_false_iff_ne]; omega
  obtain ⟨mid, hmid⟩ : ∃ x, x = (a + b) / 2 := ⟨_, rfl⟩
  have hmi1 : a < mid := by omega
  have hmi2 : mid < b := by omega
  have hm1 : 2 * mid ≤ a + b := by omega
  have hm2 : a + b ≤ 2 * mid + 1 := by omega
  have HMID := Lib.hid hmid
  clear hmid
  have e1 : ((a : Int) + (b : Int)) / 2 = ((mid : Nat) : Int) := by have := HMID.out; omega
  have E1 := Lib.hid e1
  clear e1
  by_cases hgm : mid < m
  case pos =>
    have hgz : ((a : Int) + (b : Int)) / 2 < (m : Int) := by have := E1.out; omega
    go_enter Try.func33, Try.ntmps33
    go_wp2_with fail
    rw [E1.out]
    go_loopw [20, 21] (fun vi vj wr => ∃ i j : Nat, vi = .int .i64 (i : Int) ∧ vj = .int .i64 (j : Int) ∧ mid + m - b ≤ i ∧ i ≤ j ∧ j ≤ mid ∧ Hid (mid + m - b < i → ltOf cf d[mid + m - i]! d[i - 1]! = false) ∧ Hid (j < mid → ltOf cf d[mid + m - 1 - j]! d[j]! = true) ∧ Hid (HoldsK enc k wr blk off d) ∧ Below w.heap.size w wr) (fun vi vj _ => (RowKit.intOf vj).toNat - (RowKit.intOf vi).toNat)
    case atStart => exact ⟨mid + m - b, mid, by first | rfl | (congr 1; rw [IntKind.wrap_i64, IntKind.wrap_i64]; omega) | (congr 1; omega), by first | rfl | go_num, Nat.le_refl _, by omega, Nat.le_refl _, Lib.hid (fun h => absurd h (Nat.lt_irrefl _)), Lib.hid (fun h => absurd h (Nat.lt_irrefl _)), HH, Below.refl _ _⟩
    case round =>
      obtain ⟨i, j, rfl, rfl, hi, hij, hjb, Q1, Q2, HR, hB⟩ := hrel
      have hsr := hB.size
      by_cases hlt : i < j
      case pos =>
        obtain ⟨h, hh⟩ : ∃ h, h = (i + j) / 2 := ⟨_, rfl⟩
        have hh1 : i ≤ h := by omega
        have hh2 : h < j := by omega
        have HHH := Lib.hid hh
        clear hh
        obtain ⟨q, hq⟩ : ∃ q, q = mid + m - 1 - h := ⟨_, rfl⟩
        have hx1 : h < d.size := by omega
        have hx2 : q < d.size := by omega
        have HQQ := Lib.hid hq
        have hqz : (mid : Int) + (m : Int) - 1 - (h : Int) = (q : Int) := by omega
        have hwq : IntKind.i64.wrap (q : Int) = (q : Int) := by rw [IntKind.wrap_i64]; omega
        clear hq
        have eh1 : IntKind.i64.wrap ((i : Int) + (j : Int)) = ((i + j : Nat) : Int) := by rw [IntKind.wrap_i64]; omega
        obtain ⟨xi, hxi⟩ : ∃ x, d[q]! = x := ⟨_, rfl⟩
        obtain ⟨xj, hxj⟩ : ∃ x, d[h]! = x := ⟨_, rfl⟩
        obtain ⟨cv, hcv⟩ : ∃ c, c = cf xi xj := ⟨_, rfl⟩
        have HCV := Lib.hid (show cv = cf d[q]! d[h]! from by rw [hxi, hxj]; exact hcv)
        have hcq := HC.out xi xj wr.drew
        rw [← hcv] at hcq
        have HXI := Lib.hid hxi
        have HXJ := Lib.hid hxj
        clear hcv hxi hxj
        go_wp2_with fail
        rw [show ((i : Int) + (j : Int)) / 2 = ((h : Nat) : Int) from by have := HHH.out; omega]
        refine wp_region_noPanic ?_
        refine wp_region_held_drew (S := (fun w' => Below wr.heap.size wr w')) (by kernel_rfl) ?_ (fun hHeld => ?_)
        · exact (Below.refl _ _).drew
        refine heldTake 0 (some 158) (v := ?_) rfl rfl (by kernel_rfl) (by kernel_rfl) (by kernel_rfl) (by rfl) hHeld (fun _ _ _ h => h) ?_ ?_
        rotate_left
        · intro w' hSw; (try dsimp only at hSw); go_simp <;> with_reducible rfl
        simp only [Act.put, List.setIfInBounds_toArray, List.set_cons_zero, List.set_cons_succ]
        refine heldTake 1 (some 159) (v := ?_) rfl rfl (by kernel_rfl) (by kernel_rfl) (by kernel_rfl) (by rfl) hHeld (fun _ _ _ h => h) ?_ ?_
        rotate_left
        · intro w' hSw; (try dsimp only at hSw); go_simp <;> with_reducible rfl
        simp only [Act.put, List.setIfInBounds_toArray, List.set_cons_zero, List.set_cons_succ]
        refine heldTake 2 (some 160) (v := ?_) rfl rfl (by kernel_rfl) (by kernel_rfl) (by kernel_rfl) (by rfl) hHeld (fun _ _ _ h => h) ?_ ?_
        rotate_left
        · intro w' hSw; (try dsimp only at hSw); go_simp <;> with_reducible rfl
        simp only [Act.put, List.setIfInBounds_toArray, List.set_cons_zero, List.set_cons_succ]
        refine heldTake 3 (some 161) (v := ?_) rfl rfl (by kernel_rfl) (by kernel_rfl) (by kernel_rfl) (by rfl) hHeld (fun _ _ _ h => h) ?_ ?_
        rotate_left
        · intro w' hSw; (try dsimp only at hSw); go_simp <;> with_reducible rfl
        simp only [Act.put, List.setIfInBounds_toArray, List.set_cons_zero, List.set_cons_succ]
        refine heldTake 4 (some 162) (v := ?_) rfl rfl (by kernel_rfl) (by kernel_rfl) (by kernel_rfl) (by rfl) hHeld (fun _ _ _ h => h) ?_ ?_
        rotate_left
        · intro w' hSw; (try dsimp only at hSw); go_simp <;> with_reducible rfl
        simp only [Act.put, List.setIfInBounds_toArray, List.set_cons_zero, List.set_cons_succ]
        refine heldTake 5 (some 163) (v := ?_) rfl rfl (by kernel_rfl) (by kernel_rfl) (by kernel_rfl) (by rfl) hHeld (fun _ _ _ h => h) ?_ ?_
        rotate_left
        · intro w' hSw; (try dsimp only at hSw); go_simp <;> with_reducible rfl
        simp only [Act.put, List.setIfInBounds_toArray, List.set_cons_zero, List.set_cons_succ]
        refine heldTake 6 (some 164) (v := ?_) rfl rfl (by kernel_rfl) (by kernel_rfl) (by kernel_rfl) (by rfl) hHeld (fun _ _ _ h => h) ?_ ?_
        rotate_left
        · intro w' hSw; (try dsimp only at hSw); have hH' := HoldsK.keep (HR.out) (hSw.block blk (by omega)); have la := load_elem HK.out hH' (i := q) (by omega); rw [HXI.out] at la; go_simp <;> with_reducible rfl
        simp only [Act.put, List.setIfInBounds_toArray, List.set_cons_zero, List.set_cons_succ]
        refine heldTake 7 (some 165) (v := ?_) rfl rfl (by kernel_rfl) (by kernel_rfl) (by kernel_rfl) (by rfl) hHeld (fun _ _ _ h => h) ?_ ?_
        rotate_left
        · intro w' hSw; (try dsimp only at hSw); go_simp <;> with_reducible rfl
        simp only [Act.put, List.setIfInBounds_toArray, List.set_cons_zero, List.set_cons_succ]
        refine heldTake 8 (some 166) (v := ?_) rfl rfl (by kernel_rfl) (by kernel_rfl) (by kernel_rfl) (by rfl) hHeld (fun _ _ _ h => h) ?_ ?_
        rotate_left
        · intro w' hSw; (try dsimp only at hSw); go_simp <;> with_reducible rfl
        simp only [Act.put, List.setIfInBounds_toArray, List.set_cons_zero, List.set_cons_succ]
        refine heldTake 9 (some 167) (v := ?_) rfl rfl (by kernel_rfl) (by kernel_rfl) (by kernel_rfl) (by rfl) hHeld (fun _ _ _ h => h) ?_ ?_
        rotate_left
        · intro w' hSw; (try dsimp only at hSw); go_simp <;> with_reducible rfl
        simp only [Act.put, List.setIfInBounds_toArray, List.set_cons_zero, List.set_cons_succ]
        refine heldTake 10 (some 168) (v := ?_) rfl rfl (by kernel_rfl) (by kernel_rfl) (by kernel_rfl) (by rfl) hHeld (fun _ _ _ h => h) ?_ ?_
        rotate_left
        · intro w' hSw; (try dsimp only at hSw); have hH' := HoldsK.keep (HR.out) (hSw.block blk (by omega)); have la := load_elem HK.out hH' (i := h) (by omega); rw [HXJ.out] at la; go_simp <;> with_reducible rfl
        simp only [Act.put, List.setIfInBounds_toArray, List.set_cons_zero, List.set_cons_succ]
        refine heldCall 11 (some 169) (f := ?_) (args := ?_) rfl rfl (by kernel_rfl) (by rfl) ?_ ?_
        rotate_left 2
        · go_simp <;> first | (constructor <;> with_reducible rfl) | with_reducible rfl
        (with_reducible refine hcq.mono ?_)
        rintro _ w2 ⟨rfl, hb2'⟩
        have hb2 : Below wr.heap.size wr w2 := Below.undrew hb2'
        have hs2 := hb2.size
        refine ⟨_, rfl, keepAnd ?_ (fun hNew => ?_)⟩
        · exact hb2
        clear hHeld
        have hHeld := hNew
        clear hNew
        simp only [Act.put, List.setIfInBounds_toArray, List.set_cons_zero, List.set_cons_succ]
        refine heldTake 12 (some 170) (v := ?_) rfl rfl (by kernel_rfl) (by kernel_rfl) (by kernel_rfl) (by rfl) hHeld (fun _ _ _ h => h) ?_ ?_
        rotate_left
        · intro w' hSw; (try dsimp only at hSw); go_simp <;> with_reducible rfl
        simp only [Act.put, List.setIfInBounds_toArray, List.set_cons_zero, List.set_cons_succ]
        refine heldTake 13 (some 171) (v := ?_) rfl rfl (by kernel_rfl) (by kernel_rfl) (by kernel_rfl) (by rfl) hHeld (fun _ _ _ h => h) ?_ ?_
        rotate_left
        · intro w' hSw; (try dsimp only at hSw); go_simp <;> with_reducible rfl
        simp only [Act.put, List.setIfInBounds_toArray, List.set_cons_zero, List.set_cons_succ]
        refine wpAnyH_done (by kernel_rfl) ?_ _
        refine NoPanic.normal ?_
        have hH2 : HoldsK enc k w2 blk off d := HoldsK.keep HR.out (hb2.block blk (by omega))
        have hB2 : Below w.heap.size w w2 := hB.trans (hb2.mono (by omega))
        clear hcq hHeld
        by_cases hlv : cv < 0
        case pos =>
          have HL : Hid (ltOf cf d[q]! d[h]! = true) := Lib.hid (by rw [ltOf, ← HCV.out]; exact decide_eq_true hlv)
          rw [show (!decide (cv < 0)) = false from by rw [decide_eq_true hlv]; rfl]
          go_wp2_with fail
          go_roundw
          case rel => exact ⟨i, h, rfl, rfl, hi, hh1, by omega, Q1, Lib.hid (fun _ => by rw [← HQQ.out]; exact HL.out), Lib.hid hH2, hB2⟩
          case measure => simp [RowKit.intOf] <;> omega
        case neg =>
          have HL : Hid (ltOf cf d[q]! d[h]! = false) := Lib.hid (by rw [ltOf, ← HCV.out]; exact decide_eq_false hlv)
          rw [show (!decide (cv < 0)) = true from by rw [decide_eq_false hlv]; rfl]
          go_wp2_with fail
          go_roundw
          case rel => exact ⟨h + 1, j, by go_num, rfl, by omega, by omega, hjb, Lib.hid (fun _ => by rw [show mid + m - (h + 1) = q from by have := HQQ.out; omega, Nat.add_sub_cancel]; exact HL.out), Q2, Lib.hid hH2, hB2⟩
          case measure => simp [RowKit.intOf] <;> omega
      case neg =>
        obtain rfl : i = j := by omega
        obtain ⟨en, hen⟩ : ∃ e, e = mid + m - i := ⟨_, rfl⟩
        have hcut : SymCut (ltOf cf) d a m b i := by
          have e := HMID.out
          subst e
          exact SymCut.of S HS1.out HS2.out ham hmb (s0 := (a + b) / 2 + m - b) (r0 := (a + b) / 2) (if_pos hgm).symm (if_pos hgm).symm hi hjb Q1.out Q2.out
        have h1 := hcut.lo
        have h2 := hcut.hi
        have h3 : m ≤ en := by have := hcut.hm; have := HMID.out; omega
        have h4 : en ≤ b := by have := hcut.he; have := HMID.out; omega
        have hez : (mid : Int) + (m : Int) - (i : Int) = (en : Int) := by omega
        have hwe : IntKind.i64.wrap (en : Int) = (en : Int) := by rw [IntKind.wrap_i64]; omega
        have HEN := Lib.hid hen
        have HCUT := Lib.hid hcut
        clear hen hcut
        by_cases hr : i < m ∧ m < en
        case pos =>
          obtain ⟨r1, r2⟩ := hr
          go_wp2_with fail
          (with_reducible refine (rotate_any enc k aE zE HK.out H1.out blk off cap i m en d.size d rfl _ wr HR.out r1 r2 (by omega) hsz).mono ?_)
          rintro _ w3 ⟨rfl, d1, hrot, hH3, hC3⟩
          have hC : Chg (· = blk) w w3 := (Chg.of_below hB _).trans hC3 (fun _ _ h => h)
          have hT : i ≤ mid ∧ mid ≤ en ∧ PermIn a b d d1 ∧ SortedIn (ltOf cf) a i d1 ∧ SortedIn (ltOf cf) i mid d1 ∧ SortedIn (ltOf cf) mid en d1 ∧ SortedIn (ltOf cf) en b d1 ∧ ∀ i k, a ≤ i → i < mid → mid ≤ k → k < b → ltOf cf d1[k]! d1[i]! = false := by
            have e := HMID.out
            have e2 := HEN.out
            subst e2
            subst e
            exact SymCut.rot HS1.out HS2.out hb HCUT.out hrot ham
          obtain ⟨t1, t2, t3, t4, t5, t6, t7, t8⟩ := hT
          have T8 := Lib.hid t8
          have hz1 : d1.size = d.size := t3.1
          clear t8 hrot
          by_cases hl : a < i ∧ i < mid
          case pos =>
            obtain ⟨u1, u2⟩ := hl
            have hI1 := IH.out a i mid d1 hz1 w3 hH3 (by have := hC.size; omega) u1 u2 (by omega) t4 t5 (by omega)
            go_wp2_with fail
            all_goals (
              (with_reducible refine hI1.mono ?_)
              rintro _ w4 ⟨rfl, d2, p4, s4, hH4, hC4⟩
              have hC' : Chg (· = blk) w w4 := hC.trans hC4 (fun _ _ h => h)
              have hz2 : d2.size = d.size := by have := (p4).1; omega
              have hm3 : SortedIn (ltOf cf) mid en d2 := SortedIn.congr t6 (fun x g1 g2 => (p4).2.1 x (.inr g1))
              have hm4 : SortedIn (ltOf cf) en b d2 := SortedIn.congr t7 (fun x g1 g2 => (p4).2.1 x (.inr (by omega)))
              have HM3 := Lib.hid hm3
              have HM4 := Lib.hid hm4
              have HP1 := Lib.hid (p4)
              have HS := Lib.hid (s4)
              clear hm3 hm4
              by_cases hr2 : mid < en ∧ en < b
              case pos =>
                obtain ⟨v1, v2⟩ := hr2
                have hI2 := IH.out mid en b d2 hz2 w4 hH4 (by have := (hC').size; omega) v1 v2 (by omega) HM3.out HM4.out (by omega)
                go_wp2_with fail
                all_goals (with_reducible refine hI2.mono ?_)
                all_goals rintro _ w5 ⟨rfl, d3, p5, s5, hH5, hC5⟩
                all_goals go_wp2_with fail
                all_goals (go_end0)
                all_goals exact ⟨rfl, d3, (sym_join (by omega) (by omega) (by omega) T8.out HP1.out HS.out p5 s5).1 |> permIn_trans _ _ _ _ _ t3, (sym_join (by omega) (by omega) (by omega) T8.out HP1.out HS.out p5 s5).2, hH5, (hC').trans hC5 (fun _ _ h => h)⟩
              case neg =>
                have hs9 : SortedIn (ltOf cf) mid b d2 := by
                  rcases Nat.lt_or_ge mid en with c | c
                  · exact SortedIn.sub HM3.out (Nat.le_refl _) (by omega)
                  · exact SortedIn.sub HM4.out (by omega) (Nat.le_refl _)
                have HS9 := Lib.hid hs9
                clear hs9
                go_wp2_with fail
                all_goals (go_end0)
                all_goals exact ⟨rfl, d2, (sym_join (by omega) (by omega) (by omega) T8.out HP1.out HS.out (permIn_refl _ _ _) HS9.out).1 |> permIn_trans _ _ _ _ _ t3, (sym_join (by omega) (by omega) (by omega) T8.out HP1.out HS.out (permIn_refl _ _ _) HS9.out).2, hH4, hC'⟩)
          case neg =>
            have hs8 : SortedIn (ltOf cf) a mid d1 := by
              rcases Nat.lt_or_ge a i with c | c
              · exact SortedIn.sub t4 (Nat.le_refl _) (by omega)
              · exact SortedIn.sub t5 (by omega) (Nat.le_refl _)
            have hz2 : d1.size = d.size := by have := (permIn_refl d1 a mid).1; omega
            have hm3 : SortedIn (ltOf cf) mid en d1 := SortedIn.congr t6 (fun x g1 g2 => (permIn_refl d1 a mid).2.1 x (.inr g1))
            have hm4 : SortedIn (ltOf cf) en b d1 := SortedIn.congr t7 (fun x g1 g2 => (permIn_refl d1 a mid).2.1 x (.inr (by omega)))
            have HM3 := Lib.hid hm3
            have HM4 := Lib.hid hm4
            have HP1 := Lib.hid (permIn_refl d1 a mid)
            have HS := Lib.hid (hs8)
            clear hm3 hm4
            by_cases hr2 : mid < en ∧ en < b
            case pos =>
              obtain ⟨v1, v2⟩ := hr2
              have hI2 := IH.out mid en b d1 hz2 w3 hH3 (by have := (hC).size; omega) v1 v2 (by omega) HM3.out HM4.out (by omega)
              go_wp2_with fail
              all_goals (with_reducible refine hI2.mono ?_)
              all_goals rintro _ w5 ⟨rfl, d3, p5, s5, hH5, hC5⟩
              all_goals go_wp2_with fail
              all_goals (go_end0)
              all_goals exact ⟨rfl, d3, (sym_join (by omega) (by omega) (by omega) T8.out HP1.out HS.out p5 s5).1 |> permIn_trans _ _ _ _ _ t3, (sym_join (by omega) (by omega) (by omega) T8.out HP1.out HS.out p5 s5).2, hH5, (hC).trans hC5 (fun _ _ h => h)⟩
            case neg =>
              have hs9 : SortedIn (ltOf cf) mid b d1 := by
                rcases Nat.lt_or_ge mid en with c | c
                · exact SortedIn.sub HM3.out (Nat.le_refl _) (by omega)
                · exact SortedIn.sub HM4.out (by omega) (Nat.le_refl _)
              have HS9 := Lib.hid hs9
              clear hs9
              go_wp2_with fail
              all_goals (go_end0)
              all_goals exact ⟨rfl, d1, (sym_join (by omega) (by omega) (by omega) T8.out HP1.out HS.out (permIn_refl _ _ _) HS9.out).1 |> permIn_trans _ _ _ _ _ t3, (sym_join (by omega) (by omega) (by omega) T8.out HP1.out HS.out (permIn_refl _ _ _) HS9.out).2, hH3, hC⟩
        case neg =>
          have hrot : RotOf d i m en d := by
            rcases Nat.lt_or_ge i m with c | c
            · obtain rfl : m = en := by omega
              exact RotOf.right
            · obtain rfl : i = m := by omega
              exact RotOf.left h3
          have hH3 : HoldsK enc k wr blk off d := HR.out
          have hC : Chg (· = blk) w wr := Chg.of_below hB _
          obtain ⟨d1, hd1⟩ : ∃ x, x = d := ⟨_, rfl⟩
          rw [← hd1] at hH3
          have hrot : RotOf d i m en d1 := by rw [hd1]; exact hrot
          have HD1 := Lib.hid hd1
          clear hd1
          have hT : i ≤ mid ∧ mid ≤ en ∧ PermIn a b d d1 ∧ SortedIn (ltOf cf) a i d1 ∧ SortedIn (ltOf cf) i mid d1 ∧ SortedIn (ltOf cf) mid en d1 ∧ SortedIn (ltOf cf) en b d1 ∧ ∀ i k, a ≤ i → i < mid → mid ≤ k → k < b → ltOf cf d1[k]! d1[i]! = false := by
            have e := HMID.out
            have e2 := HEN.out
            subst e2
            subst e
            exact SymCut.rot HS1.out HS2.out hb HCUT.out hrot ham
          obtain ⟨t1, t2, t3, t4, t5, t6, t7, t8⟩ := hT
          have T8 := Lib.hid t8
          have hz1 : d1.size = d.size := t3.1
          clear t8 hrot
          by_cases hl : a < i ∧ i < mid
          case pos =>
            obtain ⟨u1, u2⟩ := hl
            have hI1 := IH.out a i mid d1 hz1 wr hH3 (by have := hC.size; omega) u1 u2 (by omega) t4 t5 (by omega)
            go_wp2_with fail
            all_goals (
              (with_reducible refine hI1.mono ?_)
              rintro _ w4 ⟨rfl, d2, p4, s4, hH4, hC4⟩
              have hC' : Chg (· = blk) w w4 := hC.trans hC4 (fun _ _ h => h)
              have hz2 : d2.size = d.size := by have := (p4).1; omega
              have hm3 : SortedIn (ltOf cf) mid en d2 := SortedIn.congr t6 (fun x g1 g2 => (p4).2.1 x (.inr g1))
              have hm4 : SortedIn (ltOf cf) en b d2 := SortedIn.congr t7 (fun x g1 g2 => (p4).2.1 x (.inr (by omega)))
              have HM3 := Lib.hid hm3
              have HM4 := Lib.hid hm4
              have HP1 := Lib.hid (p4)
              have HS := Lib.hid (s4)
              clear hm3 hm4
              by_cases hr2 : mid < en ∧ en < b
              case pos =>
                obtain ⟨v1, v2⟩ := hr2
                have hI2 := IH.out mid en b d2 hz2 w4 hH4 (by have := (hC').size; omega) v1 v2 (by omega) HM3.out HM4.out (by omega)
                go_wp2_with fail
                all_goals (with_reducible refine hI2.mono ?_)
                all_goals rintro _ w5 ⟨rfl, d3, p5, s5, hH5, hC5⟩
                all_goals go_wp2_with fail
                all_goals (go_end0)
                all_goals exact ⟨rfl, d3, (sym_join (by omega) (by omega) (by omega) T8.out HP1.out HS.out p5 s5).1 |> permIn_trans _ _ _ _ _ t3, (sym_join (by omega) (by omega) (by omega) T8.out HP1.out HS.out p5 s5).2, hH5, (hC').trans hC5 (fun _ _ h => h)⟩
              case neg =>
                have hs9 : SortedIn (ltOf cf) mid b d2 := by
                  rcases Nat.lt_or_ge mid en with c | c
                  · exact SortedIn.sub HM3.out (Nat.le_refl _) (by omega)
                  · exact SortedIn.sub HM4.out (by omega) (Nat.le_refl _)
                have HS9 := Lib.hid hs9
                clear hs9
                go_wp2_with fail
                all_goals (go_end0)
                all_goals exact ⟨rfl, d2, (sym_join (by omega) (by omega) (by omega) T8.out HP1.out HS.out (permIn_refl _ _ _) HS9.out).1 |> permIn_trans _ _ _ _ _ t3, (sym_join (by omega) (by omega) (by omega) T8.out HP1.out HS.out (permIn_refl _ _ _) HS9.out).2, hH4, hC'⟩)
          case neg =>
            have hs8 : SortedIn (ltOf cf) a mid d1 := by
              rcases Nat.lt_or_ge a i with c | c
              · exact SortedIn.sub t4 (Nat.le_refl _) (by omega)
              · exact SortedIn.sub t5 (by omega) (Nat.le_refl _)
            have hz2 : d1.size = d.size := by have := (permIn_refl d1 a mid).1; omega
            have hm3 : SortedIn (ltOf cf) mid en d1 := SortedIn.congr t6 (fun x g1 g2 => (permIn_refl d1 a mid).2.1 x (.inr g1))
            have hm4 : SortedIn (ltOf cf) en b d1 := SortedIn.congr t7 (fun x g1 g2 => (permIn_refl d1 a mid).2.1 x (.inr (by omega)))
            have HM3 := Lib.hid hm3
            have HM4 := Lib.hid hm4
            have HP1 := Lib.hid (permIn_refl d1 a mid)
            have HS := Lib.hid (hs8)
            clear hm3 hm4
            by_cases hr2 : mid < en ∧ en < b
            case pos =>
              obtain ⟨v1, v2⟩ := hr2
              have hI2 := IH.out mid en b d1 hz2 wr hH3 (by have := (hC).size; omega) v1 v2 (by omega) HM3.out HM4.out (by omega)
              go_wp2_with fail
              all_goals (with_reducible refine hI2.mono ?_)
              all_goals rintro _ w5 ⟨rfl, d3, p5, s5, hH5, hC5⟩
              all_goals go_wp2_with fail
              all_goals (go_end0)
              all_goals exact ⟨rfl, d3, (sym_join (by omega) (by omega) (by omega) T8.out HP1.out HS.out p5 s5).1 |> permIn_trans _ _ _ _ _ t3, (sym_join (by omega) (by omega) (by omega) T8.out HP1.out HS.out p5 s5).2, hH5, (hC).trans hC5 (fun _ _ h => h)⟩
            case neg =>
              have hs9 : SortedIn (ltOf cf) mid b d1 := by
                rcases Nat.lt_or_ge mid en with c | c
                · exact SortedIn.sub HM3.out (Nat.le_refl _) (by omega)
                · exact SortedIn.sub HM4.out (by omega) (Nat.le_refl _)
              have HS9 := Lib.hid hs9
              clear hs9
              go_wp2_with fail
              all_goals (go_end0)
              all_goals exact ⟨rfl, d1, (sym_join (by omega) (by omega) (by omega) T8.out HP1.out HS.out (permIn_refl _ _ _) HS9.out).1 |> permIn_trans _ _ _ _ _ t3, (sym_join (by omega) (by omega) (by omega) T8.out HP1.out HS.out (permIn_refl _ _ _) HS9.out).2, hH3, hC⟩
  case neg =>
    have hgz : ¬ ((a : Int) + (b : Int)) / 2 < (m : Int) := by have := E1.out; omega
    go_enter Try.func33, Try.ntmps33
    go_wp2_with fail
    rw [E1.out]
    go_loopw [20, 21] (fun vi vj wr => ∃ i j : Nat, vi = .int .i64 (i : Int) ∧ vj = .int .i64 (j : Int) ∧ a ≤ i ∧ i ≤ j ∧ j ≤ m ∧ Hid (a < i → ltOf cf d[mid + m - i]! d[i - 1]! = false) ∧ Hid (j < m → ltOf cf d[mid + m - 1 - j]! d[j]! = true) ∧ Hid (HoldsK enc k wr blk off d) ∧ Below w.heap.size w wr) (fun vi vj _ => (RowKit.intOf vj).toNat - (RowKit.intOf vi).toNat)
    case atStart => exact ⟨a, m, by first | rfl | (congr 1; rw [IntKind.wrap_i64, IntKind.wrap_i64]; omega) | (congr 1; omega), by first | rfl | go_num, Nat.le_refl _, by omega, Nat.le_refl _, Lib.hid (fun h => absurd h (Nat.lt_irrefl _)), Lib.hid (fun h => absurd h (Nat.lt_irrefl _)), HH, Below.refl _ _⟩
    case round =>
      obtain ⟨i, j, rfl, rfl, hi, hij, hjb, Q1, Q2, HR, hB⟩ := hrel
      have hsr := hB.size
      by_cases hlt : i < j
      case pos =>
        obtain ⟨h, hh⟩ : ∃ h, h = (i + j) / 2 := ⟨_, rfl⟩
        have hh1 : i ≤ h := by omega
        have hh2 : h < j := by omega
        have HHH := Lib.hid hh
        clear hh
        obtain ⟨q, hq⟩ : ∃ q, q = mid + m - 1 - h := ⟨_, rfl⟩
        have hx1 : h < d.size := by omega
        have hx2 : q < d.size := by omega
        have HQQ := Lib.hid hq
        have hqz : (mid : Int) + (m : Int) - 1 - (h : Int) = (q : Int) := by omega
        have hwq : IntKind.i64.wrap (q : Int) = (q : Int) := by rw [IntKind.wrap_i64]; omega
        clear hq
        have eh1 : IntKind.i64.wrap ((i : Int) + (j : Int)) = ((i + j : Nat) : Int) := by rw [IntKind.wrap_i64]; omega
        obtain ⟨xi, hxi⟩ : ∃ x, d[q]! = x := ⟨_, rfl⟩
        obtain ⟨xj, hxj⟩ : ∃ x, d[h]! = x := ⟨_, rfl⟩
        obtain ⟨cv, hcv⟩ : ∃ c, c = cf xi xj := ⟨_, rfl⟩
        have HCV := Lib.hid (show cv = cf d[q]! d[h]! from by rw [hxi, hxj]; exact hcv)
        have hcq := HC.out xi xj wr.drew
        rw [← hcv] at hcq
        have HXI := Lib.hid hxi
        have HXJ := Lib.hid hxj
        clear hcv hxi hxj
        go_wp2_with fail
        rw [show ((i : Int) + (j : Int)) / 2 = ((h : Nat) : Int) from by have := HHH.out; omega]
        refine wp_region_noPanic ?_
        refine wp_region_held_drew (S := (fun w' => Below wr.heap.size wr w')) (by kernel_rfl) ?_ (fun hHeld => ?_)
        · exact (Below.refl _ _).drew
        refine heldTake 0 (some 158) (v := ?_) rfl rfl (by kernel_rfl) (by kernel_rfl) (by kernel_rfl) (by rfl) hHeld (fun _ _ _ h => h) ?_ ?_
        rotate_left
        · intro w' hSw; (try dsimp only at hSw); go_simp <;> with_reducible rfl
        simp only [Act.put, List.setIfInBounds_toArray, List.set_cons_zero, List.set_cons_succ]
        refine heldTake 1 (some 159) (v := ?_) rfl rfl (by kernel_rfl) (by kernel_rfl) (by kernel_rfl) (by rfl) hHeld (fun _ _ _ h => h) ?_ ?_
        rotate_left
        · intro w' hSw; (try dsimp only at hSw); go_simp <;> with_reducible rfl
        simp only [Act.put, List.setIfInBounds_toArray, List.set_cons_zero, List.set_cons_succ]
        refine heldTake 2 (some 160) (v := ?_) rfl rfl (by kernel_rfl) (by kernel_rfl) (by kernel_rfl) (by rfl) hHeld (fun _ _ _ h => h) ?_ ?_
        rotate_left
        · intro w' hSw; (try dsimp only at hSw); go_simp <;> with_reducible rfl
        simp only [Act.put, List.setIfInBounds_toArray, List.set_cons_zero, List.set_cons_succ]
        refine heldTake 3 (some 161) (v := ?_) rfl rfl (by kernel_rfl) (by kernel_rfl) (by kernel_rfl) (by rfl) hHeld (fun _ _ _ h => h) ?_ ?_
        rotate_left
        · intro w' hSw; (try dsimp only at hSw); go_simp <;> with_reducible rfl
        simp only [Act.put, List.setIfInBounds_toArray, List.set_cons_zero, List.set_cons_succ]
        refine heldTake 4 (some 162) (v := ?_) rfl rfl (by kernel_rfl) (by kernel_rfl) (by kernel_rfl) (by rfl) hHeld (fun _ _ _ h => h) ?_ ?_
        rotate_left
        · intro w' hSw; (try dsimp only at hSw); go_simp <;> with_reducible rfl
        simp only [Act.put, List.setIfInBounds_toArray, List.set_cons_zero, List.set_cons_succ]
        refine heldTake 5 (some 163) (v := ?_) rfl rfl (by kernel_rfl) (by kernel_rfl) (by kernel_rfl) (by rfl) hHeld (fun _ _ _ h => h) ?_ ?_
        rotate_left
        · intro w' hSw; (try dsimp only at hSw); go_simp <;> with_reducible rfl
        simp only [Act.put, List.setIfInBounds_toArray, List.set_cons_zero, List.set_cons_succ]
        refine heldTake 6 (some 164) (v := ?_) rfl rfl (by kernel_rfl) (by kernel_rfl) (by kernel_rfl) (by rfl) hHeld (fun _ _ _ h => h) ?_ ?_
        rotate_left
        · intro w' hSw; (try dsimp only at hSw); have hH' := HoldsK.keep (HR.out) (hSw.block blk (by omega)); have la := load_elem HK.out hH' (i := q) (by omega); rw [HXI.out] at la; go_simp <;> with_reducible rfl
        simp only [Act.put, List.setIfInBounds_toArray, List.set_cons_zero, List.set_cons_succ]
        refine heldTake 7 (some 165) (v := ?_) rfl rfl (by kernel_rfl) (by kernel_rfl) (by kernel_rfl) (by rfl) hHeld (fun _ _ _ h => h) ?_ ?_
        rotate_left
        · intro w' hSw; (try dsimp only at hSw); go_simp <;> with_reducible rfl
        simp only [Act.put, List.setIfInBounds_toArray, List.set_cons_zero, List.set_cons_succ]
        refine heldTake 8 (some 166) (v := ?_) rfl rfl (by kernel_rfl) (by kernel_rfl) (by kernel_rfl) (by rfl) hHeld (fun _ _ _ h => h) ?_ ?_
        rotate_left
        · intro w' hSw; (try dsimp only at hSw); go_simp <;> with_reducible rfl
        simp only [Act.put, List.setIfInBounds_toArray, List.set_cons_zero, List.set_cons_succ]
        refine heldTake 9 (some 167) (v := ?_) rfl rfl (by kernel_rfl) (by kernel_rfl) (by kernel_rfl) (by rfl) hHeld (fun _ _ _ h => h) ?_ ?_
        rotate_left
        · intro w' hSw; (try dsimp only at hSw); go_simp <;> with_reducible rfl
        simp only [Act.put, List.setIfInBounds_toArray, List.set_cons_zero, List.set_cons_succ]
        refine heldTake 10 (some 168) (v := ?_) rfl rfl (by kernel_rfl) (by kernel_rfl) (by kernel_rfl) (by rfl) hHeld (fun _ _ _ h => h) ?_ ?_
        rotate_left
        · intro w' hSw; (try dsimp only at hSw); have hH' := HoldsK.keep (HR.out) (hSw.block blk (by omega)); have la := load_elem HK.out hH' (i := h) (by omega); rw [HXJ.out] at la; go_simp <;> with_reducible rfl
        simp only [Act.put, List.setIfInBounds_toArray, List.set_cons_zero, List.set_cons_succ]
        refine heldCall 11 (some 169) (f := ?_) (args := ?_) rfl rfl (by kernel_rfl) (by rfl) ?_ ?_
        rotate_left 2
        · go_simp <;> first | (constructor <;> with_reducible rfl) | with_reducible rfl
        (with_reducible refine hcq.mono ?_)
        rintro _ w2 ⟨rfl, hb2'⟩
        have hb2 : Below wr.heap.size wr w2 := Below.undrew hb2'
        have hs2 := hb2.size
        refine ⟨_, rfl, keepAnd ?_ (fun hNew => ?_)⟩
        · exact hb2
        clear hHeld
        have hHeld := hNew
        clear hNew
        simp only [Act.put, List.setIfInBounds_toArray, List.set_cons_zero, List.set_cons_succ]
        refine heldTake 12 (some 170) (v := ?_) rfl rfl (by kernel_rfl) (by kernel_rfl) (by kernel_rfl) (by rfl) hHeld (fun _ _ _ h => h) ?_ ?_
        rotate_left
        · intro w' hSw; (try dsimp only at hSw); go_simp <;> with_reducible rfl
        simp only [Act.put, List.setIfInBounds_toArray, List.set_cons_zero, List.set_cons_succ]
        refine heldTake 13 (some 171) (v := ?_) rfl rfl (by kernel_rfl) (by kernel_rfl) (by kernel_rfl) (by rfl) hHeld (fun _ _ _ h => h) ?_ ?_
        rotate_left
        · intro w' hSw; (try dsimp only at hSw); go_simp <;> with_reducible rfl
        simp only [Act.put, List.setIfInBounds_toArray, List.set_cons_zero, List.set_cons_succ]
        refine wpAnyH_done (by kernel_rfl) ?_ _
        refine NoPanic.normal ?_
        have hH2 : HoldsK enc k w2 blk off d := HoldsK.keep HR.out (hb2.block blk (by omega))
        have hB2 : Below w.heap.size w w2 := hB.trans (hb2.mono (by omega))
        clear hcq hHeld
        by_cases hlv : cv < 0
        case pos =>
          have HL : Hid (ltOf cf d[q]! d[h]! = true) := Lib.hid (by rw [ltOf, ← HCV.out]; exact decide_eq_true hlv)
          rw [show (!decide (cv < 0)) = false from by rw [decide_eq_true hlv]; rfl]
          go_wp2_with fail
          go_roundw
          case rel => exact ⟨i, h, rfl, rfl, hi, hh1, by omega, Q1, Lib.hid (fun _ => by rw [← HQQ.out]; exact HL.out), Lib.hid hH2, hB2⟩
          case measure => simp [RowKit.intOf] <;> omega
        case neg =>
          have HL : Hid (ltOf cf d[q]! d[h]! = false) := Lib.hid (by rw [ltOf, ← HCV.out]; exact decide_eq_false hlv)
          rw [show (!decide (cv < 0)) = true from by rw [decide_eq_false hlv]; rfl]
          go_wp2_with fail
          go_roundw
          case rel => exact ⟨h + 1, j, by go_num, rfl, by omega, by omega, hjb, Lib.hid (fun _ => by rw [show mid + m - (h + 1) = q from by have := HQQ.out; omega, Nat.add_sub_cancel]; exact HL.out), Q2, Lib.hid hH2, hB2⟩
          case measure => simp [RowKit.intOf] <;> omega
      case neg =>
        obtain rfl : i = j := by omega
        obtain ⟨en, hen⟩ : ∃ e, e = mid + m - i := ⟨_, rfl⟩
        have hcut : SymCut (ltOf cf) d a m b i := by
          have e := HMID.out
          subst e
          exact SymCut.of S HS1.out HS2.out ham hmb (s0 := a) (r0 := m) (if_neg hgm).symm (if_neg hgm).symm hi hjb Q1.out Q2.out
        have h1 := hcut.lo
        have h2 := hcut.hi
        have h3 : m ≤ en := by have := hcut.hm; have := HMID.out; omega
        have h4 : en ≤ b := by have := hcut.he; have := HMID.out; omega
        have hez : (mid : Int) + (m : Int) - (i : Int) = (en : Int) := by omega
        have hwe : IntKind.i64.wrap (en : Int) = (en : Int) := by rw [IntKind.wrap_i64]; omega
        have HEN := Lib.hid hen
        have HCUT := Lib.hid hcut
        clear hen hcut
        by_cases hr : i < m ∧ m < en
        case pos =>
          obtain ⟨r1, r2⟩ := hr
          go_wp2_with fail
          (with_reducible refine (rotate_any enc k aE zE HK.out H1.out blk off cap i m en d.size d rfl _ wr HR.out r1 r2 (by omega) hsz).mono ?_)
          rintro _ w3 ⟨rfl, d1, hrot, hH3, hC3⟩
          have hC : Chg (· = blk) w w3 := (Chg.of_below hB _).trans hC3 (fun _ _ h => h)
          have hT : i ≤ mid ∧ mid ≤ en ∧ PermIn a b d d1 ∧ SortedIn (ltOf cf) a i d1 ∧ SortedIn (ltOf cf) i mid d1 ∧ SortedIn (ltOf cf) mid en d1 ∧ SortedIn (ltOf cf) en b d1 ∧ ∀ i k, a ≤ i → i < mid → mid ≤ k → k < b → ltOf cf d1[k]! d1[i]! = false := by
            have e := HMID.out
            have e2 := HEN.out
            subst e2
            subst e
            exact SymCut.rot HS1.out HS2.out hb HCUT.out hrot ham
          obtain ⟨t1, t2, t3, t4, t5, t6, t7, t8⟩ := hT
          have T8 := Lib.hid t8
          have hz1 : d1.size = d.size := t3.1
          clear t8 hrot
          by_cases hl : a < i ∧ i < mid
          case pos =>
            obtain ⟨u1, u2⟩ := hl
            have hI1 := IH.out a i mid d1 hz1 w3 hH3 (by have := hC.size; omega) u1 u2 (by omega) t4 t5 (by omega)
            go_wp2_with fail
            all_goals (
              (with_reducible refine hI1.mono ?_)
              rintro _ w4 ⟨rfl, d2, p4, s4, hH4, hC4⟩
              have hC' : Chg (· = blk) w w4 := hC.trans hC4 (fun _ _ h => h)
              have hz2 : d2.size = d.size := by have := (p4).1; omega
              have hm3 : SortedIn (ltOf cf) mid en d2 := SortedIn.congr t6 (fun x g1 g2 => (p4).2.1 x (.inr g1))
              have hm4 : SortedIn (ltOf cf) en b d2 := SortedIn.congr t7 (fun x g1 g2 => (p4).2.1 x (.inr (by omega)))
              have HM3 := Lib.hid hm3
              have HM4 := Lib.hid hm4
              have HP1 := Lib.hid (p4)
              have HS := Lib.hid (s4)
              clear hm3 hm4
              by_cases hr2 : mid < en ∧ en < b
              case pos =>
                obtain ⟨v1, v2⟩ := hr2
                have hI2 := IH.out mid en b d2 hz2 w4 hH4 (by have := (hC').size; omega) v1 v2 (by omega) HM3.out HM4.out (by omega)
                go_wp2_with fail
                all_goals (with_reducible refine hI2.mono ?_)
                all_goals rintro _ w5 ⟨rfl, d3, p5, s5, hH5, hC5⟩
                all_goals go_wp2_with fail
                all_goals (go_end0)
                all_goals exact ⟨rfl, d3, (sym_join (by omega) (by omega) (by omega) T8.out HP1.out HS.out p5 s5).1 |> permIn_trans _ _ _ _ _ t3, (sym_join (by omega) (by omega) (by omega) T8.out HP1.out HS.out p5 s5).2, hH5, (hC').trans hC5 (fun _ _ h => h)⟩
              case neg =>
                have hs9 : SortedIn (ltOf cf) mid b d2 := by
                  rcases Nat.lt_or_ge mid en with c | c
                  · exact SortedIn.sub HM3.out (Nat.le_refl _) (by omega)
                  · exact SortedIn.sub HM4.out (by omega) (Nat.le_refl _)
                have HS9 := Lib.hid hs9
                clear hs9
                go_wp2_with fail
                all_goals (go_end0)
                all_goals exact ⟨rfl, d2, (sym_join (by omega) (by omega) (by omega) T8.out HP1.out HS.out (permIn_refl _ _ _) HS9.out).1 |> permIn_trans _ _ _ _ _ t3, (sym_join (by omega) (by omega) (by omega) T8.out HP1.out HS.out (permIn_refl _ _ _) HS9.out).2, hH4, hC'⟩)
          case neg =>
            have hs8 : SortedIn (ltOf cf) a mid d1 := by
              rcases Nat.lt_or_ge a i with c | c
              · exact SortedIn.sub t4 (Nat.le_refl _) (by omega)
              · exact SortedIn.sub t5 (by omega) (Nat.le_refl _)
            have hz2 : d1.size = d.size := by have := (permIn_refl d1 a mid).1; omega
            have hm3 : SortedIn (ltOf cf) mid en d1 := SortedIn.congr t6 (fun x g1 g2 => (permIn_refl d1 a mid).2.1 x (.inr g1))
            have hm4 : SortedIn (ltOf cf) en b d1 := SortedIn.congr t7 (fun x g1 g2 => (permIn_refl d1 a mid).2.1 x (.inr (by omega)))
            have HM3 := Lib.hid hm3
            have HM4 := Lib.hid hm4
            have HP1 := Lib.hid (permIn_refl d1 a mid)
            have HS := Lib.hid (hs8)
            clear hm3 hm4
            by_cases hr2 : mid < en ∧ en < b
            case pos =>
              obtain ⟨v1, v2⟩ := hr2
              have hI2 := IH.out mid en b d1 hz2 w3 hH3 (by have := (hC).size; omega) v1 v2 (by omega) HM3.out HM4.out (by omega)
              go_wp2_with fail
              all_goals (with_reducible refine hI2.mono ?_)
              all_goals rintro _ w5 ⟨rfl, d3, p5, s5, hH5, hC5⟩
              all_goals go_wp2_with fail
              all_goals (go_end0)
              all_goals exact ⟨rfl, d3, (sym_join (by omega) (by omega) (by omega) T8.out HP1.out HS.out p5 s5).1 |> permIn_trans _ _ _ _ _ t3, (sym_join (by omega) (by omega) (by omega) T8.out HP1.out HS.out p5 s5).2, hH5, (hC).trans hC5 (fun _ _ h => h)⟩
            case neg =>
              have hs9 : SortedIn (ltOf cf) mid b d1 := by
                rcases Nat.lt_or_ge mid en with c | c
                · exact SortedIn.sub HM3.out (Nat.le_refl _) (by omega)
                · exact SortedIn.sub HM4.out (by omega) (Nat.le_refl _)
              have HS9 := Lib.hid hs9
              clear hs9
              go_wp2_with fail
              all_goals (go_end0)
              all_goals exact ⟨rfl, d1, (sym_join (by omega) (by omega) (by omega) T8.out HP1.out HS.out (permIn_refl _ _ _) HS9.out).1 |> permIn_trans _ _ _ _ _ t3, (sym_join (by omega) (by omega) (by omega) T8.out HP1.out HS.out (permIn_refl _ _ _) HS9.out).2, hH3, hC⟩
        case neg =>
          have hrot : RotOf d i m en d := by
            rcases Nat.lt_or_ge i m with c | c
            · obtain rfl : m = en := by omega
              exact RotOf.right
            · obtain rfl : i = m := by omega
              exact RotOf.left h3
          have hH3 : HoldsK enc k wr blk off d := HR.out
          have hC : Chg (· = blk) w wr := Chg.of_below hB _
          obtain ⟨d1, hd1⟩ : ∃ x, x = d := ⟨_, rfl⟩
          rw [← hd1] at hH3
          have hrot : RotOf d i m en d1 := by rw [hd1]; exact hrot
          have HD1 := Lib.hid hd1
          clear hd1
          have hT : i ≤ mid ∧ mid ≤ en ∧ PermIn a b d d1 ∧ SortedIn (ltOf cf) a i d1 ∧ SortedIn (ltOf cf) i mid d1 ∧ SortedIn (ltOf cf) mid en d1 ∧ SortedIn (ltOf cf) en b d1 ∧ ∀ i k, a ≤ i → i < mid → mid ≤ k → k < b → ltOf cf d1[k]! d1[i]! = false := by
            have e := HMID.out
            have e2 := HEN.out
            subst e2
            subst e
            exact SymCut.rot HS1.out HS2.out hb HCUT.out hrot ham
          obtain ⟨t1, t2, t3, t4, t5, t6, t7, t8⟩ := hT
          have T8 := Lib.hid t8
          have hz1 : d1.size = d.size := t3.1
          clear t8 hrot
          by_cases hl : a < i ∧ i < mid
          case pos =>
            obtain ⟨u1, u2⟩ := hl
            have hI1 := IH.out a i mid d1 hz1 wr hH3 (by have := hC.size; omega) u1 u2 (by omega) t4 t5 (by omega)
            go_wp2_with fail
            all_goals (
              (with_reducible refine hI1.mono ?_)
              rintro _ w4 ⟨rfl, d2, p4, s4, hH4, hC4⟩
              have hC' : Chg (· = blk) w w4 := hC.trans hC4 (fun _ _ h => h)
              have hz2 : d2.size = d.size := by have := (p4).1; omega
              have hm3 : SortedIn (ltOf cf) mid en d2 := SortedIn.congr t6 (fun x g1 g2 => (p4).2.1 x (.inr g1))
              have hm4 : SortedIn (ltOf cf) en b d2 := SortedIn.congr t7 (fun x g1 g2 => (p4).2.1 x (.inr (by omega)))
              have HM3 := Lib.hid hm3
              have HM4 := Lib.hid hm4
              have HP1 := Lib.hid (p4)
              have HS := Lib.hid (s4)
              clear hm3 hm4
              by_cases hr2 : mid < en ∧ en < b
              case pos =>
                obtain ⟨v1, v2⟩ := hr2
                have hI2 := IH.out mid en b d2 hz2 w4 hH4 (by have := (hC').size; omega) v1 v2 (by omega) HM3.out HM4.out (by omega)
                go_wp2_with fail
                all_goals (with_reducible refine hI2.mono ?_)
                all_goals rintro _ w5 ⟨rfl, d3, p5, s5, hH5, hC5⟩
                all_goals go_wp2_with fail
                all_goals (go_end0)
                all_goals exact ⟨rfl, d3, (sym_join (by omega) (by omega) (by omega) T8.out HP1.out HS.out p5 s5).1 |> permIn_trans _ _ _ _ _ t3, (sym_join (by omega) (by omega) (by omega) T8.out HP1.out HS.out p5 s5).2, hH5, (hC').trans hC5 (fun _ _ h => h)⟩
              case neg =>
                have hs9 : SortedIn (ltOf cf) mid b d2 := by
                  rcases Nat.lt_or_ge mid en with c | c
                  · exact SortedIn.sub HM3.out (Nat.le_refl _) (by omega)
                  · exact SortedIn.sub HM4.out (by omega) (Nat.le_refl _)
                have HS9 := Lib.hid hs9
                clear hs9
                go_wp2_with fail
                all_goals (go_end0)
                all_goals exact ⟨rfl, d2, (sym_join (by omega) (by omega) (by omega) T8.out HP1.out HS.out (permIn_refl _ _ _) HS9.out).1 |> permIn_trans _ _ _ _ _ t3, (sym_join (by omega) (by omega) (by omega) T8.out HP1.out HS.out (permIn_refl _ _ _) HS9.out).2, hH4, hC'⟩)
          case neg =>
            have hs8 : SortedIn (ltOf cf) a mid d1 := by
              rcases Nat.lt_or_ge a i with c | c
              · exact SortedIn.sub t4 (Nat.le_refl _) (by omega)
              · exact SortedIn.sub t5 (by omega) (Nat.le_refl _)
            have hz2 : d1.size = d.size := by have := (permIn_refl d1 a mid).1; omega
            have hm3 : SortedIn (ltOf cf) mid en d1 := SortedIn.congr t6 (fun x g1 g2 => (permIn_refl d1 a mid).2.1 x (.inr g1))
            have hm4 : SortedIn (ltOf cf) en b d1 := SortedIn.congr t7 (fun x g1 g2 => (permIn_refl d1 a mid).2.1 x (.inr (by omega)))
            have HM3 := Lib.hid hm3
            have HM4 := Lib.hid hm4
            have HP1 := Lib.hid (permIn_refl d1 a mid)
            have HS := Lib.hid (hs8)
            clear hm3 hm4
            by_cases hr2 : mid < en ∧ en < b
            case pos =>
              obtain ⟨v1, v2⟩ := hr2
              have hI2 := IH.out mid en b d1 hz2 wr hH3 (by have := (hC).size; omega) v1 v2 (by omega) HM3.out HM4.out (by omega)
              go_wp2_with fail
              all_goals (with_reducible refine hI2.mono ?_)
              all_goals rintro _ w5 ⟨rfl, d3, p5, s5, hH5, hC5⟩
              all_goals go_wp2_with fail
              all_goals (go_end0)
              all_goals exact ⟨rfl, d3, (sym_join (by omega) (by omega) (by omega) T8.out HP1.out HS.out p5 s5).1 |> permIn_trans _ _ _ _ _ t3, (sym_join (by omega) (by omega) (by omega) T8.out HP1.out HS.out p5 s5).2, hH5, (hC).trans hC5 (fun _ _ h => h)⟩
            case neg =>
              have hs9 : SortedIn (ltOf cf) mid b d1 := by
                rcases Nat.lt_or_ge mid en with c | c
                · exact SortedIn.sub HM3.out (Nat.le_refl _) (by omega)
                · exact SortedIn.sub HM4.out (by omega) (Nat.le_refl _)
              have HS9 := Lib.hid hs9
              clear hs9
              go_wp2_with fail
              all_goals (go_end0)
              all_goals exact ⟨rfl, d1, (sym_join (by omega) (by omega) (by omega) T8.out HP1.out HS.out (permIn_refl _ _ _) HS9.out).1 |> permIn_trans _ _ _ _ _ t3, (sym_join (by omega) (by omega) (by omega) T8.out HP1.out HS.out (permIn_refl _ _ _) HS9.out).2, hH3, hC⟩
end Go.Proofs.Ytkhmjlahlcighaa
