/-
  CompactionChoose: the law's walk.
-/
import Derived.Test.YtkhmjlahlcighaaVerK
namespace Go.Proofs.Ytkhmjlahlcighaa
open Go.RowKit Go.Lib Go.IntWalk Go.Sort Go.Shelf

set_option maxRecDepth 1000000 in
set_option maxHeartbeats 2000000 in
theorem lawChoose_any (v : Value) (l : List Int) (w : World) (hv : RdI w (· < w.heap.size) v l) :
    Calls Try.prog 3 #[v] w fun e w' => e = .returned (.bool true) ∧ Below w.heap.size w w' := by
  obtain ⟨A, c, rfl, hc1, hc2, hc3⟩ := Rd.open_ hv
  unfold maxLen at hc2
  have HVS := Lib.hid hv
  clear hv hc3
  by_cases h60 : 60 < l.length
  case pos =>
    have hz : (60 : Int) < (l.length : Int) := by omega
    go_enter Try.func3, Try.ntmps3
    go_wp2_with fail
    (with_reducible refine (works_any w).mono ?_)
    rintro _ w2 ⟨rfl, hb2⟩
    go_wp2_with fail
    go_ret
    exact ⟨rfl, hb2⟩
  case neg =>
    have hz : ¬ (60 : Int) < (l.length : Int) := by omega
    go_enter Try.func3, Try.ntmps3
    go_wp2_with fail
    go_loopw [15] (fun vi wr => ∃ i : Nat, vi = .int .i64 (i : Int) ∧ i ≤ l.length ∧ Hid (∀ j (h : j < l.length), j < i → l[j] ≤ 1099511627776) ∧ wr = w) (fun vi _ => l.length - (intOf vi).toNat)
    case atStart => exact ⟨0, rfl, Nat.zero_le _, Lib.hid (fun j _ h => by omega), rfl⟩
    case round =>
      obtain ⟨i, rfl, hi, HI, hw⟩ := hrel
      rw [hw]
      clear hw
      by_cases hlt : i < l.length
      case pos =>
        obtain ⟨b, off, rfl, hF, hc⟩ := RdI.at_ HVS.out hlt
        have hn : l[i] ≤ 1099511627776 → ∀ j (h : j < l.length), j < i + 1 → l[j] ≤ 1099511627776 := fun h0 j h h1 => by
          by_cases e : j = i
          · subst e; exact h0
          · exact HI.out j h (by omega)
        have HN := Lib.hid hn
        clear hn
        generalize l[i] = x at *
        by_cases hx : 1099511627776 < x
        case pos =>
          go_wp2_with fail
          (with_reducible refine (works_any w).mono ?_)
          rintro _ w2 ⟨rfl, hb2⟩
          go_wp2_with fail
          go_ret
          exact ⟨rfl, hb2⟩
        case neg =>
          have HN2 := Lib.hid (HN.out (by omega))
          go_wp2_with fail
          go_roundw
          case rel => exact ⟨i + 1, by go_num, by omega, HN2, by first | rfl | trivial⟩
          case measure => simp [intOf]; omega
      case neg =>
        have hie : i = l.length := by omega
        have hsm : SmallI l := ⟨by omega, fun x hx => by
          obtain ⟨j, hj, rfl⟩ := List.mem_iff_getElem.1 hx
          exact HI.out j hj (by omega)⟩
        have HSM := Lib.hid hsm
        have K1 := choose_any _ l w _ HVS.out hsm
        have K2 := refChoose_any _ l w _ HVS.out hsm
        clear hsm HI
        go_wp2_with fail
        (with_reducible refine K1.mono ?_)
        rintro _ w1 ⟨a, b, rfl, hb1, hw1⟩
        rw [hw1]
        clear hw1 w1
        have HB1 := Lib.hid hb1
        clear hb1
        go_wp2_with fail
        (with_reducible refine K2.mono ?_)
        rintro _ w1 ⟨a', b', rfl, hb2, hw1⟩
        rw [hw1]
        clear hw1 w1
        obtain ⟨rfl, rfl⟩ := Best.unique HB1.out hb2
        clear hb2
        rcases HB1.out with ⟨ea, eb, _⟩ | ⟨hbal, _⟩
        · subst ea; subst eb
          clear K1 K2
          go_wp2_with fail
          (with_reducible refine (works_any w).mono ?_)
          rintro _ w2 ⟨rfl, hb3⟩
          go_wp2_with fail
          go_ret
          exact ⟨rfl, hb3⟩
        · have hab := hbal.1
          have hbl := hbal.2.1
          have hR := RdI.cut HVS.out (i := a) (j := b) (by omega) hbl
          have KB := balanced_any _ _ w _ hR (HSM.out.of_seg hbl)
          rw [hbal.2.2] at KB
          have hsl := fun W => slice_int (A := A) (n := l.length) (c := c) a b (by omega) (by omega) W
          have hne : ¬ (a : Int) = (b : Int) := by omega
          have hab0 : (a : Int) < (b : Int) := by omega
          clear K1 K2 hR hbal
          go_wp2_with fail
          (with_reducible refine KB.mono ?_)
          rintro _ w1 ⟨rfl, hw1⟩
          rw [hw1]
          clear hw1 w1
          go_wp2_with fail
          (with_reducible refine (works_any w).mono ?_)
          rintro _ w2 ⟨rfl, hb3⟩
          go_wp2_with fail
          go_ret
          exact ⟨rfl, hb3⟩
end Go.Proofs.Ytkhmjlahlcighaa
