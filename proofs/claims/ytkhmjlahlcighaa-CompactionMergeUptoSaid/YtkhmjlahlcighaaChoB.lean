/-
  Which range is chosen: the reference.
-/
import Derived.Test.YtkhmjlahlcighaaChoA
namespace Go.Proofs.Ytkhmjlahlcighaa
open Go.RowKit Go.Lib Go.IntWalk Go.Sort Go.Shelf

theorem infoI : (Try.prog.info? 3).map (fun i => (i.zero, i.size, i.bytes)) = some (some (.int .i64 0), 1, 8) := by kernel_rfl
theorem RdI.cut {w : World} {F : Nat → Prop} {A : Option Addr} {c : Nat} {l : List Int} (h : RdI w F (.slice A l.length c) l) {i j : Nat} (hij : i ≤ j) (hj : j ≤ l.length) : RdI w F (.slice (cutA A c i 1) (j - i) (c - i)) (seg l i j) := by
  obtain ⟨A', c', e, h1, h2, h3⟩ := Rd.open_ h
  injection e with e1 e2 e3
  subst e1; subst e3
  have := Rd.cut' h (l := i) (h := j) (m := c) hij hj (by omega) (Nat.le_refl _)
  unfold RdI
  rw [seg_length l i j hj]
  have e : iv (seg l i j) = ((iv l).drop (i * 1)).take ((j - i) * 1) := by simp [iv, seg, List.map_take, List.map_drop]
  rw [e]
  exact this
theorem SmallI.of_seg {l : List Int} (h : SmallI l) {i j : Nat} (hj : j ≤ l.length) : SmallI (Go.Proofs.Ytkhmjlahlcighaa.seg l i j) :=
  ⟨by rw [seg_length l i j hj]; have := h.1; omega, fun x hx => h.2 x (seg_mem hx)⟩
theorem slice_int {A : Option Addr} {n c : Nat} (i j : Nat) (hij : i ≤ j) (hj : j ≤ c) (w : World) :
    (Instr.slice 22 (.slice A n c) (some (.int .i64 (i : Int))) (some (.int .i64 (j : Int))) none).run Try.prog w = .ok (.slice (cutA A c i 1) (j - i) (c - i)) w := by
  obtain ⟨i0, hi, hz0, hz1, hz2⟩ := info_parts infoI
  exact run_slice_lohi (P := Try.prog) Try.underlying22 hi hz1 A n c i j hij hj w

set_option maxRecDepth 1000000 in
set_option maxHeartbeats 2000000 in
theorem refChoose_any (v : Value) (l : List Int) (w : World) (F : Nat → Prop) (hv : RdI w F v l) (hs : SmallI l) :
    Calls Try.prog 7 #[v] w fun e w' => ∃ a b : Nat, e = .returned (.tuple #[.int .i64 (a : Int), .int .i64 (b : Int)]) ∧ Best l (fun _ _ => True) a b ∧ w' = w := by
  obtain ⟨A, c, rfl, hc1, hc2, hc3⟩ := Rd.open_ hv
  unfold maxLen at hc2
  have hlen := hs.1
  have HVS := Lib.hid hv
  have HS := Lib.hid hs
  clear hv hs hc3
  go_enter Try.func7, Try.ntmps7
  go_wp2_with fail
  go_loopw [4] (fun vn wr => ∃ n : Nat, vn = .int .i64 (n : Int) ∧ n ≤ l.length ∧ Hid (NoneAt l n 0) ∧ wr = w) (fun vn _ => (intOf vn).toNat)
  case atStart => exact ⟨l.length, rfl, Nat.le_refl _, Lib.hid (none_start l), rfl⟩
  case round =>
    obtain ⟨n, rfl, hn, HN, hw⟩ := hrel
    rw [hw]
    clear hw
    by_cases h2 : 2 ≤ n
    case neg =>
      have hz : ¬ (2 : Int) ≤ (n : Int) := by omega
      have HB : Hid (Best l (fun _ _ => True) 0 0) := Lib.hid (none_end HN.out (by omega))
      go_wp2_with fail
      go_ret2
      exact ⟨0, 0, rfl, HB.out, rfl⟩
    case pos =>
      have hz : (2 : Int) ≤ (n : Int) := by omega
      go_wp2_with fail
      go_loopw [5] (fun vi wr => ∃ i : Nat, vi = .int .i64 (i : Int) ∧ i ≤ l.length ∧ Hid (NoneAt l n i) ∧ wr = w) (fun vi _ => l.length - (intOf vi).toNat)
      case atStart => exact ⟨0, rfl, Nat.zero_le _, HN, rfl⟩
      case round =>
        obtain ⟨i, rfl, hi, HNI, hw⟩ := hrel
        rw [hw]
        clear hw
        by_cases h3 : i + n ≤ l.length
        case neg =>
          have hz3 : ¬ (i : Int) + (n : Int) ≤ (l.length : Int) := by omega
          have HR : Hid (NoneAt l (n - 1) 0) := Lib.hid (none_row HNI.out (by omega) (by omega))
          have ez : IntKind.i64.wrap ((n : Int) - 1) = ((n - 1 : Nat) : Int) := by rw [IntKind.wrap_i64]; omega
          have EZ := Lib.hid ez
          have hn0 : 0 < n := by omega
          have hlo : n ≤ 60 := by omega
          clear ez
          go_wp2_with fail
          go_roundw
          case rel => exact ⟨n - 1, by first | rfl | (congr 1; omega), by omega, HR, by first | rfl | trivial⟩
          case measure => simp [intOf]; omega
        case pos =>
          have hz3 : (i : Int) + (n : Int) ≤ (l.length : Int) := by omega
          have hR := RdI.cut HVS.out (i := i) (j := i + n) (by omega) h3
          have hsl : ∀ W, (Instr.slice 22 (.slice A l.length c) (some (.int .i64 (i : Int))) (some (.int .i64 ((i : Int) + (n : Int)))) none).run Try.prog W = .ok (.slice (cutA A c i 1) n (c - i)) W := fun W => by
            have := slice_int (A := A) (n := l.length) (c := c) i (i + n) (by omega) (by omega) W
            rw [Nat.add_sub_cancel_left, Int.natCast_add] at this
            exact this
          rw [Nat.add_sub_cancel_left] at hR
          have KB := balanced_any _ _ w F hR (HS.out.of_seg h3)
          have hbl : Bal l i (i + n) ↔ balP (seg l i (i + n)) = true := ⟨fun h => h.2.2, fun h => ⟨by omega, h3, h⟩⟩
          have HBL := Lib.hid hbl
          generalize balP (seg l i (i + n)) = r at *
          clear hbl hR
          cases r
          case false =>
            have HR : Hid (NoneAt l n (i + 1)) := Lib.hid (none_next HNI.out (fun h => by have := HBL.out.1 h; cases this))
            go_wp2_with fail
            (with_reducible refine KB.mono ?_)
            rintro _ w2 ⟨rfl, hw2⟩
            rw [hw2]
            clear hw2
            go_wp2_with fail
            go_roundw
            case rel => exact ⟨i + 1, by go_num, by omega, HR, by first | rfl | trivial⟩
            case measure => simp [intOf]; omega
          case true =>
            have HR : Hid (Best l (fun _ _ => True) i (i + n)) := Lib.hid (none_best HNI.out (HBL.out.2 rfl))
            go_wp2_with fail
            (with_reducible refine KB.mono ?_)
            rintro _ w2 ⟨rfl, hw2⟩
            rw [hw2]
            clear hw2
            go_wp2_with fail
            go_ret2
            exact ⟨i, i + n, by simp, HR.out, rfl⟩
end Go.Proofs.Ytkhmjlahlcighaa
