/-
  The stable sort: rotate.
-/
import Derived.Test.YtkhmjlahlcighaaStabA
namespace Go.Proofs.Ytkhmjlahlcighaa
open Go.RowKit Go.Lib Go.IntWalk Go.Sort Go.Shelf

set_option maxRecDepth 1000000 in
set_option maxHeartbeats 4000000 in
theorem rotate_any {α : Type} [Inhabited α] (enc : α → List Value) (k : Nat) (aE : ∀ w, (isAgg 38).run Try.prog w = .ok true w) (zE : ∀ w, (Go.sizeOf 38).run Try.prog w = .ok k w) (hk : ∀ x, (enc x).length = k) (h1 : ∀ x, ∀ v ∈ enc x, v.oneCell' = true)
    (blk off cap a m b sz : Nat) (d : Array α) (hz : d.size = sz) (fv : Value) (w : World) (hH : HoldsK enc k w blk off d) (ham : a < m) (hmb : m < b) (hb : b ≤ d.size) (hsz : d.size < 4611686018427387904) :
    Calls Try.prog 41 #[.slice (some ⟨blk, off, none⟩) sz cap, .int .i64 a, .int .i64 m, .int .i64 b, fv] w fun e w' =>
      e = .returned (.tuple #[]) ∧ ∃ d', RotOf d a m b d' ∧ HoldsK enc k w' blk off d' ∧ Chg (· = blk) w w' := by
  subst hz
  have HH : Hid (HoldsK enc k w blk off d) := hH
  have HK : Hid (∀ x, (enc x).length = k) := hk
  have H1 : Hid (∀ x, ∀ v ∈ enc x, v.oneCell' = true) := h1
  have AE : Hid (∀ w, (isAgg 38).run Try.prog w = .ok true w) := aE
  have ZE : Hid (∀ w, (Go.sizeOf 38).run Try.prog w = .ok k w) := zE
  clear hH hk h1 aE zE
  have ei : IntKind.i64.wrap ((m : Int) - (a : Int)) = ((m - a : Nat) : Int) := by rw [IntKind.wrap_i64]; omega
  have ej : IntKind.i64.wrap ((b : Int) - (m : Int)) = ((b - m : Nat) : Int) := by rw [IntKind.wrap_i64]; omega
  go_enter Try.func41, Try.ntmps41
  go_wp2_with fail
  go_loopw [10, 11] (fun vi vj wr => ∃ (i j : Nat) (dk : Array α), vi = .int .i64 (i : Int) ∧ vj = .int .i64 (j : Int) ∧ 0 < i ∧ 0 < j ∧ i ≤ m ∧ m + j ≤ b ∧ dk.size = d.size ∧ Hid (HoldsK enc k wr blk off dk) ∧ Hid (∀ d', RotOf dk (m - i) m (m + j) d' → RotOf d a m b d') ∧ Chg (· = blk) w wr) (fun vi vj _ => (RowKit.intOf vi).toNat + (RowKit.intOf vj).toNat)
  case atStart => exact ⟨m - a, b - m, d, rfl, rfl, by omega, by omega, by omega, by omega, rfl, HH, Lib.hid (fun d' h => by rwa [show m - (m - a) = a from by omega, show m + (b - m) = b from by omega] at h), Chg.refl _ _⟩
  case round =>
    obtain ⟨i, j, dk, rfl, rfl, hi, hj, him, hjb, hsk, HR, HI, hC⟩ := hrel
    by_cases hij : i = j
    case pos =>
      subst hij
      have em : IntKind.i64.wrap ((m : Int) - (i : Int)) = ((m - i : Nat) : Int) := by rw [IntKind.wrap_i64]; omega
      go_wp2_with fail
      (with_reducible refine (swapRange_any enc k AE.out ZE.out HK.out H1.out blk off cap (m - i) m i d.size dk hsk fv wr HR.out (by omega) (by omega) (by omega)).mono ?_)
      rintro _ w2 ⟨rfl, hH2, hC2⟩
      go_wp2_with fail
      go_end0
      exact ⟨rfl, _, HI.out _ (RotOf.eq (by omega) (by omega)), hH2, hC.trans hC2 (fun _ _ h => h)⟩
    case neg =>
      by_cases hgt : j < i
      case pos =>
        have em : IntKind.i64.wrap ((m : Int) - (i : Int)) = ((m - i : Nat) : Int) := by rw [IntKind.wrap_i64]; omega
        have ed : IntKind.i64.wrap ((i : Int) - (j : Int)) = ((i - j : Nat) : Int) := by rw [IntKind.wrap_i64]; omega
        have hne : ¬ ((i : Int) = (j : Int)) := by omega
        have hgz : (j : Int) < (i : Int) := by omega
        go_wp2_with fail
        (with_reducible refine (swapRange_any enc k AE.out ZE.out HK.out H1.out blk off cap (m - i) m j d.size dk hsk fv wr HR.out (by omega) (by omega) (by omega)).mono ?_)
        rintro _ w2 ⟨rfl, hH2, hC2⟩
        go_wp2_with fail
        go_roundw
        case rel => exact ⟨i - j, j, _, rfl, rfl, by omega, hj, by omega, hjb, by rw [size_swpR]; exact hsk, hH2, Lib.hid (fun d' h => HI.out d' (RotOf.gt hgt him (by omega) h)), hC.trans hC2 (fun _ _ h => h)⟩
        case measure => simp [RowKit.intOf]; omega
      case neg =>
        have em : IntKind.i64.wrap ((m : Int) - (i : Int)) = ((m - i : Nat) : Int) := by rw [IntKind.wrap_i64]; omega
        have ep : IntKind.i64.wrap ((m : Int) + (j : Int)) = ((m + j : Nat) : Int) := by rw [IntKind.wrap_i64]; omega
        have eq' : IntKind.i64.wrap ((m : Int) + (j : Int) - (i : Int)) = ((m + j - i : Nat) : Int) := by rw [IntKind.wrap_i64]; omega
        have ed : IntKind.i64.wrap ((j : Int) - (i : Int)) = ((j - i : Nat) : Int) := by rw [IntKind.wrap_i64]; omega
        have hne : ¬ ((i : Int) = (j : Int)) := by omega
        have hgz : ¬ (j : Int) < (i : Int) := by omega
        have hm0 : m - i + i ≤ m + j - i := by omega
        go_wp2_with fail
        (with_reducible refine (swapRange_any enc k AE.out ZE.out HK.out H1.out blk off cap (m - i) (m + j - i) i d.size dk hsk fv wr HR.out (by omega) (by omega) (by omega)).mono ?_)
        rintro _ w2 ⟨rfl, hH2, hC2⟩
        go_wp2_with fail
        go_roundw
        case rel => exact ⟨i, j - i, _, rfl, rfl, hi, by omega, him, by omega, by rw [size_swpR]; exact hsk, hH2, Lib.hid (fun d' h => HI.out d' (RotOf.lt (by omega) him (by omega) h)), hC.trans hC2 (fun _ _ h => h)⟩
        case measure => simp [RowKit.intOf]; omega
end Go.Proofs.Ytkhmjlahlcighaa
