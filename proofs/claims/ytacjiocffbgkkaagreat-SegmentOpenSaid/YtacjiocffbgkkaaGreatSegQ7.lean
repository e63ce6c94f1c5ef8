/-
  law37.few; SegmentBuild.
-/
import Derived.Test.YtacjiocffbgkkaaGreatSegP
namespace Go.Proofs.YtacjiocffbgkkaaGreat
open Go.RowKit Go.Lib Go.IntWalk Go.Sort Go.Shelf

def FewOut (ps : List VP) (w : World) (e : Ending) (w' : World) : Prop := ∃ b : Bool, e = .returned (.bool b) ∧ w' = w ∧ (b = true → ps.length ≤ 100)
set_option maxRecDepth 1000000 in
set_option maxHeartbeats 4000000 in
theorem few_any (v : Value) (ps : List VP) (w : World) (hv : RdVs w (· < w.heap.size) v ps) :
    Calls Tryz.prog 6 #[v] w (FewOut ps w) := by
  obtain ⟨A, c, rfl, hc1, hc2, hc3⟩ := hv.1.open_
  unfold maxLen at hc2
  have HV := Lib.hid hv
  clear hv hc3
  go_enter Tryz.func6, Tryz.ntmps6
  go_wp2_with fail
  go_loopw [3] (fun i wr => ∃ k : Nat, i = .int .i64 (k : Int) ∧ k ≤ ps.length ∧ k ≤ 100 ∧ wr = w) (fun i _ => ps.length - (intOf i).toNat)
  case atStart => exact ⟨0, rfl, Nat.zero_le _, by omega, rfl⟩
  case round =>
    obtain ⟨k, rfl, hk, hk2, hw⟩ := hrel
    rw [hw]
    clear hw
    by_cases hl : k < ps.length
    case neg =>
      have hli : ¬ (k : Int) < (ps.length : Int) := by omega
      have hle : ps.length ≤ 100 := by omega
      have hlei : (ps.length : Int) ≤ 100 := by omega
      have HLE := Lib.hid hle
      go_wp2_with fail
      go_ret
      exact ⟨true, rfl, rfl, fun _ => HLE.out⟩
    case pos =>
      by_cases h2 : k < 100
      case neg =>
        have h2i : ¬ (k : Int) < 100 := by omega
        by_cases h3 : ps.length ≤ 100
        · have hlei : (ps.length : Int) ≤ 100 := by omega
          have HLE := Lib.hid h3
          go_wp2_with fail
          go_ret
          exact ⟨true, rfl, rfl, fun _ => HLE.out⟩
        · have hlei : ¬ (ps.length : Int) ≤ 100 := by omega
          go_wp2_with fail
          go_ret
          exact ⟨false, rfl, rfl, fun h => by cases h⟩
      case pos =>
        have h2i : (k : Int) < 100 := by omega
        have hli : (k : Int) < (ps.length : Int) := by omega
        obtain ⟨b, off, rfl, hF, hcl, hx⟩ := RdVs.at_ HV.out hl
        generalize ps[k] = p at *
        obtain ⟨⟨x1, x2, xA, xn, xc, x3, x4, x5, x6, x7, x8⟩, x⟩ := p
        simp only at hcl
        have g2 : w.cell? ⟨b, off + k * 9 + 2, none⟩ = some (.slice xA xn xc) := hcl 2 _ (by decide) rfl
        clear hcl hx
        by_cases hxn : 20 < xn
        · have hxi : (20 : Int) < (xn : Int) := by omega
          go_wp2_with fail
          go_ret
          exact ⟨false, rfl, rfl, fun h => by cases h⟩
        · have hxi : ¬ (20 : Int) < (xn : Int) := by omega
          go_wp2_with fail
          go_roundw
          case rel => exact ⟨k + 1, by go_num, by omega, by omega, by first | rfl | trivial⟩
          case measure => simp [intOf]; omega
end Go.Proofs.YtacjiocffbgkkaaGreat
