/-
  law37.few; SegmentBuild.
-/
import Derived.Test.YtacjiocffbgkkaaSegP
namespace Go.Proofs.Ytacjiocffbgkkaa
open Go.RowKit Go.Lib Go.IntWalk Go.Sort Go.Shelf

def FewOut (ps : List VP) (w : World) (e : Ending) (w' : World) : Prop := ∃ b : Bool, e = .returned (.bool b) ∧ w' = w ∧ (b = true → ps.length ≤ 100)
set_option maxRecDepth 1000000 in
set_option maxHeartbeats 4000000 in
theorem few_any (v : Value) (ps : List VP) (w : World) (hv : RdVs w (· < w.heap.size) v ps) :
    Calls Try.prog 7 #[v] w (FewOut ps w) := by
  obtain ⟨A, c, rfl, hc1, hc2, hc3⟩ := hv.1.open_
  unfold maxLen at hc2
  have HV := Lib.hid hv
  clear hv hc3
  go_enter Try.func7, Try.ntmps7
  go_wp2_with fail
  go_loopw [3] (fun i wr => ∃ k : Nat, i = .int .i64 (k : Int) ∧ k ≤ ps.length ∧ k ≤ 100 ∧ wr = w) (fun i _ => ps.length - (intOf i).toNat)
  case atStart => exact ⟨0, rfl, Nat.zero_le _, by omega, rfl⟩
  case round =>
    obtain ⟨k, rfl, hk, hk2, hw⟩ := hrel
    rw [hw]
    clear hw
    by_cases hl : k < ps.length
    case neg =>
      have hli : ¬ (k : Int) < (ps.length : Int) := by omega
      have hle : ps.length ≤ 100 := by omega
      have hlei : (ps.length : Int) ≤ 100 := by omega
      have HLE := Lib.hid hle
      go_wp2_with fail
      go_ret
      exact ⟨true, rfl, rfl, fun _ => HLE.out⟩
    case pos =>
      by_cases h2 : k < 100
      case neg =>
        have h2i : ¬ (k : Int) < 100 := by omega
        by_cases h3 : ps.length ≤ 100
        · have hlei : (ps.length : Int) ≤ 100 := by omega
          have HLE := Lib.hid h3
          go_wp2_with fail
          go_ret
          exact ⟨true, rfl, rfl, fun _ => HLE.out⟩
        · have hlei : ¬ (ps.length : Int) ≤ 100 := by omega
          go_wp2_with fail
          go_ret
          exact ⟨false, rfl, rfl, fun h => by cases h⟩
      case pos =>
        have h2i : (k : Int) < 100 := by omega
        have hli : (k : Int) < (ps.length : Int) := by omega
        obtain ⟨b, off, rfl, hF, hcl, hx⟩ := RdVs.at_ HV.out hl
        generalize ps[k] = p at *
        obtain ⟨⟨x1, x2, xA, xn, xc, x3, x4, x5, x6, x7, x8⟩, x⟩ := p
        simp only at hcl
        have g2 : w.cell? ⟨b, off + k * 9 + 2, none⟩ = some (.slice xA xn xc) := hcl 2 _ (by decide) rfl
        clear hcl hx
        by_cases hxn : 20 < xn
        · have hxi : (20 : Int) < (xn : Int) := by omega
          go_wp2_with fail
          go_ret
          exact ⟨false, rfl, rfl, fun h => by cases h⟩
        · have hxi : ¬ (20 : Int) < (xn : Int) := by omega
          go_wp2_with fail
          go_roundw
          case rel => exact ⟨k + 1, by go_num, by omega, by omega, by first | rfl | trivial⟩
          case measure => simp [intOf]; omega
set_option maxRecDepth 1000000 in
set_option maxHeartbeats 4000000 in
theorem lawBuild_any (t : List UInt8) (v : Value) (ps : List VP) (n : Int) (w : World) (hv : RdVs w (· < w.heap.size) v ps) :
    Calls Try.prog 3 #[.string (strB t), v, .int .i64 n] w fun e w' => e = .returned (.bool true) ∧ Below w.heap.size w w' := by
  have KF := few_any v ps w hv
  have HV := Lib.hid hv
  have hsz : (strB t).size = t.length := strB_size t
  have K1 := fun (h1 : t.length ≤ 1048576) (h2 : ps.length ≤ 1048576) => build_any t v ps n w hv h1 h2
  have K2 := fun (W : World) (hW : Below w.heap.size w W) (h1 : t.length ≤ 1048576) (h2 : ps.length ≤ 1048576) => refBuild_any t v ps n W (hv.below hW) h1 h2
  obtain ⟨A, c, rfl, hc1, hc2, hc3⟩ := hv.1.open_
  obtain ⟨S, hS⟩ : ∃ S, S = strB t := ⟨_, rfl⟩
  rw [← hS] at K1 K2 hsz ⊢
  have H1 := Lib.hid K1
  have H2 := Lib.hid K2
  clear hv hc3 hc2 K1 K2 hS
  go_enter Try.func3, Try.ntmps3
  go_wp2_with fail
  (with_reducible refine KF.mono ?_)
  rintro _ w1 ⟨b, rfl, hw1, hb⟩
  rw [hw1]
  clear hw1 w1 KF
  cases b
  case false =>
    clear hb
    go_wp2_with fail
    (with_reducible refine (works_any w).mono ?_)
    rintro _ w2 ⟨rfl, hb2⟩
    go_wp2_with fail
    go_ret
    exact ⟨rfl, hb2⟩
  case true =>
    have hl := hb rfl
    clear hb
    by_cases h3 : 300 < t.length
    case pos =>
      have hi : (300 : Int) < (S.size : Int) := by omega
      go_wp2_with fail
      (with_reducible refine (works_any w).mono ?_)
      rintro _ w2 ⟨rfl, hb2⟩
      go_wp2_with fail
      go_ret
      exact ⟨rfl, hb2⟩
    case neg =>
      have hi : ¬ (300 : Int) < (S.size : Int) := by omega
      have K1 := H1.out (by omega) (by omega)
      have K2 := fun W hW => H2.out W hW (by omega) (by omega)
      obtain ⟨res, hres⟩ : ∃ r, r = bldF t (ps.map (·.2)) n := ⟨_, rfl⟩
      rw [← hres] at K1 K2
      clear hres
      obtain ⟨rb, re⟩ := res
      go_wp2_with fail
      (with_reducible refine K1.mono ?_)
      rintro _ w2 ⟨u1, rfl, hO1, hb2⟩
      simp only at hO1 ⊢
      have K2 := K2 w2 hb2
      have HB2 := Lib.hid hb2
      have HO1 := Lib.hid hO1
      clear hb2 hO1 K1
      go_wp2_with fail
      (with_reducible refine K2.mono ?_)
      rintro _ w3 ⟨u2, rfl, hO2, hb3⟩
      simp only at hO2 ⊢
      have HB3 : Hid (Below w.heap.size w w3) := Lib.hid (HB2.out.trans (hb3.mono HB2.out.size))
      have KE := lawEq_any u1 u2 rb rb _ _ w3 (HO1.out.rd.below hb3) hO2.rd
      rw [show (rb == rb) = true from by simp] at KE
      clear hb3 hO2 K2
      go_wp2_with fail
      (with_reducible refine KE.mono ?_)
      rintro _ w4 ⟨rfl, hw4⟩
      rw [← hw4]
      clear hw4 w4 KE
      go_wp2_with fail
      (with_reducible refine (works_any w3).mono ?_)
      rintro _ w5 ⟨rfl, hb5⟩
      go_wp2_with fail
      go_ret
      exact ⟨rfl, HB3.out.trans (hb5.mono HB3.out.size)⟩
end Go.Proofs.Ytacjiocffbgkkaa
