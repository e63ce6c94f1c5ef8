/-
  law41.few; arguments that are lists of lists of versions, with their sizes.
-/
import Derived.Test.YtkhmjlahlcighaaArgV
import Derived.Test.YtkhmjlahlcighaaVerL
namespace Go.Proofs.Ytkhmjlahlcighaa
open Go.RowKit Go.Lib Go.IntWalk Go.Sort Go.Shelf

section
open Go.ChangeShapes Go.WideShapes Go.ChangeAt Go.Deep
variable {H : Type} {enc : TypeId × Value → H} {w : World} {b0 : Nat} {r : Reach}
theorem sum_ones {α : Type} (l : List α) : (l.map fun _ => 1).sum = l.length := by
  induction l with
  | nil => rfl
  | cons a r ih => simp only [List.map_cons, List.sum_cons, ih, List.length_cons]; omega
theorem opn_versU : Opn enc w 29 (fun cs (q : LVP) => cs = [q.1] ∧ RdVs w (· < w.heap.size) q.1 q.2) (fun q => q.2.length) := by
  intro fuel cs x h
  obtain ⟨l, ⟨v, rfl, hl⟩, hs⟩ := opn_list (c := 9) Try.underlying29 (by kernel_rfl) (opn_ver (enc := enc) (w := w)) (by omega) _ _ _ h
  refine ⟨(v, l), ⟨rfl, rdVs_of hl fun _ h => h⟩, ?_⟩
  unfold szL at hs
  rw [sum_ones] at hs
  exact Nat.le_trans (Nat.le_succ _) hs
set_option maxRecDepth 100000 in
theorem open_lversU {v : Value} {d : DataW H} {ps : List MemPlace} (hval : Value.okWide Try.prog w r b0 27 v) (h : DataW.Trod enc Try.prog w 0 (fun _ => true) true 27 v d ps) :
    ∃ l : List LVP, RdLL w (· < w.heap.size) v l ∧ (allP l).length ≤ Rows.uptoBulk d := by
  obtain ⟨A, n, c, rfl⟩ := okWide_slice Try.underlying27 hval
  obtain ⟨l, ⟨v, e, hl⟩, hs⟩ := (opn_list (c := 1) Try.underlying27 (by kernel_rfl) (opn_versU (enc := enc) (w := w)) (by omega)).arg h
  simp only [Value.cells, List.cons.injEq, and_true] at e
  subst e
  refine ⟨l, rdLL_of hl fun _ h => h, ?_⟩
  unfold szL at hs
  unfold allP
  rw [List.length_flatMap]
  exact Nat.le_trans (Nat.le_succ _) hs
end

def FewOut (ls : List LVP) (w : World) (e : Ending) (w' : World) : Prop := ∃ b : Bool, e = .returned (.bool b) ∧ w' = w ∧ (b = true → (allP ls).length ≤ 100)
theorem FewOut.no {ls : List LVP} {w w' : World} {e : Ending} (he : e = .returned (.bool false)) (hw : w' = w) : FewOut ls w e w' := ⟨false, he, hw, fun h => by cases h⟩
set_option maxRecDepth 1000000 in
set_option maxHeartbeats 4000000 in
theorem few_any (v : Value) (ls : List LVP) (w : World) (hv : RdLL w (· < w.heap.size) v ls) (hn : (allP ls).length ≤ 1048576) :
    Calls Try.prog 9 #[v] w (FewOut ls w) := by
  obtain ⟨A, c, rfl, hc1, hc2, hc3⟩ := hv.1.open_
  unfold maxLen at hc2
  have HVS := Lib.hid hv
  have HNN := Lib.hid hn
  clear hv hn
  go_enter Try.func9, Try.ntmps9
  go_wp2_with fail
  go_loopw [3, 4] (fun n i wr => ∃ m k : Nat, n = .int .i64 (m : Int) ∧ i = .int .i64 (k : Int) ∧ k ≤ ls.length ∧ k ≤ 20 ∧ Hid (m = (allP (ls.take k)).length) ∧ wr = w) (fun _ i _ => ls.length - (intOf i).toNat)
  case atStart => exact ⟨0, 0, rfl, rfl, Nat.zero_le _, by omega, Lib.hid (by simp [allP]), rfl⟩
  case round =>
    obtain ⟨m, k, rfl, rfl, hk, hk20, HM, hw⟩ := hrel
    rw [hw]
    clear hw
    have hm0 : m ≤ 1048576 := by rw [HM.out]; exact Nat.le_trans (allP_le ls k) HNN.out
    by_cases hl : k < ls.length
    case neg =>
      have hke : k = ls.length := by omega
      have hma : m = (allP ls).length := by rw [HM.out, hke, List.take_of_length_le (Nat.le_refl _)]
      have HMA := Lib.hid hma
      have hll : ls.length ≤ 20 := by omega
      have hll2 : (ls.length : Int) ≤ 20 := by omega
      clear hma
      by_cases hm : m ≤ 100
      case pos =>
        have hmi : (m : Int) ≤ 100 := by omega
        go_wp2_with fail
        go_ret
        exact ⟨true, rfl, rfl, fun _ => by have := HMA.out; omega⟩
      case neg =>
        have hmi : ¬ (m : Int) ≤ 100 := by omega
        go_wp2_with fail
        go_ret
        exact FewOut.no rfl rfl
    case pos =>
      by_cases h20 : k < 20
      case neg =>
        have hk2 : k = 20 := by omega
        have hll : ¬ ls.length ≤ 20 := by omega
        have hll2 : ¬ (ls.length : Int) ≤ 20 := by omega
        go_wp2_with fail
        go_ret
        exact FewOut.no rfl rfl
      case pos =>
        have h20i : (k : Int) < 20 := by omega
        have hli : (k : Int) < (ls.length : Int) := by omega
        obtain ⟨b, off, rfl, hF, hcl0, hx0⟩ := RdLL.at_ HVS.out hl
        have hsn := allP_snoc hl
        have hle := allP_le ls (k + 1)
        rw [hsn, List.length_append, ← HM.out] at hle
        have HSN := Lib.hid (congrArg List.length hsn)
        generalize ls[k] = pp at *
        obtain ⟨pv, ps⟩ := pp
        simp only at hcl0 hx0 hle HSN
        obtain ⟨Ap, cp, rfl, y1, y2, y3⟩ := hx0.1.open_
        unfold maxLen at y2
        have hmp : m + ps.length ≤ 1048576 := Nat.le_trans hle HNN.out
        have HVP := Lib.hid hx0
        clear hx0 y3 hsn hle
        go_wp2_with fail
        go_loopw [5] (fun vi wr => ∃ j : Nat, vi = .int .i64 (j : Int) ∧ j ≤ ps.length ∧ j ≤ 100 ∧ wr = w) (fun vi _ => ps.length - (intOf vi).toNat)
        case atStart => exact ⟨0, rfl, Nat.zero_le _, by omega, rfl⟩
        case round =>
          obtain ⟨j, rfl, hj, hj2, hw⟩ := hrel
          rw [hw]
          clear hw
          by_cases hjl : j < ps.length ∧ j < 100
          case neg =>
            have HNEXT : Hid (m + ps.length = (allP (ls.take (k + 1))).length) := Lib.hid (by rw [HSN.out, List.length_append, ← HM.out])
            by_cases hj1 : j < ps.length
            case pos =>
              have hj3 : ¬ j < 100 := by omega
              have hj4 : ¬ (j : Int) < 100 := by omega
              go_wp2_with fail
              go_roundw
              case rel => exact ⟨m + ps.length, k + 1, by go_num, by go_num, by omega, by omega, HNEXT, by first | rfl | trivial⟩
              case measure => simp [intOf]; omega
            case neg =>
              have hj4 : ¬ (j : Int) < (ps.length : Int) := by omega
              go_wp2_with fail
              go_roundw
              case rel => exact ⟨m + ps.length, k + 1, by go_num, by go_num, by omega, by omega, HNEXT, by first | rfl | trivial⟩
              case measure => simp [intOf]; omega
          case pos =>
            obtain ⟨hj1, hj3⟩ := hjl
            have hj4 : (j : Int) < 100 := by omega
            have hj5 : (j : Int) < (ps.length : Int) := by omega
            obtain ⟨b2, off2, rfl, hF2, hcl, hx⟩ := RdVs.at_ HVP.out hj1
            generalize ps[j] = p at *
            obtain ⟨⟨x1, x2, xA, xn, xc, x3, x4, x5, x6, x7, x8⟩, x⟩ := p
            simp only at hcl
            have g2 : w.cell? ⟨b2, off2 + j * 9 + 2, none⟩ = some (.slice xA xn xc) := hcl 2 _ (by decide) rfl
            clear hcl hx
            by_cases hxn : 20 < xn
            case pos =>
              have hxi : (20 : Int) < (xn : Int) := by omega
              go_wp2_with fail
              go_ret
              exact FewOut.no rfl rfl
            case neg =>
              have hxi : ¬ (20 : Int) < (xn : Int) := by omega
              go_wp2_with fail
              go_roundw
              case rel => exact ⟨j + 1, by go_num, by omega, by omega, by first | rfl | trivial⟩
              case measure => simp [intOf]; omega
end Go.Proofs.Ytkhmjlahlcighaa
