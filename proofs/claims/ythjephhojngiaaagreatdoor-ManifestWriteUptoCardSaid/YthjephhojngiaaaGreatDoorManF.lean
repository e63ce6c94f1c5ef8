/-
  Manifests: the reference's check.
-/
import Derived.Test.YthjephhojngiaaaGreatDoorManE
namespace Go.Proofs.YthjephhojngiaaaGreatDoor
open Go.RowKit Go.Lib Go.IntWalk

theorem str_eq_self (x : List UInt8) : ((strB x).toList == (strB x).toList) = true := by simp
theorem str_ne {x y : List UInt8} (h : ¬ x = y) : ((strB x).toList == (strB y).toList) = false := by
  rw [beq_eq_false_iff_ne, ByteArray.toList_eq, ByteArray.toList_eq]; simpa [strB] using h
theorem take_mem {α : Type} {l : List α} {k : Nat} {y : α} (hk : l[k]? = some y) (x : α) : x ∈ l.take (k + 1) ↔ x ∈ l.take k ∨ x = y := by
  obtain ⟨h, e⟩ := List.getElem?_eq_some_iff.1 hk
  rw [List.take_succ_eq_append_getElem h, List.mem_append, List.mem_singleton, e]

set_option maxRecDepth 100000 in
set_option maxHeartbeats 8000000 in
theorem rcheck_any (F : Nat → Prop) (As : Option Addr) (cs : Nat) (m : Man) (w : World) (h : Rd w F 1 (.slice As m.segs.length cs) m.segs.length (sv m.segs)) (hF : ∀ b, F b → b < w.heap.size) (hl : m.segs.length ≤ 1000000) :
    Calls Tryz.prog 63 #[manV As cs m] w fun e w' => e = .returned (.int .i64 (chkF m)) ∧ Below w.heap.size w w' := by
  obtain ⟨W, hW⟩ : ∃ W, W = w.alloc (.cells #[.string (strB m.base), .slice As m.segs.length cs, .string (strB m.log), .int .i64 m.tx, .int .i64 m.nx] 25) := ⟨_, rfl⟩
  have hbW : Below w.heap.size w W := by rw [hW]; exact Below.of_alloc _
  have hsW : w.heap.size < W.heap.size := by rw [hW]; simp
  have hPW : W.heap[w.heap.size]? = some (.cells #[.string (strB m.base), .slice As m.segs.length cs, .string (strB m.log), .int .i64 m.tx, .int .i64 m.nx] 25 (0, 0)) := by rw [hW]; exact heap_alloc_new w _
  have c0 : W.cell? ⟨w.heap.size, 0, none⟩ = some (.string (strB m.base)) := cell_of_row _ _ 0 _ _ _ hPW
  have c1 : W.cell? ⟨w.heap.size, 1, none⟩ = some (.slice As m.segs.length cs) := cell_of_row _ _ 1 _ _ _ hPW
  have c2 : W.cell? ⟨w.heap.size, 2, none⟩ = some (.string (strB m.log)) := cell_of_row _ _ 2 _ _ _ hPW
  have c3 : W.cell? ⟨w.heap.size, 3, none⟩ = some (.int .i64 m.tx) := cell_of_row _ _ 3 _ _ _ hPW
  have c4 : W.cell? ⟨w.heap.size, 4, none⟩ = some (.int .i64 m.nx) := cell_of_row _ _ 4 _ _ _ hPW
  have d4 := c4
  have hhW : Rd W F 1 (.slice As m.segs.length cs) m.segs.length (sv m.segs) := h.keep fun b hb => hbW.block b (hF b hb)
  have CN := Lib.hid (rnames_any F _ m W hhW (fun b hb => Nat.lt_trans (hF b hb) hsW) hl As cs rfl)
  rw [hW] at c0 c1 c2 c3 c4
  have HBX := Lib.hid (show Below w.heap.size w (w.alloc (.cells #[.string (strB m.base), .slice As m.segs.length cs, .string (strB m.log), .int .i64 m.tx, .int .i64 m.nx] 25)) from Below.of_alloc _)
  have HBW := Lib.hid hbW
  have HW := Lib.hid hW
  clear hW hhW
  by_cases h1 : 0 ≤ m.tx
  case neg =>
    rw [show chkF m = 6 from if_neg (by omega)]
    go_enter Tryz.func63, Tryz.ntmps63
    go_wp2_with fail
    go_ret
    exact ⟨rfl, HBX.out⟩
  by_cases h2 : m.tx ≤ 1125899906842624
  case neg =>
    rw [show chkF m = 6 from if_neg (by omega)]
    go_enter Tryz.func63, Tryz.ntmps63
    go_wp2_with fail
    go_ret
    exact ⟨rfl, HBX.out⟩
  by_cases h3 : 1 ≤ m.nx
  case neg =>
    rw [show chkF m = 6 from if_neg (by omega)]
    go_enter Tryz.func63, Tryz.ntmps63
    go_wp2_with fail
    go_ret
    exact ⟨rfl, HBX.out⟩
  by_cases h4 : m.nx ≤ 1000000
  case neg =>
    rw [show chkF m = 6 from if_neg (by omega)]
    go_enter Tryz.func63, Tryz.ntmps63
    go_wp2_with fail
    go_ret
    exact ⟨rfl, HBX.out⟩
  rw [show chkF m = chkL m.nx (nmsF m) [] from if_pos ⟨h1, h2, h3, h4⟩]
  generalize hres : chkL m.nx (nmsF m) [] = res
  have HR := Lib.hid hres
  clear hres
  have hnm : (nmsF m).length ≤ 1000002 := by unfold nmsF; split <;> simp <;> omega
  clear h hF hPW
  go_enter Tryz.func63, Tryz.ntmps63
  go_wp2_with fail
  rw [← HW.out]
  (with_reducible refine CN.out.mono ?_)
  rintro e1 V ⟨A, c, rfl, HA, hc1, hc2, hO, hb⟩
  clear CN c0 c1 c2 c3 c4
  unfold maxLen at hc2
  obtain ⟨l, hl'⟩ : ∃ l, l = nmsF m := ⟨_, rfl⟩
  rw [← hl'] at hnm hO hc1 HR
  rw [← hl']
  clear hl'
  generalize hX : w.heap.size = X at *
  have HX := Lib.hid hX
  clear hX
  have g4 := (hb.cell (p := ⟨X, 4, none⟩) hsW).trans d4
  have hrd := Rd.of_own hO
  have HB := Lib.hid (HBW.out.trans (hb.mono (by omega)))
  obtain ⟨i0, hi, hz0, hz1, hz2⟩ := info_parts infoSt
  have hsl := fun (k : Nat) (hk : k ≤ c) => run_slice_hi (P := Tryz.prog) Tryz.underlying23 hi A l.length c k hk
  have HSL := Lib.hid hsl
  clear hO hb hsl hi hz0 hz1 hz2
  go_wp2_with fail
  go_loopw [30] (fun i wr => ∃ k : Nat, k ≤ l.length ∧ i = .int .i64 (k : Int) ∧ Hid (chkL m.nx (l.drop k) (l.take k) = res) ∧ wr = V) (fun i _ => l.length - (intOf i).toNat)
  case atStart => exact ⟨0, Nat.zero_le _, rfl, Lib.hid (by rw [List.drop_zero, List.take_zero]; exact HR.out), rfl⟩
  case round =>
    obtain ⟨k, hk, rfl, HC, rfl⟩ := hrel
    by_cases hlt : k < l.length
    case pos =>
      have hga : l[k]? = some l[k] := List.getElem?_eq_getElem hlt
      obtain ⟨ba, oa, rfl, _, a0⟩ := RdS.elem hrd hga
      have HGA := Lib.hid hga
      clear hga
      generalize l[k] = x at *
      have CQ := Lib.hid (below_any x m.nx wr)
      have hslk := HSL.out k (by omega)
      cases hok : okNm m.nx x with
      | false =>
        rw [hok] at CQ
        have HW8 := Lib.hid (show res = 8 by rw [← HC.out]; exact chkL_bad HGA.out hok)
        clear hok
        go_wp2_with fail
        (with_reducible refine CQ.out.mono ?_)
        rintro e4 w4 ⟨rfl, rfl⟩
        clear CQ
        go_wp2_with fail
        go_ret
        exact ⟨by rw [HW8.out]; rfl, HX.out ▸ HB.out⟩
      | true =>
        rw [hok] at CQ
        have HOK := Lib.hid hok
        clear hok
        go_wp2_with fail
        (with_reducible refine CQ.out.mono ?_)
        rintro e4 w4 ⟨rfl, rfl⟩
        clear CQ
        go_wp2_with fail
        go_loopw [44] (fun i w' => ∃ j : Nat, j ≤ k ∧ i = .int .i64 (j : Int) ∧ Hid (x ∉ l.take j) ∧ w' = wr) (fun i _ => k - (intOf i).toNat)
        case atStart => exact ⟨0, Nat.zero_le _, rfl, Lib.hid (by simp), rfl⟩
        case round =>
          obtain ⟨j, hj, rfl, HNI, rfl⟩ := hrel
          by_cases hlj : j < k
          case pos =>
            have hgb : l[j]? = some l[j] := List.getElem?_eq_getElem (by omega)
            obtain ⟨b2, o2, he, _, y0⟩ := RdS.elem hrd hgb
            simp only [Option.some.injEq, Addr.mk.injEq, and_true] at he
            obtain ⟨rfl, rfl⟩ := he
            have HGB := Lib.hid hgb
            clear hgb
            generalize l[j] = y at *
            by_cases hxy : x = y
            · have HW10 := Lib.hid (show res = 10 by
                rw [← HC.out]
                refine chkL_dup HGA.out HOK.out ?_
                rw [hxy]
                exact List.mem_of_getElem? (i := j) (by rw [List.getElem?_take, if_pos hlj]; exact HGB.out))
              clear HGA HNI
              subst hxy
              have htn := str_eq_self x
              go_wp2_with fail
              go_ret
              exact ⟨by rw [HW10.out]; rfl, HX.out ▸ HB.out⟩
            · have htn := str_ne hxy
              have HN := Lib.hid (show x ∉ l.take (j + 1) from fun h => ((take_mem HGB.out _).1 h).elim HNI.out hxy)
              go_wp2_with fail
              go_roundw
              case rel => exact ⟨j + 1, by omega, by go_num, HN, by trivial⟩
              case measure => simp [intOf]; omega
          case neg =>
          obtain rfl : j = k := by omega
          have HN := Lib.hid (show chkL m.nx (l.drop (j + 1)) (l.take (j + 1)) = res by rw [← chkL_next HGA.out HOK.out HNI.out]; exact HC.out)
          go_wp2_with fail
          go_roundw
          case rel => exact ⟨j + 1, by omega, by go_num, HN, by trivial⟩
          case measure => simp [intOf]; omega
    case neg =>
    have HW0 := Lib.hid (show res = 0 by rw [← HC.out, List.drop_eq_nil_of_le (by omega)]; rfl)
    go_wp2_with fail
    go_ret
    exact ⟨by rw [HW0.out]; rfl, HX.out ▸ HB.out⟩
end Go.Proofs.YthjephhojngiaaaGreatDoor
