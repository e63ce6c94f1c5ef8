/-
  Manifests: the reference's encoding.
-/
import Derived.Test.YthjephhojngiaaaGreatDoorManF
import Derived.Test.YthjephhojngiaaaGreatDoorRt
namespace Go.Proofs.YthjephhojngiaaaGreatDoor
open Go.RowKit Go.Lib Go.IntWalk

set_option maxRecDepth 100000 in
set_option maxHeartbeats 8000000 in
theorem rencode_any (F : Nat → Prop) (As : Option Addr) (cs : Nat) (m : Man) (w : World) (h : Rd w F 1 (.slice As m.segs.length cs) m.segs.length (sv m.segs)) (hF : ∀ b, F b → b < w.heap.size) (hl : m.segs.length ≤ 1000000) (hbd : (bodyM m).length ≤ 1048576) :
    Calls Tryz.prog 37 #[manV As cs m] w (EncOut (encM m) w) := by
  obtain ⟨W, hW⟩ : ∃ W, W = w.alloc (.cells #[.string (strB m.base), .slice As m.segs.length cs, .string (strB m.log), .int .i64 m.tx, .int .i64 m.nx] 25) := ⟨_, rfl⟩
  have hbW : Below w.heap.size w W := by rw [hW]; exact Below.of_alloc _
  have hsW : w.heap.size < W.heap.size := by rw [hW]; simp
  have hPW : W.heap[w.heap.size]? = some (.cells #[.string (strB m.base), .slice As m.segs.length cs, .string (strB m.log), .int .i64 m.tx, .int .i64 m.nx] 25 (0, 0)) := by rw [hW]; exact heap_alloc_new w _
  have c0 : W.cell? ⟨w.heap.size, 0, none⟩ = some (.string (strB m.base)) := cell_of_row _ _ 0 _ _ _ hPW
  have c1 : W.cell? ⟨w.heap.size, 1, none⟩ = some (.slice As m.segs.length cs) := cell_of_row _ _ 1 _ _ _ hPW
  have c2 : W.cell? ⟨w.heap.size, 2, none⟩ = some (.string (strB m.log)) := cell_of_row _ _ 2 _ _ _ hPW
  have c3 : W.cell? ⟨w.heap.size, 3, none⟩ = some (.int .i64 m.tx) := cell_of_row _ _ 3 _ _ _ hPW
  have c4 : W.cell? ⟨w.heap.size, 4, none⟩ = some (.int .i64 m.nx) := cell_of_row _ _ 4 _ _ _ hPW
  have hhW : Rd W F 1 (.slice As m.segs.length cs) m.segs.length (sv m.segs) := h.keep fun b hb => hbW.block b (hF b hb)
  have CC := Lib.hid (rcheck_any F As cs m W hhW (fun b hb => Nat.lt_trans (hF b hb) hsW) hl)
  have z0 := c0; have z1 := c1; have z2 := c2; have z3 := c3; have z4 := c4
  rw [hW] at c0 c1 c2 c3 c4
  have HW := Lib.hid hW
  have HBW := Lib.hid hbW
  have HF := Lib.hid hF
  obtain ⟨_, _, hce, x1, x2, x3⟩ := Rd.open_ h
  have HX3 := Lib.hid x3
  clear hW hPW h hF hbW x3 hce x1 x2
  by_cases hz : chkF m = 0
  case neg =>
    rw [show encM m = ([], chkF m) from if_neg hz]
    generalize chkF m = ce at *
    have b1 : (ce != 0) = true := by rw [bne_iff_ne]; exact hz
    go_enter Tryz.func37, Tryz.ntmps37
    go_wp2_with fail
    rw [← HW.out]
    (with_reducible refine CC.out.mono ?_)
    rintro e1 w1 ⟨rfl, hb1⟩
    go_wp2_with fail
    go_ret2
    exact ⟨_, rfl, OwnB.nil _ _, HBW.out.trans (hb1.mono (by omega))⟩
  case pos =>
  rw [show encM m = (frm (bodyM m), 0) from if_pos hz]
  rw [hz] at CC
  have HNR := Lib.hid (show 0 ≤ m.tx ∧ m.tx ≤ 1125899906842624 ∧ 1 ≤ m.nx ∧ m.nx ≤ 1000000 from Classical.byContradiction fun hh => by unfold chkF at hz; rw [if_neg hh] at hz; simp at hz)
  clear hz
  have HBODY := Lib.hid (show bodyM m = txE m.base ++ (encI m.segs.length ++ (m.segs.flatMap txE ++ (txE m.log ++ (encI m.tx ++ encI m.nx)))) from rfl)
  generalize bodyM m = body at *
  have hlen := congrArg List.length HBODY.out
  simp only [List.length_append] at hlen
  have hxl : ∀ x : List UInt8, x.length ≤ (txE x).length := fun x => by unfold txE; simp
  have hlb := hxl m.base
  have hll := hxl m.log
  have HXL := Lib.hid hxl
  clear hxl
  go_enter Tryz.func37, Tryz.ntmps37
  go_wp2_with fail
  rw [← HW.out]
  (with_reducible refine CC.out.mono ?_)
  rintro e1 w1 ⟨rfl, hb1⟩
  clear CC c0 c1 c2 c3 c4
  have hs1 := hb1.size
  have q0 := (hb1.cell (p := ⟨w.heap.size, 0, none⟩) hsW).trans z0
  have q1 := (hb1.cell (p := ⟨w.heap.size, 1, none⟩) hsW).trans z1
  have q2 := (hb1.cell (p := ⟨w.heap.size, 2, none⟩) hsW).trans z2
  have q3 := (hb1.cell (p := ⟨w.heap.size, 3, none⟩) hsW).trans z3
  have q4 := (hb1.cell (p := ⟨w.heap.size, 4, none⟩) hsW).trans z4
  have hr1 : Rd w1 F 1 (.slice As m.segs.length cs) m.segs.length (sv m.segs) := hhW.keep fun b hb => hb1.block b (by have := HF.out b hb; omega)
  have HB1 := Lib.hid (HBW.out.trans (hb1.mono (show w.heap.size ≤ W.heap.size by omega)))
  have hHb : w.heap.size < w1.heap.size := by omega
  clear z0 z1 z2 z3 z4 hhW hb1
  go_wp2_with fail
  refine wp_region_noPanic ?_
  refine wp_region_held_drew (S := (fun w' => Below w1.heap.size w1 w')) (by kernel_rfl) ?_ (fun hHeld => ?_)
  · exact (Below.refl _ _).drew
  refine heldTake 0 (some 13) (v := ?_) rfl rfl (by kernel_rfl) (by kernel_rfl) (by kernel_rfl) (by rfl) hHeld (fun _ _ _ h => h) ?_ ?_
  rotate_left
  · intro w' hSw; (try dsimp only at hSw); go_simp <;> with_reducible rfl
  simp only [Act.put, List.setIfInBounds_toArray, List.set_cons_zero, List.set_cons_succ]
  refine heldTake 1 (some 14) (v := ?_) rfl rfl (by kernel_rfl) (by kernel_rfl) (by kernel_rfl) (by rfl) hHeld (fun _ _ _ h => h) ?_ ?_
  rotate_left
  · intro w' hSw; (try dsimp only at hSw); have q0 := (hSw.cell (p := ⟨w.heap.size, 0, none⟩) (show w.heap.size < w1.heap.size by omega)).trans q0; have q1 := (hSw.cell (p := ⟨w.heap.size, 1, none⟩) (show w.heap.size < w1.heap.size by omega)).trans q1; go_simp <;> with_reducible rfl
  simp only [Act.put, List.setIfInBounds_toArray, List.set_cons_zero, List.set_cons_succ]
  refine heldTake 3 (some 16) (v := ?_) rfl rfl (by kernel_rfl) (by kernel_rfl) (by kernel_rfl) (by rfl) hHeld (fun _ _ _ h => h) ?_ ?_
  rotate_left
  · intro w' hSw; (try dsimp only at hSw); go_simp <;> with_reducible rfl
  simp only [Act.put, List.setIfInBounds_toArray, List.set_cons_zero, List.set_cons_succ]
  refine heldTake 4 (some 17) (v := ?_) rfl rfl (by kernel_rfl) (by kernel_rfl) (by kernel_rfl) (by rfl) hHeld (fun _ _ _ h => h) ?_ ?_
  rotate_left
  · intro w' hSw; (try dsimp only at hSw); have q0 := (hSw.cell (p := ⟨w.heap.size, 0, none⟩) (show w.heap.size < w1.heap.size by omega)).trans q0; have q1 := (hSw.cell (p := ⟨w.heap.size, 1, none⟩) (show w.heap.size < w1.heap.size by omega)).trans q1; go_simp <;> with_reducible rfl
  simp only [Act.put, List.setIfInBounds_toArray, List.set_cons_zero, List.set_cons_succ]
  refine heldTake 5 (some 18) (v := ?_) rfl rfl (by kernel_rfl) (by kernel_rfl) (by kernel_rfl) (by rfl) hHeld (fun _ _ _ h => h) ?_ ?_
  rotate_left
  · intro w' hSw; (try dsimp only at hSw); go_simp <;> with_reducible rfl
  simp only [Act.put, List.setIfInBounds_toArray, List.set_cons_zero, List.set_cons_succ]
  refine heldCall 2 (some 15) (f := ?_) (args := ?_) rfl rfl (by kernel_rfl) (by rfl) ?_ ?_
  rotate_left 2
  · go_simp <;> first | (constructor <;> with_reducible rfl) | with_reducible rfl
  (with_reducible refine (rputTx (.slice none 0 0) [] m.base w1.drew (RdB.nil _ _) (by simp; omega)).mono ?_)
  rintro e wa ⟨vwa, rfl, hOwa, hbwa⟩
  have hBwa : Below w1.heap.size w1 wa := Below.undrew hbwa
  refine ⟨_, rfl, keepAnd ?_ (fun hNew => ?_)⟩
  · exact hBwa
  clear hHeld
  have hHeld := hNew
  clear hNew
  simp only [Act.put, List.setIfInBounds_toArray, List.set_cons_zero, List.set_cons_succ]
  refine heldCall 6 (some 19) (f := ?_) (args := ?_) rfl rfl (by kernel_rfl) (by rfl) ?_ ?_
  rotate_left 2
  · go_simp <;> first | (constructor <;> with_reducible rfl) | with_reducible rfl
  (with_reducible refine (refPutInt_any vwa ([] ++ txE m.base) (m.segs.length : Int) wa (by omega) (by omega) hOwa.rd (by rw [List.nil_append]; omega)).mono ?_)
  rintro e wb ⟨vwb, rfl, hOwb, hbwb⟩
  have hBwb : Below w1.heap.size w1 wb := hBwa.trans (hbwb.mono hBwa.size)
  refine ⟨_, rfl, keepAnd ?_ (fun hNew => ?_)⟩
  · exact hBwb
  clear hHeld
  have hHeld := hNew
  clear hNew
  simp only [Act.put, List.setIfInBounds_toArray, List.set_cons_zero, List.set_cons_succ]
  refine heldTake 7 (some 5) (v := ?_) rfl rfl (by kernel_rfl) (by kernel_rfl) (by kernel_rfl) (by rfl) hHeld (fun _ _ _ h => h) ?_ ?_
  rotate_left
  · intro w' hSw; (try dsimp only at hSw); go_simp <;> with_reducible rfl
  simp only [Act.put, List.setIfInBounds_toArray, List.set_cons_zero, List.set_cons_succ]
  refine wpAnyH_done (by kernel_rfl) ?_ _
  refine NoPanic.normal ?_
  have hO3 := OwnB.base hOwb (show w1.heap.size ≤ wa.heap.size from hBwa.size)
  have hb3 := hBwb
  rw [List.nil_append] at hO3
  have r1 := (hb3.cell (p := ⟨w.heap.size, 1, none⟩) hHb).trans q1
  have r1d : wb.drew.cell? ⟨w.heap.size, 1, none⟩ = some (.slice As m.segs.length cs) := r1
  clear hOwa hOwb hbwa hbwb hBwa
  obtain ⟨pre, hpre⟩ : ∃ pre, pre = txE m.base ++ encI m.segs.length := ⟨_, rfl⟩
  have hprel : pre.length = (txE m.base).length + (encI m.segs.length).length := by rw [hpre, List.length_append]
  rw [← hpre] at hO3
  have HPRE := Lib.hid hpre
  clear hpre hBwb
  go_wp2_with fail
  clear r1 r1d
  go_loopw [5, 23] (fun u i wr => ∃ (k : Nat) (L : List UInt8) (v : Value), k ≤ m.segs.length ∧ i = .int .i64 (k : Int) ∧ L = pre ++ (m.segs.take k).flatMap txE ∧ u = v ∧ OwnB wr w1.heap.size v L ∧ Below w1.heap.size w1 wr) (fun _ i _ => m.segs.length - (intOf i).toNat)
  case atStart => exact ⟨0, pre, vwb, Nat.zero_le _, rfl, by simp, rfl, hO3, hb3⟩
  case round =>
    obtain ⟨k, L, u, hk, rfl, hL, hu, hOr, hbr⟩ := hrel
    replace hu := hu.symm
    subst hu
    have hLl : L.length ≤ body.length := by rw [hL, List.length_append]; have := flat_take_le m.segs k; omega
    have HL := Lib.hid hL
    have hsr := hbr.size
    clear hL hO3 hb3
    by_cases hlt : k < m.segs.length
    case pos =>
      have hga : m.segs[k]? = some m.segs[k] := List.getElem?_eq_getElem hlt
      have hlr : Rd wr F 1 (.slice As m.segs.length cs) m.segs.length (sv m.segs) := hr1.keep fun b hb => hbr.block b (by have := HF.out b hb; omega)
      obtain ⟨ba, oa, rfl, _, a0⟩ := RdS.elem hlr hga
      have hL2 : L.length + (txE m.segs[k]).length ≤ body.length := by
        have h1 := HL.out
        have h2 := flat_take_le m.segs (k + 1)
        rw [List.take_succ_eq_append_getElem hlt, List.flatMap_append, List.length_append] at h2
        simp only [List.flatMap_cons, List.flatMap_nil, List.append_nil] at h2
        rw [h1, List.length_append]
        omega
      have HTS := Lib.hid (List.take_succ_eq_append_getElem hlt)
      have hxk := HXL.out m.segs[k]
      clear hga hlr
      generalize m.segs[k] = x at *
      have P3 := Lib.hid (rputTx u L x wr hOr.rd (by omega))
      go_wp2_with fail
      (with_reducible refine P3.out.mono ?_)
      rintro e4 w4 ⟨v4, rfl, hO4, hb4⟩
      clear P3
      have hb14 : Below w1.heap.size w1 w4 := hbr.trans (hb4.mono hsr)
      go_wp2_with fail
      go_roundw
      case rel => exact ⟨k + 1, L ++ txE x, v4, by omega, by go_num, by rw [HTS.out, HL.out]; simp, rfl, OwnB.base hO4 hsr, hb14⟩
      case measure => simp [intOf]; omega
    case neg =>
    obtain rfl : k = m.segs.length := by omega
    rw [List.take_length] at HL
    clear hlt hk
    have r2 := (hbr.cell (p := ⟨w.heap.size, 2, none⟩) hHb).trans q2
    have r3 := (hbr.cell (p := ⟨w.heap.size, 3, none⟩) hHb).trans q3
    have r4 := (hbr.cell (p := ⟨w.heap.size, 4, none⟩) hHb).trans q4
    have hLe : L.length + (txE m.log).length + (encI m.tx).length + (encI m.nx).length = body.length := by rw [HL.out, List.length_append]; omega
    go_wp2_with fail
    refine wp_region_noPanic ?_
    refine wp_region_held_drew (S := (fun w' => Below wr.heap.size wr w')) (by kernel_rfl) ?_ (fun hHeld => ?_)
    · exact (Below.refl _ _).drew
    refine heldTake 0 (some 31) (v := ?_) rfl rfl (by kernel_rfl) (by kernel_rfl) (by kernel_rfl) (by rfl) hHeld (fun _ _ _ h => h) ?_ ?_
    rotate_left
    · intro w' hSw; (try dsimp only at hSw); go_simp <;> with_reducible rfl
    simp only [Act.put, List.setIfInBounds_toArray, List.set_cons_zero, List.set_cons_succ]
    refine heldTake 1 (some 32) (v := ?_) rfl rfl (by kernel_rfl) (by kernel_rfl) (by kernel_rfl) (by rfl) hHeld (fun _ _ _ h => h) ?_ ?_
    rotate_left
    · intro w' hSw; (try dsimp only at hSw); go_simp <;> with_reducible rfl
    simp only [Act.put, List.setIfInBounds_toArray, List.set_cons_zero, List.set_cons_succ]
    refine heldTake 2 (some 33) (v := ?_) rfl rfl (by kernel_rfl) (by kernel_rfl) (by kernel_rfl) (by rfl) hHeld (fun _ _ _ h => h) ?_ ?_
    rotate_left
    · intro w' hSw; (try dsimp only at hSw); have q0 := (hSw.cell (p := ⟨w.heap.size, 2, none⟩) (show w.heap.size < wr.heap.size by omega)).trans r2; have q1 := (hSw.cell (p := ⟨w.heap.size, 3, none⟩) (show w.heap.size < wr.heap.size by omega)).trans r3; have q2 := (hSw.cell (p := ⟨w.heap.size, 4, none⟩) (show w.heap.size < wr.heap.size by omega)).trans r4; go_simp <;> with_reducible rfl
    simp only [Act.put, List.setIfInBounds_toArray, List.set_cons_zero, List.set_cons_succ]
    refine heldTake 4 (some 35) (v := ?_) rfl rfl (by kernel_rfl) (by kernel_rfl) (by kernel_rfl) (by rfl) hHeld (fun _ _ _ h => h) ?_ ?_
    rotate_left
    · intro w' hSw; (try dsimp only at hSw); go_simp <;> with_reducible rfl
    simp only [Act.put, List.setIfInBounds_toArray, List.set_cons_zero, List.set_cons_succ]
    refine heldTake 5 (some 36) (v := ?_) rfl rfl (by kernel_rfl) (by kernel_rfl) (by kernel_rfl) (by rfl) hHeld (fun _ _ _ h => h) ?_ ?_
    rotate_left
    · intro w' hSw; (try dsimp only at hSw); have q0 := (hSw.cell (p := ⟨w.heap.size, 2, none⟩) (show w.heap.size < wr.heap.size by omega)).trans r2; have q1 := (hSw.cell (p := ⟨w.heap.size, 3, none⟩) (show w.heap.size < wr.heap.size by omega)).trans r3; have q2 := (hSw.cell (p := ⟨w.heap.size, 4, none⟩) (show w.heap.size < wr.heap.size by omega)).trans r4; go_simp <;> with_reducible rfl
    simp only [Act.put, List.setIfInBounds_toArray, List.set_cons_zero, List.set_cons_succ]
    refine heldTake 7 (some 38) (v := ?_) rfl rfl (by kernel_rfl) (by kernel_rfl) (by kernel_rfl) (by rfl) hHeld (fun _ _ _ h => h) ?_ ?_
    rotate_left
    · intro w' hSw; (try dsimp only at hSw); go_simp <;> with_reducible rfl
    simp only [Act.put, List.setIfInBounds_toArray, List.set_cons_zero, List.set_cons_succ]
    refine heldTake 8 (some 39) (v := ?_) rfl rfl (by kernel_rfl) (by kernel_rfl) (by kernel_rfl) (by rfl) hHeld (fun _ _ _ h => h) ?_ ?_
    rotate_left
    · intro w' hSw; (try dsimp only at hSw); have q0 := (hSw.cell (p := ⟨w.heap.size, 2, none⟩) (show w.heap.size < wr.heap.size by omega)).trans r2; have q1 := (hSw.cell (p := ⟨w.heap.size, 3, none⟩) (show w.heap.size < wr.heap.size by omega)).trans r3; have q2 := (hSw.cell (p := ⟨w.heap.size, 4, none⟩) (show w.heap.size < wr.heap.size by omega)).trans r4; go_simp <;> with_reducible rfl
    simp only [Act.put, List.setIfInBounds_toArray, List.set_cons_zero, List.set_cons_succ]
    refine heldCall 3 (some 34) (f := ?_) (args := ?_) rfl rfl (by kernel_rfl) (by rfl) ?_ ?_
    rotate_left 2
    · go_simp <;> first | (constructor <;> with_reducible rfl) | with_reducible rfl
    (with_reducible refine (rputTx u L m.log wr.drew hOr.drew.rd (by omega)).mono ?_)
    rintro e wc ⟨vwc, rfl, hOwc, hbwc⟩
    have hBwc : Below wr.heap.size wr wc := Below.undrew hbwc
    refine ⟨_, rfl, keepAnd ?_ (fun hNew => ?_)⟩
    · exact hBwc
    clear hHeld
    have hHeld := hNew
    clear hNew
    simp only [Act.put, List.setIfInBounds_toArray, List.set_cons_zero, List.set_cons_succ]
    refine heldCall 6 (some 37) (f := ?_) (args := ?_) rfl rfl (by kernel_rfl) (by rfl) ?_ ?_
    rotate_left 2
    · go_simp <;> first | (constructor <;> with_reducible rfl) | with_reducible rfl
    (with_reducible refine (refPutInt_any vwc _ m.tx wc (by have := HNR.out; omega) (by have := HNR.out; omega) hOwc.rd (by rw [List.length_append]; omega)).mono ?_)
    rintro e wd ⟨vwd, rfl, hOwd, hbwd⟩
    have hBwd : Below wr.heap.size wr wd := hBwc.trans (hbwd.mono hBwc.size)
    refine ⟨_, rfl, keepAnd ?_ (fun hNew => ?_)⟩
    · exact hBwd
    clear hHeld
    have hHeld := hNew
    clear hNew
    simp only [Act.put, List.setIfInBounds_toArray, List.set_cons_zero, List.set_cons_succ]
    refine heldCall 9 (some 40) (f := ?_) (args := ?_) rfl rfl (by kernel_rfl) (by rfl) ?_ ?_
    rotate_left 2
    · go_simp <;> first | (constructor <;> with_reducible rfl) | with_reducible rfl
    (with_reducible refine (refPutInt_any vwd _ m.nx wd (by have := HNR.out; omega) (by have := HNR.out; omega) hOwd.rd (by rw [List.length_append, List.length_append]; omega)).mono ?_)
    rintro e we ⟨vwe, rfl, hOwe, hbwe⟩
    have hBwe : Below wr.heap.size wr we := hBwd.trans (hbwe.mono hBwd.size)
    refine ⟨_, rfl, keepAnd ?_ (fun hNew => ?_)⟩
    · exact hBwe
    clear hHeld
    have hHeld := hNew
    clear hNew
    simp only [Act.put, List.setIfInBounds_toArray, List.set_cons_zero, List.set_cons_succ]
    refine heldTake 10 (some 5) (v := ?_) rfl rfl (by kernel_rfl) (by kernel_rfl) (by kernel_rfl) (by rfl) hHeld (fun _ _ _ h => h) ?_ ?_
    rotate_left
    · intro w' hSw; (try dsimp only at hSw); go_simp <;> with_reducible rfl
    simp only [Act.put, List.setIfInBounds_toArray, List.set_cons_zero, List.set_cons_succ]
    refine wpAnyH_done (by kernel_rfl) ?_ _
    refine NoPanic.normal ?_
    have hbody : L ++ txE m.log ++ encI m.tx ++ encI m.nx = body := by rw [HL.out, HPRE.out, HBODY.out]; simp
    rw [hbody] at hOwe
    have P7 := Lib.hid (tappend_any vwe body we hOwe.rd (by omega))
    clear hbody r2 r3 r4
    go_wp2_with fail
    (with_reducible refine P7.out.mono ?_)
    rintro e8 w8 ⟨v8, rfl, hO8, hb8⟩
    clear P7
    go_wp2_with fail
    go_ret2
    have hsz := hBwe.size
    have hb18 : Below w1.heap.size w1 w8 := (hbr.trans (hBwe.mono hsr)).trans (hb8.mono (by omega))
    exact ⟨_, rfl, OwnB.base hO8 (by omega), HB1.out.trans (hb18.mono (by omega))⟩
end Go.Proofs.YthjephhojngiaaaGreatDoor
