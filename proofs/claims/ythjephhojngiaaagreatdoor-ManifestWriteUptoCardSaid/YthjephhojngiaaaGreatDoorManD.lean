/-
  Manifests: the encoding.
-/
import Derived.Test.YthjephhojngiaaaGreatDoorManC
namespace Go.Proofs.YthjephhojngiaaaGreatDoor
open Go.RowKit Go.Lib Go.IntWalk

theorem strB_l (x : List UInt8) : (strB x).data.toList = x := by simp [strB]
theorem txE_len (x : List UInt8) : (txE x).length ≤ x.length + 10 := by unfold txE; rw [List.length_append]; have := encI_length x.length; omega
theorem putTx (v : Value) (l x : List UInt8) (w : World) (hv : RdB w (· < w.heap.size) v l) (hl : l.length + x.length ≤ 140737488355000) :
    Calls Tryz.prog 52 #[v, .string (strB x)] w (NewB w (l ++ txE x)) := by
  have h := putText_any v l (strB x) w hv (by rw [strB_size]; exact hl)
  rw [strB_size, strB_l] at h
  exact h
theorem rputTx (v : Value) (l x : List UInt8) (w : World) (hv : RdB w (· < w.heap.size) v l) (hl : l.length + x.length ≤ 140737488355000) :
    Calls Tryz.prog 65 #[v, .string (strB x)] w (NewB w (l ++ txE x)) := by
  have h := refPutText_any v l (strB x) w hv (by rw [strB_size]; exact hl)
  rw [strB_size, strB_l] at h
  exact h
def EncOut (r : List UInt8 × Int) (w0 : World) (e : Ending) (w : World) : Prop := ∃ v, e = .returned (.tuple #[v, .int .i64 r.2]) ∧ OwnB w w0.heap.size v r.1 ∧ Below w0.heap.size w0 w
theorem flat_take_le (l : List (List UInt8)) (k : Nat) : ((l.take k).flatMap txE).length ≤ (l.flatMap txE).length := by
  have h := congrArg (fun l => (l.flatMap txE).length) (List.take_append_drop k l)
  simp only [List.flatMap_append, List.length_append] at h
  omega

set_option maxRecDepth 100000 in
set_option maxHeartbeats 8000000 in
theorem encode_any (F : Nat → Prop) (As : Option Addr) (cs : Nat) (m : Man) (w : World) (h : Rd w F 1 (.slice As m.segs.length cs) m.segs.length (sv m.segs)) (hF : ∀ b, F b → b < w.heap.size) (hl : m.segs.length ≤ 1000000) (hnl : ∀ s ∈ nmsF m, s.length ≤ 1000000) (hbd : (bodyM m).length ≤ 1048576) :
    Calls Tryz.prog 24 #[manV As cs m] w (EncOut (encM m) w) := by
  obtain ⟨W, hW⟩ : ∃ W, W = w.alloc (.cells #[.string (strB m.base), .slice As m.segs.length cs, .string (strB m.log), .int .i64 m.tx, .int .i64 m.nx] 25) := ⟨_, rfl⟩
  have hbW : Below w.heap.size w W := by rw [hW]; exact Below.of_alloc _
  have hsW : w.heap.size < W.heap.size := by rw [hW]; simp
  have hPW : W.heap[w.heap.size]? = some (.cells #[.string (strB m.base), .slice As m.segs.length cs, .string (strB m.log), .int .i64 m.tx, .int .i64 m.nx] 25 (0, 0)) := by rw [hW]; exact heap_alloc_new w _
  have c0 : W.cell? ⟨w.heap.size, 0, none⟩ = some (.string (strB m.base)) := cell_of_row _ _ 0 _ _ _ hPW
  have c1 : W.cell? ⟨w.heap.size, 1, none⟩ = some (.slice As m.segs.length cs) := cell_of_row _ _ 1 _ _ _ hPW
  have c2 : W.cell? ⟨w.heap.size, 2, none⟩ = some (.string (strB m.log)) := cell_of_row _ _ 2 _ _ _ hPW
  have c3 : W.cell? ⟨w.heap.size, 3, none⟩ = some (.int .i64 m.tx) := cell_of_row _ _ 3 _ _ _ hPW
  have c4 : W.cell? ⟨w.heap.size, 4, none⟩ = some (.int .i64 m.nx) := cell_of_row _ _ 4 _ _ _ hPW
  have hhW : Rd W F 1 (.slice As m.segs.length cs) m.segs.length (sv m.segs) := h.keep fun b hb => hbW.block b (hF b hb)
  have CC := Lib.hid (check_any F As cs m W hhW (fun b hb => Nat.lt_trans (hF b hb) hsW) hl hnl)
  have z0 := c0; have z1 := c1; have z2 := c2; have z3 := c3; have z4 := c4
  rw [hW] at c0 c1 c2 c3 c4
  have HW := Lib.hid hW
  have HBW := Lib.hid hbW
  have HF := Lib.hid hF
  have hcs := (Rd.open_ h)
  obtain ⟨_, _, hce, x1, x2, x3⟩ := hcs
  have HX3 := Lib.hid x3
  unfold maxLen at x2
  clear hW hPW h hF hnl hbW x3 hce x1 x2
  generalize hH : w.heap.size = H at *
  have HH := Lib.hid hH
  clear hH
  by_cases hz : chkF m = 0
  case neg =>
    rw [show encM m = ([], chkF m) from if_neg hz]
    generalize chkF m = ce at *
    have b1 : (ce != 0) = true := by rw [bne_iff_ne]; exact hz
    rw [← HH.out] at c0 c1 c2 c3 c4
    go_enter Tryz.func24, Tryz.ntmps24
    go_wp2_with fail
    rw [← HW.out]
    (with_reducible refine CC.out.mono ?_)
    rintro e1 w1 ⟨rfl, hb1⟩
    go_wp2_with fail
    go_ret2
    exact ⟨_, rfl, OwnB.nil _ _, by rw [HH.out]; exact HBW.out.trans (hb1.mono (by omega))⟩
  case pos =>
  rw [show encM m = (frm (bodyM m), 0) from if_pos hz]
  rw [hz] at CC
  have HRNG := Lib.hid (show 0 ≤ m.tx ∧ m.tx ≤ 1125899906842624 ∧ 1 ≤ m.nx ∧ m.nx ≤ 1000000 from Classical.byContradiction fun hh => by unfold chkF at hz; rw [if_neg hh] at hz; simp at hz)
  clear hz
  have HBODY := Lib.hid (show bodyM m = txE m.base ++ (encI m.segs.length ++ (m.segs.flatMap txE ++ (txE m.log ++ (encI m.tx ++ encI m.nx)))) from rfl)
  generalize bodyM m = body at *
  have hlen := congrArg List.length HBODY.out
  simp only [List.length_append] at hlen
  have hxl : ∀ x : List UInt8, x.length ≤ (txE x).length := fun x => by unfold txE; simp
  have hlb := hxl m.base
  have hll := hxl m.log
  have HXL := Lib.hid hxl
  have hHW : H < W.heap.size := hsW
  have HNR : Hid (0 ≤ m.tx ∧ m.tx ≤ 1125899906842624 ∧ 1 ≤ m.nx ∧ m.nx ≤ 1000000) := Lib.hid HRNG.out
  rw [← HH.out] at c0 c1 c2 c3 c4
  clear hxl
  go_enter Tryz.func24, Tryz.ntmps24
  go_wp2_with fail
  rw [← HW.out]
  (with_reducible refine CC.out.mono ?_)
  rintro e1 w1 ⟨rfl, hb1⟩
  clear CC c0 c1 c2 c3 c4
  have hs1 := hb1.size
  have q0 := (hb1.cell (p := ⟨H, 0, none⟩) hHW).trans z0
  have q1 := (hb1.cell (p := ⟨H, 1, none⟩) hHW).trans z1
  have q2 := (hb1.cell (p := ⟨H, 2, none⟩) hHW).trans z2
  have q3 := (hb1.cell (p := ⟨H, 3, none⟩) hHW).trans z3
  have q4 := (hb1.cell (p := ⟨H, 4, none⟩) hHW).trans z4
  have hr1 : Rd w1 F 1 (.slice As m.segs.length cs) m.segs.length (sv m.segs) := hhW.keep fun b hb => hb1.block b (by have := HF.out b hb; omega)
  have HB1 := Lib.hid (HBW.out.trans (hb1.mono (by omega)))
  clear z0 z1 z2 z3 z4 hhW hb1
  obtain ⟨base, hbase⟩ : ∃ base, base = w1.heap.size := ⟨_, rfl⟩
  have hHb : H < base := by omega
  have hbw1 : base ≤ w1.heap.size := by omega
  have P1 := Lib.hid (putTx (.slice none 0 0) [] m.base w1 (RdB.nil _ _) (by simp; omega))
  rw [List.nil_append] at P1
  have HBS := Lib.hid hbase
  have y0 := q0; have y1 := q1
  rw [← HH.out] at y0 y1
  clear hbase
  go_wp2_with fail
  (with_reducible refine P1.out.mono ?_)
  rintro e2 w2 ⟨v2, rfl, hO2, hb2⟩
  rw [← HBS.out] at hO2 hb2
  clear P1 y0 y1
  have r1 := (hb2.cell (p := ⟨H, 1, none⟩) hHb).trans q1
  rw [← HH.out] at r1
  have hs2 := hb2.size
  have P2 := Lib.hid (putInt_any v2 (txE m.base) (m.segs.length : Int) w2 (by omega) (by omega) hO2.rd (by omega))
  go_wp2_with fail
  (with_reducible refine P2.out.mono ?_)
  rintro e3 w3 ⟨v3, rfl, hO3', hb3'⟩
  clear P2 r1 hO2
  have hO3 := OwnB.base hO3' (show base ≤ w2.heap.size by omega)
  have hb3 : Below base w1 w3 := hb2.trans (hb3'.mono (by omega))
  have r1 := (hb3.cell (p := ⟨H, 1, none⟩) hHb).trans q1
  rw [← HH.out] at r1
  clear hO3' hb3' hb2
  obtain ⟨pre, hpre⟩ : ∃ pre, pre = txE m.base ++ encI m.segs.length := ⟨_, rfl⟩
  have hprel : pre.length = (txE m.base).length + (encI m.segs.length).length := by rw [hpre, List.length_append]
  rw [← hpre] at hO3
  have HPRE := Lib.hid hpre
  clear hpre
  go_wp2_with fail
  clear r1
  go_loopw [5, 24] (fun u i wr => ∃ (k : Nat) (L : List UInt8) (v : Value), k ≤ m.segs.length ∧ i = .int .i64 (k : Int) ∧ L = pre ++ (m.segs.take k).flatMap txE ∧ u = v ∧ OwnB wr base v L ∧ Below base w1 wr) (fun _ i _ => m.segs.length - (intOf i).toNat)
  case atStart => exact ⟨0, pre, v3, Nat.zero_le _, rfl, by simp, rfl, hO3, hb3⟩
  case round =>
    obtain ⟨k, L, u, hk, rfl, hL, hu, hOr, hbr⟩ := hrel
    replace hu := hu.symm
    subst hu
    have hLl : L.length ≤ body.length := by rw [hL, List.length_append]; have := flat_take_le m.segs k; omega
    have HL := Lib.hid hL
    have hsr := hbr.size
    clear hL hO3 hb3
    by_cases hlt : k < m.segs.length
    case pos =>
      have hga : m.segs[k]? = some m.segs[k] := List.getElem?_eq_getElem hlt
      have hlr : Rd wr F 1 (.slice As m.segs.length cs) m.segs.length (sv m.segs) := hr1.keep fun b hb => hbr.block b (by have := HF.out b hb; omega)
      obtain ⟨ba, oa, rfl, _, a0⟩ := RdS.elem hlr hga
      have hL2 : L.length + (txE m.segs[k]).length ≤ body.length := by
        have h1 := HL.out
        have h2 := flat_take_le m.segs (k + 1)
        rw [List.take_succ_eq_append_getElem hlt, List.flatMap_append, List.length_append] at h2
        simp only [List.flatMap_cons, List.flatMap_nil, List.append_nil] at h2
        rw [h1, List.length_append]
        omega
      have HTS := Lib.hid (List.take_succ_eq_append_getElem hlt)
      have hxk := HXL.out m.segs[k]
      clear hga hlr
      generalize m.segs[k] = x at *
      have P3 := Lib.hid (putTx (.slice none 0 0) [] x wr (RdB.nil _ _) (by simp; omega))
      rw [List.nil_append] at P3
      go_wp2_with fail
      (with_reducible refine P3.out.mono ?_)
      rintro e4 w4 ⟨v4, rfl, hO4, hb4⟩
      clear P3
      have hs4 := hb4.size
      have hOu : OwnB w4 base u L := World.ownsRow.kept (row := none) hOr ⟨hb4.os, hb4.tape, hb4.output, hb4.size, fun k hk _ => hb4.block k hk⟩ (by cases u.ownBlock <;> simp)
      have hb14 : Below base w1 w4 := hbr.trans (hb4.mono (by omega))
      go_wp2_with (at_builtin; refine wpList_append_b rfl (.tmp 28) (.tmp 30) rfl base u L rfl hOu _ v4 (txE x) rfl hO4.rd (by omega) (by omega) ?_; intro v5 w5 hO5 hb5 _ _)
      go_roundw
      case rel => exact ⟨k + 1, L ++ txE x, v5, by omega, by go_num, by rw [HTS.out, HL.out]; simp, rfl, hO5, hb14.trans hb5⟩
      case measure => simp [intOf]; omega
    case neg =>
    obtain rfl : k = m.segs.length := by omega
    rw [List.take_length] at HL
    clear hlt hk
    have r2 := (hbr.cell (p := ⟨H, 2, none⟩) hHb).trans q2
    rw [← HH.out] at r2
    have hLe : L.length + (txE m.log).length + (encI m.tx).length + (encI m.nx).length = body.length := by rw [HL.out, List.length_append]; omega
    have P4 := Lib.hid (putTx u L m.log wr hOr.rd (by omega))
    go_wp2_with fail
    (with_reducible refine P4.out.mono ?_)
    rintro e5 w5 ⟨v5, rfl, hO5, hb5⟩
    clear P4 r2
    have hs5 := hb5.size
    have hb15 : Below base w1 w5 := hbr.trans (hb5.mono (by omega))
    have r3 := (hb15.cell (p := ⟨H, 3, none⟩) hHb).trans q3
    rw [← HH.out] at r3
    have P5 := Lib.hid (putInt_any v5 _ m.tx w5 (by have := HNR.out; omega) (by have := HNR.out; omega) hO5.rd (by rw [List.length_append]; omega))
    go_wp2_with fail
    (with_reducible refine P5.out.mono ?_)
    rintro e6 w6 ⟨v6, rfl, hO6, hb6⟩
    clear P5 r3
    have hs6 := hb6.size
    have hb16 : Below base w1 w6 := hb15.trans (hb6.mono (by omega))
    have r4 := (hb16.cell (p := ⟨H, 4, none⟩) hHb).trans q4
    rw [← HH.out] at r4
    have P6 := Lib.hid (putInt_any v6 _ m.nx w6 (by have := HNR.out; omega) (by have := HNR.out; omega) hO6.rd (by rw [List.length_append, List.length_append]; omega))
    go_wp2_with fail
    (with_reducible refine P6.out.mono ?_)
    rintro e7 w7 ⟨v7, rfl, hO7, hb7⟩
    clear P6 r4
    have hs7 := hb7.size
    have hb17 : Below base w1 w7 := hb16.trans (hb7.mono (by omega))
    have hbody : L ++ txE m.log ++ encI m.tx ++ encI m.nx = body := by rw [HL.out, HPRE.out, HBODY.out]; simp
    rw [hbody] at hO7
    have P7 := Lib.hid (frAppend_any v7 body w7 hO7.rd (by omega))
    clear hbody
    go_wp2_with fail
    (with_reducible refine P7.out.mono ?_)
    rintro e8 w8 ⟨v8, rfl, hO8, hb8⟩
    clear P7
    go_wp2_with fail
    go_ret2
    have hb18 : Below base w1 w8 := hb17.trans (hb8.mono (by omega))
    exact ⟨_, rfl, OwnB.base hO8 (by rw [HH.out]; omega), by rw [HH.out]; exact HB1.out.trans (hb18.mono (by omega))⟩
end Go.Proofs.YthjephhojngiaaaGreatDoor
