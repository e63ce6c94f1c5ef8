/-
  Manifests: the reference's Decode.
-/
import Derived.Test.YthjephhojngiaaaGreatDoorManQ
namespace Go.Proofs.YthjephhojngiaaaGreatDoor
open Go.RowKit Go.Lib Go.IntWalk

theorem bne_of {x : Int} (h : ¬ x = 0) : (x != 0) = true ∧ (x == 0) = false := ⟨by rw [bne_iff_ne]; exact h, by rw [beq_eq_false_iff_ne]; exact h⟩
set_option maxRecDepth 100000 in
set_option maxHeartbeats 4000000 in
theorem rdecode_any (v : Value) (l : List UInt8) (w : World) (hv : RdB w (· < w.heap.size) v l) (hl : l.length ≤ 1000000) : Calls Tryz.prog 36 #[v] w (DecOut (decM l) w) := by
  obtain ⟨W, hW⟩ : ∃ W, W = w.alloc (.cells #[.string ⟨#[]⟩, .slice none 0 0, .string ⟨#[]⟩, .int .i64 0, .int .i64 0] 25) := ⟨_, rfl⟩
  have hbW : Below w.heap.size w W := by rw [hW]; exact Below.of_alloc _
  have CN := Lib.hid (tnext_any v l 0 W (hv.below hbW))
  obtain ⟨A, c, rfl, cx1, cx2, cx3⟩ := hv.open_
  have hbl := nextF_len l 0
  generalize hr : nextF l 0 = r at *
  obtain ⟨body, nx, e0⟩ := r
  dsimp only at hbl
  have HN := Lib.hid hr
  have HW := Lib.hid hW
  have hM : W.heap[w.heap.size]? = some (.cells #[.string ⟨#[]⟩, .slice none 0 0, .string ⟨#[]⟩, .int .i64 0, .int .i64 0] 25 (0, 0)) := by rw [hW]; exact heap_alloc_new w _
  have hsW : W.heap.size = w.heap.size + 1 := by rw [hW]; simp
  clear hW hr
  generalize hH : w.heap.size = H at *
  have HH := Lib.hid hH
  have HCX := Lib.hid cx3
  unfold maxLen at cx2
  clear cx3 hH
  obtain ⟨i0, hi, hz0, hz1, hz2⟩ := info_parts infoSt
  go_enter Tryz.func36, Tryz.ntmps36
  go_wp2_with fail
  rw [← HW.out]
  (with_reducible refine CN.out.mono ?_)
  rintro e1 w1 ⟨v1, rfl, hO1, hb1⟩
  dsimp only at hO1
  rw [HH.out]
  have hs1 := hb1.size
  have hZ1 : ResZ w w1 H := ⟨(hb1.block H (by omega)).trans hM, hbW.trans (hb1.mono (by omega))⟩
  have hrd1 : RdB w1 (fun x => H < x ∧ x < w1.heap.size) v1 body := (Rd.of_own hO1).wide fun b hb => ⟨by omega, by omega⟩
  obtain ⟨Ab, cb, rfl, d1, d2, d3⟩ := hrd1.open_
  have HD3 := Lib.hid d3
  unfold maxLen at d2
  by_cases h0 : e0 = 0
  case neg =>
    have b1 := (bne_of h0).1
    obtain ⟨r0, r1, r2, r3, r4⟩ := (hZ1).c
    have f0 := (hZ1).fr 0; have f1 := (hZ1).fr 1; have f2 := (hZ1).fr 2; have f3 := (hZ1).fr 3; have f4 := (hZ1).fr 4
    go_wp2_with fail
    exact rdec_err _ rfl rfl HH.out (hZ1) _ (by rw [decM]; simp only [HN.out]; rw [if_pos h0])
  case pos =>
  subst h0
  by_cases h1 : nx < (l.length : Int)
  case pos =>
    obtain ⟨r0, r1, r2, r3, r4⟩ := (hZ1).c
    have f0 := (hZ1).fr 0; have f1 := (hZ1).fr 1; have f2 := (hZ1).fr 2; have f3 := (hZ1).fr 3; have f4 := (hZ1).fr 4
    go_wp2_with fail
    exact rdec_err _ rfl rfl HH.out (hZ1) _ (by rw [decM]; simp only [HN.out]; rw [if_neg (by simp), if_pos h1])
  case neg =>
  obtain ⟨Hm, hHm⟩ : ∃ Hm, Hm = w1.heap.size := ⟨_, rfl⟩
  obtain ⟨X, hX⟩ : ∃ X, X = w1.alloc (.cells #[.string ⟨#[]⟩, .slice none 0 0, .string ⟨#[]⟩, .int .i64 0, .int .i64 0] 25) := ⟨_, rfl⟩
  have hbX : Below w1.heap.size w1 X := by rw [hX]; exact Below.of_alloc _
  have hHHm : H < Hm := by omega
  have hR : RDec w X H Hm none 0 .zero (.slice Ab body.length cb) body := ⟨(hbX.block H (by omega)).trans hZ1.row, by rw [hX, hHm]; exact heap_alloc_new _ _, OwnS.nil _ _, by rw [hHm]; exact hrd1.keep fun x hx => hbX.block x (by omega), hZ1.b.trans (hbX.mono (by omega))⟩
  have HB := Lib.hid (show decM l = decB body by rw [decM]; simp only [HN.out]; rw [if_neg (by simp), if_neg h1])
  have hC := Lib.hid (refText_any _ _ body 0 200 X hR.rd)
  generalize hT1 : decT body 0 200 = r1 at hC
  obtain ⟨s1, k1, e1⟩ := r1
  have T1 := Lib.hid hT1
  clear hT1 hZ1
  go_wp2_with fail
  rw [← hX, ← hHm]
  clear hX hbX hHm hrd1 hO1 hb1 hs1
  (with_reducible refine hC.out.mono ?_)
  rintro en W1 ⟨rfl, rfl⟩
  (try dsimp only)
  clear hC
  by_cases h2 : e1 = 0
  case neg =>
    have b1 := (bne_of h2).1
    obtain ⟨r0, r1, r2, r3, r4⟩ := (hR.z).c
    have f0 := (hR.z).fr 0; have f1 := (hR.z).fr 1; have f2 := (hR.z).fr 2; have f3 := (hR.z).fr 3; have f4 := (hR.z).fr 4
    go_wp2_with fail
    exact rdec_err _ rfl rfl HH.out (hR.z) _ (by rw [HB.out]; unfold decB; simp only [T1.out]; rw [if_pos h2])
  case pos =>
  subst h2
  have hR2 := hR.fld hHHm 0 (.string (strB s1)) ⟨s1, [], [], 0, 0⟩ rfl rfl
  have q0 := hR.c0
  have q1 := hR.fr 0
  obtain ⟨X2, hX2⟩ : ∃ X2, X2 = X.setCell ⟨Hm, 0, none⟩ (.string (strB s1)) := ⟨_, rfl⟩
  rw [← hX2] at hR2
  have hC := Lib.hid (refInt_any _ _ body k1 X2 hR2.rd)
  generalize hT2 : decI body k1 = r2 at hC
  obtain ⟨n, k2, e2⟩ := r2
  have T2 := Lib.hid (show stI body k1 0 = (n, k2, e2) by rw [stI, if_pos rfl]; exact hT2)
  clear hT2
  go_wp2_with fail
  rw [← hX2]
  clear hX2 q0 q1 hR
  (with_reducible refine hC.out.mono ?_)
  rintro en W1 ⟨rfl, rfl⟩
  (try dsimp only)
  clear hC
  have hnbd := stI_bd T2.out
  by_cases h3 : e2 = 0
  case neg =>
    obtain ⟨b1, b2⟩ := bne_of h3
    have HFIN := Lib.hid (show decM l = (.zero, e2) by rw [HB.out, decB_err T1.out T2.out (fun h => h3 h.1) (segs_err h3 (sg := []) (k3 := 0)) (stT_err h3) (stI_err h3) (stI_err h3), if_pos h3])
    go_wp2_with fail
    go_loopw [6, 11] (fun e i wr => e = .int .i64 e2 ∧ i = .int .i64 0 ∧ wr = X2) (fun _ _ _ => 0)
    case atStart => exact ⟨rfl, rfl, rfl⟩
    case round =>
      obtain ⟨rfl, rfl, rfl⟩ := hrel
      by_cases hlt : (0 : Int) < n
      case pos =>
        obtain ⟨r0, r1, r2, r3, r4⟩ := (hR2.z).c
        have f0 := (hR2.z).fr 0; have f1 := (hR2.z).fr 1; have f2 := (hR2.z).fr 2; have f3 := (hR2.z).fr 3; have f4 := (hR2.z).fr 4
        go_wp2_with fail
        exact rdec_err _ rfl rfl HH.out (hR2.z) _ (HFIN.out)
      case neg =>
        obtain ⟨r0, r1, r2, r3, r4⟩ := (hR2.z).c
        have f0 := (hR2.z).fr 0; have f1 := (hR2.z).fr 1; have f2 := (hR2.z).fr 2; have f3 := (hR2.z).fr 3; have f4 := (hR2.z).fr 4
        go_wp2_with fail
        exact rdec_err _ rfl rfl HH.out (hR2.z) _ (HFIN.out)
  case pos =>
  subst h3
  by_cases h4 : n < 0
  case pos =>
    have HFIN := Lib.hid (show decM l = (.zero, 1) by rw [HB.out]; exact decB_neg T1.out T2.out h4)
    go_wp2_with fail
    go_loopw [6, 11] (fun e i wr => e = .int .i64 1 ∧ i = .int .i64 0 ∧ wr = X2) (fun _ _ _ => 0)
    case atStart => exact ⟨rfl, rfl, rfl⟩
    case round =>
      obtain ⟨rfl, rfl, rfl⟩ := hrel
      have hlt : ¬ (0 : Int) < n := by omega
      obtain ⟨r0, r1, r2, r3, r4⟩ := (hR2.z).c
      have f0 := (hR2.z).fr 0; have f1 := (hR2.z).fr 1; have f2 := (hR2.z).fr 2; have f3 := (hR2.z).fr 3; have f4 := (hR2.z).fr 4
      go_wp2_with fail
      exact rdec_err _ rfl rfl HH.out (hR2.z) _ (HFIN.out)
  case neg =>
  go_wp2_with fail
  go_loopw [6, 9, 11] (fun ev at_ i wr => ∃ (j : Nat) (acc : List (List UInt8)) (As : Option Addr) (cs : Nat) (k e : Int), ev = .int .i64 e ∧ at_ = .int .i64 k ∧ i = .int .i64 (j : Int) ∧ (j : Int) ≤ n ∧ RDec w wr H Hm As cs ⟨s1, acc, [], 0, 0⟩ (.slice Ab body.length cb) body ∧ Hid (SegRel body n.toNat k2 j acc k e) ∧ acc.length ≤ body.length + 1 ∧ (e = 0 → acc.length ≤ body.length)) (fun _ _ i _ => n.toNat - (intOf i).toNat)
  case atStart => exact ⟨0, [], none, 0, k2, 0, rfl, rfl, rfl, by omega, hR2, Lib.hid (segRel_start _ _ _), by simp, fun _ => by simp⟩
  case round =>
    clear hR2
    obtain ⟨j, acc, As, cs, k, e, rfl, rfl, rfl, hj, hRr, HREL, hal, hae⟩ := hrel
    have hlr := hRr.lt
    by_cases he : e = 0
    case neg =>
      obtain ⟨b1, b2⟩ := bne_of he
      have HFIN := Lib.hid (show decM l = (.zero, e) by rw [HB.out, decB_err T1.out T2.out (by intro h; have := h.2; omega) (segRel_end HREL.out (fun h => absurd h he) rfl) (stT_err he) (stI_err he) (stI_err he), if_pos he])
      by_cases hlt : (j : Int) < n
      case pos =>
        obtain ⟨r0, r1, r2, r3, r4⟩ := (hRr.z).c
        have f0 := (hRr.z).fr 0; have f1 := (hRr.z).fr 1; have f2 := (hRr.z).fr 2; have f3 := (hRr.z).fr 3; have f4 := (hRr.z).fr 4
        go_wp2_with fail
        exact rdec_err _ rfl rfl HH.out (hRr.z) _ (HFIN.out)
      case neg =>
        obtain ⟨r0, r1, r2, r3, r4⟩ := (hRr.z).c
        have f0 := (hRr.z).fr 0; have f1 := (hRr.z).fr 1; have f2 := (hRr.z).fr 2; have f3 := (hRr.z).fr 3; have f4 := (hRr.z).fr 4
        go_wp2_with fail
        exact rdec_err _ rfl rfl HH.out (hRr.z) _ (HFIN.out)
    case pos =>
    subst he
    have hal := hae rfl
    clear hae
    by_cases hlt : (j : Int) < n
    case pos =>
      have hC := Lib.hid (refText_any _ _ body k 200 wr hRr.rd)
      generalize hTS : decT body k 200 = rs at hC
      obtain ⟨s, k', e'⟩ := rs
      have TS := Lib.hid (show stT body k 0 = (s, k', e') by rw [stT, if_pos rfl]; exact hTS)
      clear hTS
      go_wp2_with fail
      (with_reducible refine hC.out.mono ?_)
      rintro en W1 ⟨rfl, rfl⟩
      (try dsimp only)
      clear hC
      have q1 := hRr.c1
      dsimp only at q1
      have hnew := rd_str wr s
      have hOb : OwnS (wr.alloc (.cells #[.string (strB s)] 9)) (Hm + 1) (.slice As acc.length cs) acc := World.ownsRow.alloc hRr.o _
      have hj1 : (acc ++ [s]).length = acc.length + 1 := by simp
      go_wp2_with (at_builtin; refine wpList_append_app _ rfl (.tmp 84) (.tmp 86) 23 rfl (Hm + 1) 9 i0 _ 1 16 Tryz.underlying23 hi hz0 hz1 hz2 rfl (by omega) _ acc.length (sv acc) rfl (.inl hOb) _ _ 1 (sv [s]) rfl hnew (sv_one _) (by unfold maxLen; omega) (by omega) (by simp; omega) ?_; intro v6 w6 _ h6 hg6 hb6 ha6; have h6 := h6 (.inr hOb); have hO6 : OwnS w6 (Hm + 1) v6 (acc ++ [s]) := owns_cast (a := acc) (b := [s]) h6; have hg5 : Chg (fun x => Hm + 1 ≤ x) wr w6 := (((Chg.refl (fun x => Hm + 1 ≤ x) wr).alloc _).trans ((Chg.of_grown hg6).mono (fun i hi => (World.ownsRow.lt hOb i hi.symm).1)) (fun _ _ h => h)); obtain ⟨A6, c6, rfl, c61, c62, c63⟩ := hO6.open_; have hR6 := (hg5.block Hm (by omega) (by omega)).trans hRr.row; have x1 : w6.cell? ⟨Hm, 1, none⟩ = some (.slice As acc.length cs) := cell_of_row _ _ 1 _ _ _ hR6; have x2 := frozen_of_row _ _ 1 _ _ hR6; clear h6 hg6 ha6 hnew hOb)
      have hr7 : (w6.setCell ⟨Hm, 1, none⟩ (.slice A6 (acc ++ [s]).length c6)).heap[Hm]? = some (.cells (rowM A6 c6 ⟨s1, acc ++ [s], [], 0, 0⟩) 25 (0, 0)) := heap_setCell_same w6 Hm 1 _ _ (.slice A6 (acc ++ [s]).length c6) hR6
      have hc57 : Chg (fun x => Hm ≤ x) wr (w6.setCell ⟨Hm, 1, none⟩ (.slice A6 (acc ++ [s]).length c6)) := Chg.setCell (S := fun x => Hm ≤ x) (hg5.mono (fun x (h : Hm + 1 ≤ x) => Nat.le_of_succ_le h)) (.inl (Nat.le_refl _)) _
      go_roundw
      case rel =>
        rw [← hj1]
        refine ⟨j + 1, acc ++ [s], A6, c6, k', e', rfl, rfl, by go_num, by omega, ⟨(hc57.block _ (by omega) (by omega)).trans hRr.res, hr7, own_setCell hO6 (fun e => by have := (World.ownsRow.lt hO6 Hm e).1; omega) _, hRr.rd.keep fun x hx => hc57.block x (by omega) (by omega), hRr.b.trans (hc57.below (by omega) (fun i hi => by omega))⟩, Lib.hid (segRel_step HREL.out (by omega) TS.out), by omega, ?_⟩
        intro he'
        subst he'
        have ht := TS.out
        rw [stT, if_pos rfl] at ht
        have hst := decT_step ht
        have hrl := HREL.out
        unfold SegRel at hrl
        rw [if_pos rfl] at hrl
        omega
      case measure => simp [intOf]; omega
    case neg =>
    have SEG : Hid (SegsAre body n k2 0 acc k 0) := Lib.hid (segRel_end HREL.out (fun _ => by omega) rfl)
    clear HREL
    -- the log
    have hC := Lib.hid (refText_any _ _ body k 200 wr hRr.rd)
    generalize hT3 : decT body k 200 = r3 at hC
    obtain ⟨lg, k4, e4⟩ := r3
    have T3 := Lib.hid (show stT body k 0 = (lg, k4, e4) by rw [stT, if_pos rfl]; exact hT3)
    clear hT3
    go_wp2_with fail
    (with_reducible refine hC.out.mono ?_)
    rintro en W1 ⟨rfl, rfl⟩
    (try dsimp only)
    clear hC
    have q0 := hRr.c2
    have q1 := hRr.fr 2
    dsimp only at q0
    have hR4 := hRr.fld hHHm 2 (.string (strB lg)) ⟨s1, acc, lg, 0, 0⟩ rfl rfl
    obtain ⟨X4, hX4⟩ : ∃ X4, X4 = wr.setCell ⟨Hm, 2, none⟩ (.string (strB lg)) := ⟨_, rfl⟩
    have HX4 := Lib.hid hX4
    by_cases h5 : e4 = 0
    case neg =>
      obtain ⟨b1, b2⟩ := bne_of h5
      have HFIN := Lib.hid (show decM l = (.zero, e4) by rw [HB.out, decB_err T1.out T2.out (by intro h; have := h.2; omega) SEG.out T3.out (stI_err h5) (stI_err h5), if_pos h5])
      obtain ⟨r0, r1, r2, r3, r4⟩ := (hR4.z).c
      have f0 := (hR4.z).fr 0; have f1 := (hR4.z).fr 1; have f2 := (hR4.z).fr 2; have f3 := (hR4.z).fr 3; have f4 := (hR4.z).fr 4
      go_wp2_with fail
      exact rdec_err _ rfl rfl HH.out (hR4.z) _ (HFIN.out)
    case pos =>
    subst h5
    rw [← hX4] at hR4
    clear hX4
    have hC := Lib.hid (refInt_any _ _ body k4 X4 hR4.rd)
    generalize hT4 : decI body k4 = r4 at hC
    obtain ⟨tx, k5, e5⟩ := r4
    have T4 := Lib.hid (show stI body k4 0 = (tx, k5, e5) by rw [stI, if_pos rfl]; exact hT4)
    clear hT4
    go_wp2_with fail
    rw [← HX4.out]
    (with_reducible refine hC.out.mono ?_)
    rintro en W1 ⟨rfl, rfl⟩
    (try dsimp only)
    clear hC q0 q1 hRr HX4
    have q0 := hR4.c3
    have q1 := hR4.fr 3
    dsimp only at q0
    have hR5 := hR4.fld hHHm 3 (.int .i64 tx) ⟨s1, acc, lg, tx, 0⟩ rfl rfl
    obtain ⟨X5, hX5⟩ : ∃ X5, X5 = X4.setCell ⟨Hm, 3, none⟩ (.int .i64 tx) := ⟨_, rfl⟩
    have HX5 := Lib.hid hX5
    by_cases h5 : e5 = 0
    case neg =>
      obtain ⟨b1, b2⟩ := bne_of h5
      have HFIN := Lib.hid (show decM l = (.zero, e5) by rw [HB.out, decB_err T1.out T2.out (by intro h; have := h.2; omega) SEG.out T3.out T4.out (stI_err h5), if_pos h5])
      obtain ⟨r0, r1, r2, r3, r4⟩ := (hR5.z).c
      have f0 := (hR5.z).fr 0; have f1 := (hR5.z).fr 1; have f2 := (hR5.z).fr 2; have f3 := (hR5.z).fr 3; have f4 := (hR5.z).fr 4
      go_wp2_with fail
      exact rdec_err _ rfl rfl HH.out (hR5.z) _ (HFIN.out)
    case pos =>
    subst h5
    rw [← hX5] at hR5
    clear hX5
    have hC := Lib.hid (refInt_any _ _ body k5 X5 hR5.rd)
    generalize hT5 : decI body k5 = r5 at hC
    obtain ⟨nn, k6, e6⟩ := r5
    have T5 := Lib.hid (show stI body k5 0 = (nn, k6, e6) by rw [stI, if_pos rfl]; exact hT5)
    clear hT5
    go_wp2_with fail
    rw [← HX5.out]
    (with_reducible refine hC.out.mono ?_)
    rintro en W1 ⟨rfl, rfl⟩
    (try dsimp only)
    clear hC q0 q1 hR4 HX5
    have q0 := hR5.c4
    have q1 := hR5.fr 4
    dsimp only at q0
    have hR6 := hR5.fld hHHm 4 (.int .i64 nn) ⟨s1, acc, lg, tx, nn⟩ rfl rfl
    obtain ⟨X6, hX6⟩ : ∃ X6, X6 = X5.setCell ⟨Hm, 4, none⟩ (.int .i64 nn) := ⟨_, rfl⟩
    have HX6 := Lib.hid hX6
    have HF := Lib.hid (decB_err T1.out T2.out (by intro h; have := h.2; omega) SEG.out T3.out T4.out T5.out)
    by_cases h5 : e6 = 0
    case neg =>
      obtain ⟨b1, b2⟩ := bne_of h5
      have HFIN := Lib.hid (show decM l = (.zero, e6) by rw [HB.out, HF.out, if_pos h5])
      obtain ⟨r0, r1, r2, r3, r4⟩ := (hR6.z).c
      have f0 := (hR6.z).fr 0; have f1 := (hR6.z).fr 1; have f2 := (hR6.z).fr 2; have f3 := (hR6.z).fr 3; have f4 := (hR6.z).fr 4
      go_wp2_with fail
      exact rdec_err _ rfl rfl HH.out (hR6.z) _ (HFIN.out)
    case pos =>
    subst h5
    by_cases h7 : k6 < (body.length : Int)
    case pos =>
      have HFIN := Lib.hid (show decM l = (.zero, 3) by rw [HB.out, HF.out, if_neg (by simp), if_pos h7])
      obtain ⟨r0, r1, r2, r3, r4⟩ := (hR6.z).c
      have f0 := (hR6.z).fr 0; have f1 := (hR6.z).fr 1; have f2 := (hR6.z).fr 2; have f3 := (hR6.z).fr 3; have f4 := (hR6.z).fr 4
      go_wp2_with fail
      exact rdec_err _ rfl rfl HH.out (hR6.z) _ (HFIN.out)
    case neg =>
    have hbm := body_ok T1.out T2.out (by intro h; have := h.2; omega) SEG.out T3.out T4.out T5.out h7
    have HFIN := Lib.hid (show decM l = if chkF ⟨s1, acc, lg, tx, nn⟩ = 0 then (⟨s1, acc, lg, tx, nn⟩, 0) else (.zero, chkF ⟨s1, acc, lg, tx, nn⟩) by rw [HB.out, HF.out, if_neg (by simp), if_neg h7])
    have z1 := bodyM_segs ⟨s1, acc, lg, tx, nn⟩
    rw [hbm] at z1
    dsimp only at z1
    rw [← hX6] at hR6
    have CE := Lib.hid (rcheck_any (fun b => b < X6.heap.size) As cs ⟨s1, acc, lg, tx, nn⟩ X6 ((Rd.of_own hR6.o).wide fun b hb => hb.2) (fun b hb => hb) (by dsimp only; omega))
    generalize hce : chkF ⟨s1, acc, lg, tx, nn⟩ = ce at CE HFIN
    clear hbm z1 HF T1 T2 T3 T4 T5 SEG hce
    have c0 := hR6.c0; have c1 := hR6.c1; have c2 := hR6.c2; have c3 := hR6.c3; have c4 := hR6.c4
    dsimp only at c0 c1 c2 c3 c4
    rw [hX6] at c0 c1 c2 c3 c4
    clear hX6
    go_wp2_with fail
    rw [← HX6.out]
    (with_reducible refine CE.out.mono ?_)
    rintro en w7 ⟨rfl, hb7⟩
    have hR7 := hR6.below hHHm hb7
    clear c0 c1 c2 c3 c4 q0 q1 CE hR6 hR5 HX6
    by_cases h8 : ce = 0
    case neg =>
      obtain ⟨b1, b2⟩ := bne_of h8
      rw [if_neg h8] at HFIN
      obtain ⟨r0, r1, r2, r3, r4⟩ := (hR7.z).c
      have f0 := (hR7.z).fr 0; have f1 := (hR7.z).fr 1; have f2 := (hR7.z).fr 2; have f3 := (hR7.z).fr 3; have f4 := (hR7.z).fr 4
      go_wp2_with fail
      exact rdec_err _ rfl rfl HH.out (hR7.z) _ (HFIN.out)
    case pos =>
      subst h8
      rw [if_pos rfl] at HFIN
      obtain ⟨r0, r1, r2, r3, r4⟩ := hR7.z.c
      have f0 := hR7.z.fr 0; have f1 := hR7.z.fr 1; have f2 := hR7.z.fr 2; have f3 := hR7.z.fr 3; have f4 := hR7.z.fr 4
      have c0 := hR7.c0; have c1 := hR7.c1; have c2 := hR7.c2; have c3 := hR7.c3; have c4 := hR7.c4
      dsimp only at c0 c1 c2 c3 c4
      go_wp2_with fail
      exact rdec_ok _ rfl rfl HH.out hHHm hR7 _ HFIN.out
end Go.Proofs.YthjephhojngiaaaGreatDoor
