/-
  Manifests: Decode.
-/
import Derived.Test.YthjephhojngiaaaGreatDoorManO
namespace Go.Proofs.YthjephhojngiaaaGreatDoor
open Go.RowKit Go.Lib Go.IntWalk

theorem heldSkipRun {P : Program} {ops : Array Oper} {Q : Exit → Act → World → Prop} {md : Region.Mode} {S : World → Prop} {fuel : Nat} {listed : Array Bool} {a : Act} {w : World} (i : Nat) (dst : Option Tmp) {oi : Oper} {w' : World} (hi : ops.toList[i]? = some oi) (hd : oi.dst = dst) (hr : Region.ready md ops listed = [i]) (hw : Region.wanted oi (yielded ops a.tmps) = true)
    (hrun : (execOp a.eval oi).run P w = .ok .skip w') (hS : S w')
    (h : wpAnyH P md ops Q S fuel (listed.setIfInBounds i true) (a.put dst undef) w') : wpAnyH P md ops Q S (fuel + 1) listed a w := by
  subst hd
  refine heldOp i hi hr hw ?_
  unfold Oper.wp
  rw [hrun]
  exact ⟨hS, h⟩
theorem DecM.drew {w0 w : World} {H Bd : Nat} {As : Option Addr} {cs : Nat} {m : Man} (h : DecM w0 w H Bd As cs m) : DecM w0 w.drew H Bd As cs m := ⟨h.row, h.o, h.b.drew⟩
set_option maxRecDepth 100000 in
set_option maxHeartbeats 2000000 in
theorem decode_any (v : Value) (l : List UInt8) (w : World) (hv : RdB w (· < w.heap.size) v l) (hl : l.length ≤ 1000000) : Calls Tryz.prog 23 #[v] w (DecOut (decM l) w) := by
  have hmf : ∀ (fn : Fn) (first cap : Array Value) (w : World), (Instr.makeFunc fn first cap).run Tryz.prog w = .ok (.func fn first cap) w := fun _ _ _ _ => rfl
  obtain ⟨W, hW⟩ : ∃ W, W = (w.alloc (.cells #[.string ⟨#[]⟩, .slice none 0 0, .string ⟨#[]⟩, .int .i64 0, .int .i64 0] 25)).alloc (.cells #[.int .i64 0] 26) := ⟨_, rfl⟩
  have hbW : Below w.heap.size w W := by rw [hW]; exact (Below.of_alloc _).trans ((Below.of_alloc _).mono (by simp))
  have CN := Lib.hid (next_any v l 0 W (hv.below hbW))
  obtain ⟨A, c, rfl, cx1, cx2, cx3⟩ := hv.open_
  have hbl := nextF_len l 0
  generalize hr : nextF l 0 = r at *
  obtain ⟨body, nx, e0⟩ := r
  dsimp only at hbl
  have HN := Lib.hid hr
  have HW := Lib.hid hW
  have hM : W.heap[w.heap.size]? = some (.cells #[.string ⟨#[]⟩, .slice none 0 0, .string ⟨#[]⟩, .int .i64 0, .int .i64 0] 25 (0, 0)) := by
    rw [hW, Below.heap_alloc _ _ _ (by simp)]; exact heap_alloc_new w _
  have hE : W.heap[w.heap.size + 1]? = some (.cells #[.int .i64 0] 26 (0, 0)) := by rw [hW]; exact heap_alloc2_new w _ _
  have hsW : W.heap.size = w.heap.size + 2 := by rw [hW]; simp
  clear hW hr
  generalize hH : w.heap.size = H at *
  have HH := Lib.hid hH
  have HCX := Lib.hid cx3
  unfold maxLen at cx2
  clear cx3 hH
  go_enter_defers Tryz.func23, Tryz.ntmps23
  go_wp2_with fail
  rw [← HW.out]
  (with_reducible refine CN.out.mono ?_)
  rintro e1 w1 ⟨v1, rfl, hO1, hb1⟩
  dsimp only at hO1
  have hs1 := hb1.size
  have hM1 := (hb1.block H (by omega)).trans hM
  have hE1 := (hb1.block (H + 1) (by omega)).trans hE
  have hrd1 : RdB w1 (fun x => H + 1 < x ∧ x < w1.heap.size) v1 body := (Rd.of_own hO1).wide fun b hb => ⟨by omega, by omega⟩
  obtain ⟨Ab, cb, rfl, d1, d2, d3⟩ := hrd1.open_
  rw [HH.out]
  have HD3 := Lib.hid d3
  unfold maxLen at d2
  obtain ⟨X1, hX1⟩ : ∃ X1, X1 = w1.alloc (.cells #[.slice Ab body.length cb] 51) := ⟨_, rfl⟩
  have hb1X : Below w1.heap.size w1 X1 := by rw [hX1]; exact Below.of_alloc _
  have hsX1 : X1.heap.size = w1.heap.size + 1 := by rw [hX1]; simp
  have hBX1 : X1.heap[w1.heap.size]? = some (.cells #[.slice Ab body.length cb] 51 (0, 0)) := by rw [hX1]; exact heap_alloc_new _ _
  have hEX1 : EAt X1 H 0 := (hb1X.block (H + 1) (by omega)).trans hE1
  have hMX1 := (hb1X.block H (by omega)).trans hM1
  have y1 := hEX1.c
  have y2 := hEX1.fr
  have hEX2 : EAt (X1.setCell ⟨H + 1, 0, none⟩ (.int .i64 e0)) H e0 := hEX1.set e0
  have y3 := hEX2.c
  obtain ⟨X2, hX2⟩ : ∃ X2, X2 = X1.setCell ⟨H + 1, 0, none⟩ (.int .i64 e0) := ⟨_, rfl⟩
  have hsX2 : X2.heap.size = w1.heap.size + 1 := by rw [hX2]; simp [World.setCell, hsX1]
  have hDX2 : DecM w X2 H w1.heap.size none 0 .zero := by
    have h1 : DecM w X1 H w1.heap.size none 0 .zero := ⟨hMX1, OwnS.nil _ _, hbW.trans ((hb1.mono (by omega)).trans (hb1X.mono (by omega)))⟩
    rw [hX2]
    exact h1.setE (by omega) _
  have hEX2' : EAt X2 H e0 := by rw [hX2]; exact hEX2
  have hBX2 : X2.heap[w1.heap.size]? = some (.cells #[.slice Ab body.length cb] 51 (0, 0)) := by rw [hX2]; exact (heap_setCell_other _ _ _ _ (by simp; omega)).trans hBX1
  have hrd2 : RdB X2 (fun x => H + 1 < x ∧ x < w1.heap.size) (.slice Ab body.length cb) body := hrd1.keep fun x hx => by
    rw [hX2]; exact (heap_setCell_other _ _ _ _ (by simp; omega)).trans (hb1X.block x (by omega))
  have HX2 := Lib.hid (show X2 = (w1.alloc (.cells #[.slice Ab body.length cb] 51)).setCell ⟨H + 1, 0, none⟩ (.int .i64 e0) by rw [hX2, hX1])
  rw [hX1] at y1 y2 y3
  clear hX1 hX2 hMX1 hEX1 hEX2 hBX1 hb1X hsX1 X1 hrd1 hM1 hE1 hM hE d3
  by_cases h0 : e0 = 0
  case neg =>
    have b1 : (e0 != 0) = true := by rw [bne_iff_ne]; exact h0
    generalize hBd : w1.heap.size = Bd at *
    have hHBd : H < Bd := by omega
    clear hBd
    go_wp2_with fail
    rw [← HX2.out]
    have hD := hDX2
    have hE := hEX2'
    refine wp_region_noPanic ?_
    refine wp_region_held_drew (S := (fun w' => DecM w w' H Bd none 0 Man.zero ∧ EAt w' H e0)) (by kernel_rfl) ?_ (fun hHeld => ?_)
    · exact ⟨hD.drew, hE⟩
    generalize X2.drew = Y at hHeld ⊢
    refine heldTake 0 (some 21) (v := ?_) rfl rfl (by kernel_rfl) (by kernel_rfl) (by kernel_rfl) (by rfl) hHeld (fun _ _ _ h => h) ?_ ?_
    rotate_left
    · intro w' hSw; (try dsimp only at hSw); have q0 := hSw.1.c0; have q1 := hSw.1.c1; have q2 := hSw.1.c2; have q3 := hSw.1.c3; have q4 := hSw.1.c4; go_simp <;> with_reducible rfl
    simp only [Act.put, List.setIfInBounds_toArray, List.set_cons_zero, List.set_cons_succ]
    refine heldTake 1 (some 22) (v := ?_) rfl rfl (by kernel_rfl) (by kernel_rfl) (by kernel_rfl) (by rfl) hHeld (fun _ _ _ h => h) ?_ ?_
    rotate_left
    · intro w' hSw; (try dsimp only at hSw); have q0 := hSw.2.c; go_simp <;> with_reducible rfl
    simp only [Act.put, List.setIfInBounds_toArray, List.set_cons_zero, List.set_cons_succ]
    have hHeld0 := hHeld
    have hNew : (fun w' => DecM w w' H Bd none 0 Man.zero ∧ EAt w' H e0) ((((((Y.setCell ⟨H, 0, none⟩ (.string (strB (Man.zero).base))).setCell ⟨H, 1, none⟩ (.slice none (Man.zero).segs.length 0)).setCell ⟨H, 2, none⟩ (.string (strB (Man.zero).log))).setCell ⟨H, 3, none⟩ (.int .i64 (Man.zero).tx)).setCell ⟨H, 4, none⟩ (.int .i64 (Man.zero).nx))) := by exact ⟨hHeld.1.store hHBd, hHeld.2.store _ _ _ _ _ _ _ _ _ _⟩
    refine heldSkipRun 2 none (w' := (((((Y.setCell ⟨H, 0, none⟩ (.string (strB (Man.zero).base))).setCell ⟨H, 1, none⟩ (.slice none (Man.zero).segs.length 0)).setCell ⟨H, 2, none⟩ (.string (strB (Man.zero).log))).setCell ⟨H, 3, none⟩ (.int .i64 (Man.zero).tx)).setCell ⟨H, 4, none⟩ (.int .i64 (Man.zero).nx))) rfl rfl (by kernel_rfl) (by rfl) ?_ hNew ?_
    · have q0 := hHeld0.1.fr 0; have q1 := hHeld0.1.fr 1; have q2 := hHeld0.1.fr 2; have q3 := hHeld0.1.fr 3; have q4 := hHeld0.1.fr 4; have r0 := hHeld0.1.c0; have r1 := hHeld0.1.c1; have r2 := hHeld0.1.c2; have r3 := hHeld0.1.c3; have r4 := hHeld0.1.c4; go_simp <;> with_reducible rfl
    clear hHeld hHeld0
    have hHeld := hNew
    clear hNew
    simp only [Act.put]
    have hHeld0 := hHeld
    have hNew : (fun w' => DecM w w' H Bd none 0 Man.zero ∧ EAt w' H e0) (((((((Y.setCell ⟨H, 0, none⟩ (.string (strB (Man.zero).base))).setCell ⟨H, 1, none⟩ (.slice none (Man.zero).segs.length 0)).setCell ⟨H, 2, none⟩ (.string (strB (Man.zero).log))).setCell ⟨H, 3, none⟩ (.int .i64 (Man.zero).tx)).setCell ⟨H, 4, none⟩ (.int .i64 (Man.zero).nx))).setCell ⟨H + 1, 0, none⟩ (.int .i64 e0)) := by exact ⟨hHeld.1.setE hHBd _, hHeld.2.set _⟩
    refine heldSkipRun 3 none (w' := ((((((Y.setCell ⟨H, 0, none⟩ (.string (strB (Man.zero).base))).setCell ⟨H, 1, none⟩ (.slice none (Man.zero).segs.length 0)).setCell ⟨H, 2, none⟩ (.string (strB (Man.zero).log))).setCell ⟨H, 3, none⟩ (.int .i64 (Man.zero).tx)).setCell ⟨H, 4, none⟩ (.int .i64 (Man.zero).nx))).setCell ⟨H + 1, 0, none⟩ (.int .i64 e0)) rfl rfl (by kernel_rfl) (by rfl) ?_ hNew ?_
    · have q0 := hHeld0.2.fr; have q1 := hHeld0.2.c; go_simp <;> with_reducible rfl
    clear hHeld hHeld0
    have hHeld := hNew
    clear hNew
    simp only [Act.put]
    refine wpAnyH_done (by kernel_rfl) ?_ _
    refine NoPanic.normal ?_
    go_wp2_with fail
    exact dec_fin _ rfl rfl HH.out (by omega) hHeld.1 hHeld.2 _ (by rw [if_neg h0, decM]; simp only [HN.out]; rw [if_pos h0])
  case pos =>
    subst h0
    generalize hBd : w1.heap.size = Bd at *
    have hHBd : H < Bd := by omega
    have HBD := Lib.hid hBd
    clear hBd
    by_cases h1 : nx < (l.length : Int)
    case pos =>
      have c0 := hDX2.c0; have c1 := hDX2.c1; have c2 := hDX2.c2; have c3 := hDX2.c3; have c4 := hDX2.c4
      have f0 := hDX2.fr 0; have f1 := hDX2.fr 1; have f2 := hDX2.fr 2; have f3 := hDX2.fr 3; have f4 := hDX2.fr 4
      have g0 := (hEX2'.store 0 1 2 3 4 (.string (strB Man.zero.base)) (.slice none Man.zero.segs.length 0) (.string (strB Man.zero.log)) (.int .i64 Man.zero.tx) (.int .i64 Man.zero.nx)).c
      have g1 := (hEX2'.store 0 1 2 3 4 (.string (strB Man.zero.base)) (.slice none Man.zero.segs.length 0) (.string (strB Man.zero.log)) (.int .i64 Man.zero.tx) (.int .i64 Man.zero.nx)).fr
      rw [HX2.out] at c0 c1 c2 c3 c4 f0 f1 f2 f3 f4 g0 g1
      go_wp2_with fail
      rw [← HX2.out]
      exact dec_fin _ rfl rfl HH.out hHBd ((hDX2.store hHBd).setE hHBd _) ((hEX2'.store _ _ _ _ _ _ _ _ _ _).set 3) _ (by rw [if_neg (by decide), decM]; simp only [HN.out]; rw [if_neg (by simp), if_pos h1])
    case neg =>
    go_wp2_with fail
    rw [← HX2.out, HBD.out]
    obtain ⟨X4, hX4⟩ : ∃ X4, X4 = (X2.alloc (.cells #[.int .i64 0] 3)).alloc (.cells #[.int .i64 0] 3) := ⟨_, rfl⟩
    have hb24 : Chg (fun _ => False) X2 X4 := by rw [hX4]; exact ((Chg.refl _ _).alloc _).alloc _
    have hsX4 : X4.heap.size = Bd + 3 := by rw [hX4]; simp [hsX2]
    have hA4 : X4.heap[Bd + 1]? = some (.cells #[.int .i64 0] 3 (0, 0)) := by
      rw [hX4, Below.heap_alloc _ _ _ (by simp [hsX2]), ← hsX2]; exact heap_alloc_new _ _
    have hN4 : X4.heap[Bd + 2]? = some (.cells #[.int .i64 0] 3 (0, 0)) := by
      rw [hX4, show Bd + 2 = X2.heap.size + 1 by omega]; exact heap_alloc2_new _ _ _
    have hD4 : DecM w X4 H Bd none 0 .zero := hDX2.chg hb24 (fun _ h => h.elim)
    have hC4 : DecC X4 H Bd (.slice Ab body.length cb) body 0 0 := ⟨hEX2'.chg hb24 (fun h => h), (hb24.block _ (by omega) (fun h => h)).trans hBX2, hA4, hrd2.keep fun x hx => hb24.block x (by omega) (fun h => h)⟩
    rw [← hX4]
    have HB := Lib.hid (show decM l = decB body by rw [decM]; simp only [HN.out]; rw [if_neg (by simp), if_neg (by omega)])
    clear hX4 hb24 hA4 hDX2 hBX2 hrd2 hEX2' y1 y2 y3 HX2 HN hsX2 h1 hO1 hb1
    have C1 := Lib.hid (dec2_st H Bd H 0 _ _ _ body 0 0 X4 hC4 (by omega) (.inl rfl) hD4.row rfl)
    generalize hT1 : stT body 0 0 = r1 at C1
    obtain ⟨s1, k1, e1⟩ := r1
    have T1 := Lib.hid hT1
    clear hT1
    (with_reducible refine C1.out.mono ?_)
    intro en w2 hcl
    obtain ⟨rfl, hD2, hC2, hc2⟩ := fld_done hD4 (by omega) rfl hcl (m' := ⟨s1, [], [], 0, 0⟩) rfl rfl
    dsimp only at hC2
    have hN2 : w2.heap[Bd + 2]? = some (.cells #[.int .i64 0] 3 (0, 0)) := (hc2.block _ (by omega) (by omega)).trans hN4
    clear hcl C1 hc2 hN4 hC4 hD4 hsX4
    have C2 := Lib.hid (dec3_st H Bd (Bd + 2) 0 _ _ _ body k1 e1 w2 hC2 (by omega) (.inr (by omega)) hN2 rfl)
    generalize hT2 : stI body k1 e1 = r2 at C2
    obtain ⟨n, k2, e2⟩ := r2
    have T2 := Lib.hid hT2
    clear hT2
    go_wp2_with fail
    (with_reducible refine C2.out.mono ?_)
    rintro en w3 ⟨rfl, hC3, hN3, hc3⟩
    (try dsimp only at hC3)
    replace hN3 : w3.heap[Bd + 2]? = some (.cells #[.int .i64 n] 3 (0, 0)) := hN3
    have hD3 : DecM w w3 H Bd none 0 ⟨s1, [], [], 0, 0⟩ := hD2.chg hc3 (fun x hx => by omega)
    clear C2 hc3 hD2 hC2 hN2
    have hE3 : EAt w3 H e2 := hC3.e
    have q1 := hE3.c
    have q2 : w3.cell? ⟨Bd + 1 + 1, 0, none⟩ = some (.int .i64 n) := cell_of_row _ _ 0 _ _ _ hN3
    by_cases hneg : e2 = 0 ∧ n < 0
    case pos =>
      obtain ⟨rfl, hn⟩ := hneg
      have c0 := hD3.c0; have c1 := hD3.c1; have c2 := hD3.c2; have c3 := hD3.c3; have c4 := hD3.c4
      have f0 := hD3.fr 0; have f1 := hD3.fr 1; have f2 := hD3.fr 2; have f3 := hD3.fr 3; have f4 := hD3.fr 4
      have g1 := hE3.fr
      dsimp only at c0 c1 c2 c3 c4
      go_wp2_with fail
      exact dec_fin _ rfl rfl HH.out hHBd ((hD3.store hHBd).setE hHBd _) ((hE3.store _ _ _ _ _ _ _ _ _ _).set 1) _ (by rw [if_neg (by decide), HB.out]; exact decB_neg T1.out T2.out hn)
    case neg =>
    have HNEG := Lib.hid hneg
    have hnbd := stI_bd T2.out
    have hin : ∀ i0 : Nat, True := fun _ => trivial
    obtain ⟨i0, hi, hz0, hz1, hz2⟩ := info_parts infoSt
    have hsp : Bd + 2 < w3.heap.size := (Array.getElem?_eq_some_iff.1 hN3).1
    by_cases hne : e2 = 0
    case neg =>
      have b1 : (e2 == 0) = false := by rw [beq_eq_false_iff_ne]; exact hne
      clear hneg
      go_wp2_with fail
      clear b1
      go_loopw [10] (fun i wr => ∃ (j : Nat) (acc : List (List UInt8)) (As : Option Addr) (cs : Nat) (k e : Int), i = .int .i64 (j : Int) ∧ (j : Int) ≤ max n 0 ∧ DecM w wr H Bd As cs ⟨s1, acc, [], 0, 0⟩ ∧ DecC wr H Bd (.slice Ab body.length cb) body k e ∧ wr.heap[Bd + 2]? = some (.cells #[.int .i64 n] 3 (0, 0)) ∧ Hid (e = e2) ∧ acc.length ≤ body.length + 1 ∧ (e = 0 → acc.length ≤ body.length)) (fun i _ => n.toNat - (intOf i).toNat)
      case atStart => exact ⟨0, [], none, 0, k2, e2, rfl, by omega, hD3, hC3, hN3, Lib.hid (rfl), by simp, fun _ => by simp⟩
      case round =>
        clear hD3 hC3 hN3 hE3 q1 q2
        obtain ⟨j, acc, As, cs, k, e, rfl, hj, hDr, hCr, hNr, HREL, hal, hae⟩ := hrel
        have hEr : EAt wr H e := hCr.e
        have q1 := hEr.c
        have q2 : wr.cell? ⟨Bd + 1 + 1, 0, none⟩ = some (.int .i64 n) := cell_of_row _ _ 0 _ _ _ hNr
        have hsr : Bd + 2 < wr.heap.size := (Array.getElem?_eq_some_iff.1 hNr).1
        by_cases hlt : (j : Int) < n
        case pos =>
          by_cases he : e = 0
          case pos =>
            exact absurd (HREL.out.symm.trans he) hne
          case neg =>
            have b2 : (e == 0) = false := by rw [beq_eq_false_iff_ne]; exact he
            have SEG : Hid (SegsAre body n k2 e2 acc k e) := Lib.hid (by rw [HREL.out]; exact segs_err hne)
            go_wp2_with fail
            clear b2
            have C3 := Lib.hid (dec2_st H Bd H 2 _ _ _ body k e wr hCr (by omega) (.inl rfl) hDr.row rfl)
            generalize hT3 : stT body k e = r3 at C3
            obtain ⟨lg, k4, e4⟩ := r3
            have T3 := Lib.hid hT3
            clear hT3
            (with_reducible refine C3.out.mono ?_)
            intro en w4 hcl
            obtain ⟨rfl, hD4, hC4, _⟩ := fld_done hDr (by omega) rfl hcl (m' := ⟨s1, acc, lg, 0, 0⟩) rfl rfl
            (try dsimp only at hC4)
            clear hcl C3 hDr hCr hNr hEr q1 q2
            have C4 := Lib.hid (dec3_st H Bd H 3 _ _ _ body k4 e4 w4 hC4 (by omega) (.inl rfl) hD4.row rfl)
            generalize hT4 : stI body k4 e4 = r4 at C4
            obtain ⟨tx, k5, e5⟩ := r4
            have T4 := Lib.hid hT4
            clear hT4
            go_wp2_with fail
            (with_reducible refine C4.out.mono ?_)
            intro en w5 hcl
            obtain ⟨rfl, hD5, hC5, _⟩ := fld_done hD4 (by omega) rfl hcl (m' := ⟨s1, acc, lg, tx, 0⟩) rfl rfl
            (try dsimp only at hC5)
            clear hcl C4 hD4 hC4
            have C5 := Lib.hid (dec3_st H Bd H 4 _ _ _ body k5 e5 w5 hC5 (by omega) (.inl rfl) hD5.row rfl)
            generalize hT5 : stI body k5 e5 = r5 at C5
            obtain ⟨nn, k6, e6⟩ := r5
            have T5 := Lib.hid hT5
            clear hT5
            go_wp2_with fail
            (with_reducible refine C5.out.mono ?_)
            intro en w6 hcl
            obtain ⟨rfl, hD6, hC6, _⟩ := fld_done hD5 (by omega) rfl hcl (m' := ⟨s1, acc, lg, tx, nn⟩) rfl rfl
            (try dsimp only at hC6)
            clear hcl C5 hD5 hC5
            have hE6 : EAt w6 H e6 := hC6.e
            have q1 := hE6.c
            have HF := Lib.hid (decB_err T1.out T2.out HNEG.out SEG.out T3.out T4.out T5.out)
            by_cases h6 : e6 = 0
            case neg =>
              have b1 : (e6 != 0) = true := by rw [bne_iff_ne]; exact h6
              go_wp2_with fail
              have hD := hD6
              have hE := hE6
              refine wp_region_noPanic ?_
              refine wp_region_held_drew (S := (fun w' => DecM w w' H Bd As cs (⟨s1, acc, lg, tx, nn⟩ : Man) ∧ EAt w' H e6)) (by kernel_rfl) ?_ (fun hHeld => ?_)
              · exact ⟨hD.drew, hE⟩
              generalize w6.drew = Y at hHeld ⊢
              refine heldTake 0 (some 70) (v := ?_) rfl rfl (by kernel_rfl) (by kernel_rfl) (by kernel_rfl) (by rfl) hHeld (fun _ _ _ h => h) ?_ ?_
              rotate_left
              · intro w' hSw; (try dsimp only at hSw); have q0 := hSw.1.c0; have q1 := hSw.1.c1; have q2 := hSw.1.c2; have q3 := hSw.1.c3; have q4 := hSw.1.c4; go_simp <;> with_reducible rfl
              simp only [Act.put, List.setIfInBounds_toArray, List.set_cons_zero, List.set_cons_succ]
              refine heldTake 1 (some 71) (v := ?_) rfl rfl (by kernel_rfl) (by kernel_rfl) (by kernel_rfl) (by rfl) hHeld (fun _ _ _ h => h) ?_ ?_
              rotate_left
              · intro w' hSw; (try dsimp only at hSw); have q0 := hSw.2.c; go_simp <;> with_reducible rfl
              simp only [Act.put, List.setIfInBounds_toArray, List.set_cons_zero, List.set_cons_succ]
              have hHeld0 := hHeld
              have hNew : (fun w' => DecM w w' H Bd As cs (⟨s1, acc, lg, tx, nn⟩ : Man) ∧ EAt w' H e6) ((((((Y.setCell ⟨H, 0, none⟩ (.string (strB ((⟨s1, acc, lg, tx, nn⟩ : Man)).base))).setCell ⟨H, 1, none⟩ (.slice As ((⟨s1, acc, lg, tx, nn⟩ : Man)).segs.length cs)).setCell ⟨H, 2, none⟩ (.string (strB ((⟨s1, acc, lg, tx, nn⟩ : Man)).log))).setCell ⟨H, 3, none⟩ (.int .i64 ((⟨s1, acc, lg, tx, nn⟩ : Man)).tx)).setCell ⟨H, 4, none⟩ (.int .i64 ((⟨s1, acc, lg, tx, nn⟩ : Man)).nx))) := by exact ⟨hHeld.1.store hHBd, hHeld.2.store _ _ _ _ _ _ _ _ _ _⟩
              refine heldSkipRun 2 none (w' := (((((Y.setCell ⟨H, 0, none⟩ (.string (strB ((⟨s1, acc, lg, tx, nn⟩ : Man)).base))).setCell ⟨H, 1, none⟩ (.slice As ((⟨s1, acc, lg, tx, nn⟩ : Man)).segs.length cs)).setCell ⟨H, 2, none⟩ (.string (strB ((⟨s1, acc, lg, tx, nn⟩ : Man)).log))).setCell ⟨H, 3, none⟩ (.int .i64 ((⟨s1, acc, lg, tx, nn⟩ : Man)).tx)).setCell ⟨H, 4, none⟩ (.int .i64 ((⟨s1, acc, lg, tx, nn⟩ : Man)).nx))) rfl rfl (by kernel_rfl) (by rfl) ?_ hNew ?_
              · have q0 := hHeld0.1.fr 0; have q1 := hHeld0.1.fr 1; have q2 := hHeld0.1.fr 2; have q3 := hHeld0.1.fr 3; have q4 := hHeld0.1.fr 4; have r0 := hHeld0.1.c0; have r1 := hHeld0.1.c1; have r2 := hHeld0.1.c2; have r3 := hHeld0.1.c3; have r4 := hHeld0.1.c4; go_simp <;> with_reducible rfl
              clear hHeld hHeld0
              have hHeld := hNew
              clear hNew
              simp only [Act.put]
              have hHeld0 := hHeld
              have hNew : (fun w' => DecM w w' H Bd As cs (⟨s1, acc, lg, tx, nn⟩ : Man) ∧ EAt w' H e6) (((((((Y.setCell ⟨H, 0, none⟩ (.string (strB ((⟨s1, acc, lg, tx, nn⟩ : Man)).base))).setCell ⟨H, 1, none⟩ (.slice As ((⟨s1, acc, lg, tx, nn⟩ : Man)).segs.length cs)).setCell ⟨H, 2, none⟩ (.string (strB ((⟨s1, acc, lg, tx, nn⟩ : Man)).log))).setCell ⟨H, 3, none⟩ (.int .i64 ((⟨s1, acc, lg, tx, nn⟩ : Man)).tx)).setCell ⟨H, 4, none⟩ (.int .i64 ((⟨s1, acc, lg, tx, nn⟩ : Man)).nx))).setCell ⟨H + 1, 0, none⟩ (.int .i64 e6)) := by exact ⟨hHeld.1.setE hHBd _, hHeld.2.set _⟩
              refine heldSkipRun 3 none (w' := ((((((Y.setCell ⟨H, 0, none⟩ (.string (strB ((⟨s1, acc, lg, tx, nn⟩ : Man)).base))).setCell ⟨H, 1, none⟩ (.slice As ((⟨s1, acc, lg, tx, nn⟩ : Man)).segs.length cs)).setCell ⟨H, 2, none⟩ (.string (strB ((⟨s1, acc, lg, tx, nn⟩ : Man)).log))).setCell ⟨H, 3, none⟩ (.int .i64 ((⟨s1, acc, lg, tx, nn⟩ : Man)).tx)).setCell ⟨H, 4, none⟩ (.int .i64 ((⟨s1, acc, lg, tx, nn⟩ : Man)).nx))).setCell ⟨H + 1, 0, none⟩ (.int .i64 e6)) rfl rfl (by kernel_rfl) (by rfl) ?_ hNew ?_
              · have q0 := hHeld0.2.fr; have q1 := hHeld0.2.c; go_simp <;> with_reducible rfl
              clear hHeld hHeld0
              have hHeld := hNew
              clear hNew
              simp only [Act.put]
              refine wpAnyH_done (by kernel_rfl) ?_ _
              refine NoPanic.normal ?_
              go_wp2_with fail
              exact dec_fin _ rfl rfl HH.out (by omega) hHeld.1 hHeld.2 _ (by rw [if_neg h6, HB.out, HF.out, if_pos h6])
            case pos =>
              subst h6
              have q3 : w6.cell? ⟨Bd + 1, 0, none⟩ = some (.int .i64 k6) := cell_of_row _ _ 0 _ _ _ hC6.a
              have q4 : w6.cell? ⟨Bd, 0, none⟩ = some (.slice Ab body.length cb) := cell_of_row _ _ 0 _ _ _ hC6.b
              have c0 := hD6.c0; have c1 := hD6.c1; have c2 := hD6.c2; have c3 := hD6.c3; have c4 := hD6.c4
              dsimp only at c0 c1 c2 c3 c4
              by_cases h7 : k6 < (body.length : Int)
              case pos =>
                have f0 := hD6.fr 0; have f1 := hD6.fr 1; have f2 := hD6.fr 2; have f3 := hD6.fr 3; have f4 := hD6.fr 4
                have g1 := hE6.fr
                go_wp2_with fail
                exact dec_fin _ rfl rfl HH.out hHBd ((hD6.store hHBd).setE hHBd _) ((hE6.store _ _ _ _ _ _ _ _ _ _).set 3) _ (by rw [if_neg (by decide), HB.out, HF.out, if_neg (by simp), if_pos h7])
              case neg =>
                have hbm := body_ok T1.out T2.out HNEG.out SEG.out T3.out T4.out T5.out h7
                have HFIN := Lib.hid (show decM l = if chkF ⟨s1, acc, lg, tx, nn⟩ = 0 then (⟨s1, acc, lg, tx, nn⟩, 0) else (.zero, chkF ⟨s1, acc, lg, tx, nn⟩) by rw [HB.out, HF.out, if_neg (by simp), if_neg h7])
                have z1 := bodyM_segs ⟨s1, acc, lg, tx, nn⟩
                have z2 := bodyM_nms ⟨s1, acc, lg, tx, nn⟩
                rw [hbm] at z1 z2
                have CE := Lib.hid (encode_any (fun b => b < w6.heap.size) As cs ⟨s1, acc, lg, tx, nn⟩ w6 ((Rd.of_own hD6.o).wide fun b hb => hb.2) (fun b hb => hb) (by omega) (fun s hs => by have := z2 s hs; omega) (by rw [hbm]; omega))
                clear hbm z1 z2 HF T1 T2 T3 T4 T5 HNEG SEG
                have hE6' := hE6
                have hlt6 : H + 1 < w6.heap.size := (Array.getElem?_eq_some_iff.1 hE6').1
                go_wp2_with fail
                (with_reducible refine CE.out.mono ?_)
                rintro en w7 ⟨v7, hen, _, hb7⟩
                rw [encM_err] at hen
                subst hen
                generalize hce : chkF ⟨s1, acc, lg, tx, nn⟩ = ce at *
                have HCE := Lib.hid hce
                clear hce CE q1 q3 q4 c0 c1 c2 c3 c4
                have hD7 : DecM w w7 H Bd As cs ⟨s1, acc, lg, tx, nn⟩ := hD6.chg (Chg.of_below hb7 (fun _ => False)) (fun _ h => h.elim)
                have hE7 : EAt w7 H 0 := hE6.chg (Chg.of_below hb7 (fun _ => False)) (fun h => h)
                have q1 := hE7.c
                have q2 := hE7.fr
                go_wp2_with fail
                obtain ⟨X8, hX8⟩ : ∃ X8, X8 = w7.setCell ⟨H + 1, 0, none⟩ (.int .i64 ce) := ⟨_, rfl⟩
                have hD : DecM w X8 H Bd As cs ⟨s1, acc, lg, tx, nn⟩ := by rw [hX8]; exact hD7.setE hHBd _
                have hE : EAt X8 H ce := by rw [hX8]; exact hE7.set _
                rw [← hX8]
                clear hX8
                refine wp_region_noPanic ?_
                refine wp_region_held_drew (S := (fun w' => DecM w w' H Bd As cs (⟨s1, acc, lg, tx, nn⟩ : Man) ∧ EAt w' H ce)) (by kernel_rfl) ?_ (fun hHeld => ?_)
                · exact ⟨hD.drew, hE⟩
                generalize X8.drew = Y at hHeld ⊢
                refine heldTake 0 (some 82) (v := ?_) rfl rfl (by kernel_rfl) (by kernel_rfl) (by kernel_rfl) (by rfl) hHeld (fun _ _ _ h => h) ?_ ?_
                rotate_left
                · intro w' hSw; (try dsimp only at hSw); have q0 := hSw.1.c0; have q1 := hSw.1.c1; have q2 := hSw.1.c2; have q3 := hSw.1.c3; have q4 := hSw.1.c4; go_simp <;> with_reducible rfl
                simp only [Act.put, List.setIfInBounds_toArray, List.set_cons_zero, List.set_cons_succ]
                refine heldTake 1 (some 83) (v := ?_) rfl rfl (by kernel_rfl) (by kernel_rfl) (by kernel_rfl) (by rfl) hHeld (fun _ _ _ h => h) ?_ ?_
                rotate_left
                · intro w' hSw; (try dsimp only at hSw); have q0 := hSw.2.c; go_simp <;> with_reducible rfl
                simp only [Act.put, List.setIfInBounds_toArray, List.set_cons_zero, List.set_cons_succ]
                have hHeld0 := hHeld
                have hNew : (fun w' => DecM w w' H Bd As cs (⟨s1, acc, lg, tx, nn⟩ : Man) ∧ EAt w' H ce) ((((((Y.setCell ⟨H, 0, none⟩ (.string (strB ((⟨s1, acc, lg, tx, nn⟩ : Man)).base))).setCell ⟨H, 1, none⟩ (.slice As ((⟨s1, acc, lg, tx, nn⟩ : Man)).segs.length cs)).setCell ⟨H, 2, none⟩ (.string (strB ((⟨s1, acc, lg, tx, nn⟩ : Man)).log))).setCell ⟨H, 3, none⟩ (.int .i64 ((⟨s1, acc, lg, tx, nn⟩ : Man)).tx)).setCell ⟨H, 4, none⟩ (.int .i64 ((⟨s1, acc, lg, tx, nn⟩ : Man)).nx))) := by exact ⟨hHeld.1.store hHBd, hHeld.2.store _ _ _ _ _ _ _ _ _ _⟩
                refine heldSkipRun 2 none (w' := (((((Y.setCell ⟨H, 0, none⟩ (.string (strB ((⟨s1, acc, lg, tx, nn⟩ : Man)).base))).setCell ⟨H, 1, none⟩ (.slice As ((⟨s1, acc, lg, tx, nn⟩ : Man)).segs.length cs)).setCell ⟨H, 2, none⟩ (.string (strB ((⟨s1, acc, lg, tx, nn⟩ : Man)).log))).setCell ⟨H, 3, none⟩ (.int .i64 ((⟨s1, acc, lg, tx, nn⟩ : Man)).tx)).setCell ⟨H, 4, none⟩ (.int .i64 ((⟨s1, acc, lg, tx, nn⟩ : Man)).nx))) rfl rfl (by kernel_rfl) (by rfl) ?_ hNew ?_
                · have q0 := hHeld0.1.fr 0; have q1 := hHeld0.1.fr 1; have q2 := hHeld0.1.fr 2; have q3 := hHeld0.1.fr 3; have q4 := hHeld0.1.fr 4; have r0 := hHeld0.1.c0; have r1 := hHeld0.1.c1; have r2 := hHeld0.1.c2; have r3 := hHeld0.1.c3; have r4 := hHeld0.1.c4; go_simp <;> with_reducible rfl
                clear hHeld hHeld0
                have hHeld := hNew
                clear hNew
                simp only [Act.put]
                have hHeld0 := hHeld
                have hNew : (fun w' => DecM w w' H Bd As cs (⟨s1, acc, lg, tx, nn⟩ : Man) ∧ EAt w' H ce) (((((((Y.setCell ⟨H, 0, none⟩ (.string (strB ((⟨s1, acc, lg, tx, nn⟩ : Man)).base))).setCell ⟨H, 1, none⟩ (.slice As ((⟨s1, acc, lg, tx, nn⟩ : Man)).segs.length cs)).setCell ⟨H, 2, none⟩ (.string (strB ((⟨s1, acc, lg, tx, nn⟩ : Man)).log))).setCell ⟨H, 3, none⟩ (.int .i64 ((⟨s1, acc, lg, tx, nn⟩ : Man)).tx)).setCell ⟨H, 4, none⟩ (.int .i64 ((⟨s1, acc, lg, tx, nn⟩ : Man)).nx))).setCell ⟨H + 1, 0, none⟩ (.int .i64 ce)) := by exact ⟨hHeld.1.setE hHBd _, hHeld.2.set _⟩
                refine heldSkipRun 3 none (w' := ((((((Y.setCell ⟨H, 0, none⟩ (.string (strB ((⟨s1, acc, lg, tx, nn⟩ : Man)).base))).setCell ⟨H, 1, none⟩ (.slice As ((⟨s1, acc, lg, tx, nn⟩ : Man)).segs.length cs)).setCell ⟨H, 2, none⟩ (.string (strB ((⟨s1, acc, lg, tx, nn⟩ : Man)).log))).setCell ⟨H, 3, none⟩ (.int .i64 ((⟨s1, acc, lg, tx, nn⟩ : Man)).tx)).setCell ⟨H, 4, none⟩ (.int .i64 ((⟨s1, acc, lg, tx, nn⟩ : Man)).nx))).setCell ⟨H + 1, 0, none⟩ (.int .i64 ce)) rfl rfl (by kernel_rfl) (by rfl) ?_ hNew ?_
                · have q0 := hHeld0.2.fr; have q1 := hHeld0.2.c; go_simp <;> with_reducible rfl
                clear hHeld hHeld0
                have hHeld := hNew
                clear hNew
                simp only [Act.put]
                refine wpAnyH_done (by kernel_rfl) ?_ _
                refine NoPanic.normal ?_
                go_wp2_with fail
                exact dec_fin _ rfl rfl HH.out (by omega) hHeld.1 hHeld.2 _ (by rw [HFIN.out])
        case neg =>
          have SEG : Hid (SegsAre body n k2 e2 acc k e) := Lib.hid (by rw [HREL.out]; exact segs_err hne)
          go_wp2_with fail
          have C3 := Lib.hid (dec2_st H Bd H 2 _ _ _ body k e wr hCr (by omega) (.inl rfl) hDr.row rfl)
          generalize hT3 : stT body k e = r3 at C3
          obtain ⟨lg, k4, e4⟩ := r3
          have T3 := Lib.hid hT3
          clear hT3
          (with_reducible refine C3.out.mono ?_)
          intro en w4 hcl
          obtain ⟨rfl, hD4, hC4, _⟩ := fld_done hDr (by omega) rfl hcl (m' := ⟨s1, acc, lg, 0, 0⟩) rfl rfl
          (try dsimp only at hC4)
          clear hcl C3 hDr hCr hNr hEr q1 q2
          have C4 := Lib.hid (dec3_st H Bd H 3 _ _ _ body k4 e4 w4 hC4 (by omega) (.inl rfl) hD4.row rfl)
          generalize hT4 : stI body k4 e4 = r4 at C4
          obtain ⟨tx, k5, e5⟩ := r4
          have T4 := Lib.hid hT4
          clear hT4
          go_wp2_with fail
          (with_reducible refine C4.out.mono ?_)
          intro en w5 hcl
          obtain ⟨rfl, hD5, hC5, _⟩ := fld_done hD4 (by omega) rfl hcl (m' := ⟨s1, acc, lg, tx, 0⟩) rfl rfl
          (try dsimp only at hC5)
          clear hcl C4 hD4 hC4
          have C5 := Lib.hid (dec3_st H Bd H 4 _ _ _ body k5 e5 w5 hC5 (by omega) (.inl rfl) hD5.row rfl)
          generalize hT5 : stI body k5 e5 = r5 at C5
          obtain ⟨nn, k6, e6⟩ := r5
          have T5 := Lib.hid hT5
          clear hT5
          go_wp2_with fail
          (with_reducible refine C5.out.mono ?_)
          intro en w6 hcl
          obtain ⟨rfl, hD6, hC6, _⟩ := fld_done hD5 (by omega) rfl hcl (m' := ⟨s1, acc, lg, tx, nn⟩) rfl rfl
          (try dsimp only at hC6)
          clear hcl C5 hD5 hC5
          have hE6 : EAt w6 H e6 := hC6.e
          have q1 := hE6.c
          have HF := Lib.hid (decB_err T1.out T2.out HNEG.out SEG.out T3.out T4.out T5.out)
          by_cases h6 : e6 = 0
          case neg =>
            have b1 : (e6 != 0) = true := by rw [bne_iff_ne]; exact h6
            go_wp2_with fail
            have hD := hD6
            have hE := hE6
            refine wp_region_noPanic ?_
            refine wp_region_held_drew (S := (fun w' => DecM w w' H Bd As cs (⟨s1, acc, lg, tx, nn⟩ : Man) ∧ EAt w' H e6)) (by kernel_rfl) ?_ (fun hHeld => ?_)
            · exact ⟨hD.drew, hE⟩
            generalize w6.drew = Y at hHeld ⊢
            refine heldTake 0 (some 70) (v := ?_) rfl rfl (by kernel_rfl) (by kernel_rfl) (by kernel_rfl) (by rfl) hHeld (fun _ _ _ h => h) ?_ ?_
            rotate_left
            · intro w' hSw; (try dsimp only at hSw); have q0 := hSw.1.c0; have q1 := hSw.1.c1; have q2 := hSw.1.c2; have q3 := hSw.1.c3; have q4 := hSw.1.c4; go_simp <;> with_reducible rfl
            simp only [Act.put, List.setIfInBounds_toArray, List.set_cons_zero, List.set_cons_succ]
            refine heldTake 1 (some 71) (v := ?_) rfl rfl (by kernel_rfl) (by kernel_rfl) (by kernel_rfl) (by rfl) hHeld (fun _ _ _ h => h) ?_ ?_
            rotate_left
            · intro w' hSw; (try dsimp only at hSw); have q0 := hSw.2.c; go_simp <;> with_reducible rfl
            simp only [Act.put, List.setIfInBounds_toArray, List.set_cons_zero, List.set_cons_succ]
            have hHeld0 := hHeld
            have hNew : (fun w' => DecM w w' H Bd As cs (⟨s1, acc, lg, tx, nn⟩ : Man) ∧ EAt w' H e6) ((((((Y.setCell ⟨H, 0, none⟩ (.string (strB ((⟨s1, acc, lg, tx, nn⟩ : Man)).base))).setCell ⟨H, 1, none⟩ (.slice As ((⟨s1, acc, lg, tx, nn⟩ : Man)).segs.length cs)).setCell ⟨H, 2, none⟩ (.string (strB ((⟨s1, acc, lg, tx, nn⟩ : Man)).log))).setCell ⟨H, 3, none⟩ (.int .i64 ((⟨s1, acc, lg, tx, nn⟩ : Man)).tx)).setCell ⟨H, 4, none⟩ (.int .i64 ((⟨s1, acc, lg, tx, nn⟩ : Man)).nx))) := by exact ⟨hHeld.1.store hHBd, hHeld.2.store _ _ _ _ _ _ _ _ _ _⟩
            refine heldSkipRun 2 none (w' := (((((Y.setCell ⟨H, 0, none⟩ (.string (strB ((⟨s1, acc, lg, tx, nn⟩ : Man)).base))).setCell ⟨H, 1, none⟩ (.slice As ((⟨s1, acc, lg, tx, nn⟩ : Man)).segs.length cs)).setCell ⟨H, 2, none⟩ (.string (strB ((⟨s1, acc, lg, tx, nn⟩ : Man)).log))).setCell ⟨H, 3, none⟩ (.int .i64 ((⟨s1, acc, lg, tx, nn⟩ : Man)).tx)).setCell ⟨H, 4, none⟩ (.int .i64 ((⟨s1, acc, lg, tx, nn⟩ : Man)).nx))) rfl rfl (by kernel_rfl) (by rfl) ?_ hNew ?_
            · have q0 := hHeld0.1.fr 0; have q1 := hHeld0.1.fr 1; have q2 := hHeld0.1.fr 2; have q3 := hHeld0.1.fr 3; have q4 := hHeld0.1.fr 4; have r0 := hHeld0.1.c0; have r1 := hHeld0.1.c1; have r2 := hHeld0.1.c2; have r3 := hHeld0.1.c3; have r4 := hHeld0.1.c4; go_simp <;> with_reducible rfl
            clear hHeld hHeld0
            have hHeld := hNew
            clear hNew
            simp only [Act.put]
            have hHeld0 := hHeld
            have hNew : (fun w' => DecM w w' H Bd As cs (⟨s1, acc, lg, tx, nn⟩ : Man) ∧ EAt w' H e6) (((((((Y.setCell ⟨H, 0, none⟩ (.string (strB ((⟨s1, acc, lg, tx, nn⟩ : Man)).base))).setCell ⟨H, 1, none⟩ (.slice As ((⟨s1, acc, lg, tx, nn⟩ : Man)).segs.length cs)).setCell ⟨H, 2, none⟩ (.string (strB ((⟨s1, acc, lg, tx, nn⟩ : Man)).log))).setCell ⟨H, 3, none⟩ (.int .i64 ((⟨s1, acc, lg, tx, nn⟩ : Man)).tx)).setCell ⟨H, 4, none⟩ (.int .i64 ((⟨s1, acc, lg, tx, nn⟩ : Man)).nx))).setCell ⟨H + 1, 0, none⟩ (.int .i64 e6)) := by exact ⟨hHeld.1.setE hHBd _, hHeld.2.set _⟩
            refine heldSkipRun 3 none (w' := ((((((Y.setCell ⟨H, 0, none⟩ (.string (strB ((⟨s1, acc, lg, tx, nn⟩ : Man)).base))).setCell ⟨H, 1, none⟩ (.slice As ((⟨s1, acc, lg, tx, nn⟩ : Man)).segs.length cs)).setCell ⟨H, 2, none⟩ (.string (strB ((⟨s1, acc, lg, tx, nn⟩ : Man)).log))).setCell ⟨H, 3, none⟩ (.int .i64 ((⟨s1, acc, lg, tx, nn⟩ : Man)).tx)).setCell ⟨H, 4, none⟩ (.int .i64 ((⟨s1, acc, lg, tx, nn⟩ : Man)).nx))).setCell ⟨H + 1, 0, none⟩ (.int .i64 e6)) rfl rfl (by kernel_rfl) (by rfl) ?_ hNew ?_
            · have q0 := hHeld0.2.fr; have q1 := hHeld0.2.c; go_simp <;> with_reducible rfl
            clear hHeld hHeld0
            have hHeld := hNew
            clear hNew
            simp only [Act.put]
            refine wpAnyH_done (by kernel_rfl) ?_ _
            refine NoPanic.normal ?_
            go_wp2_with fail
            exact dec_fin _ rfl rfl HH.out (by omega) hHeld.1 hHeld.2 _ (by rw [if_neg h6, HB.out, HF.out, if_pos h6])
          case pos =>
            subst h6
            have q3 : w6.cell? ⟨Bd + 1, 0, none⟩ = some (.int .i64 k6) := cell_of_row _ _ 0 _ _ _ hC6.a
            have q4 : w6.cell? ⟨Bd, 0, none⟩ = some (.slice Ab body.length cb) := cell_of_row _ _ 0 _ _ _ hC6.b
            have c0 := hD6.c0; have c1 := hD6.c1; have c2 := hD6.c2; have c3 := hD6.c3; have c4 := hD6.c4
            dsimp only at c0 c1 c2 c3 c4
            by_cases h7 : k6 < (body.length : Int)
            case pos =>
              have f0 := hD6.fr 0; have f1 := hD6.fr 1; have f2 := hD6.fr 2; have f3 := hD6.fr 3; have f4 := hD6.fr 4
              have g1 := hE6.fr
              go_wp2_with fail
              exact dec_fin _ rfl rfl HH.out hHBd ((hD6.store hHBd).setE hHBd _) ((hE6.store _ _ _ _ _ _ _ _ _ _).set 3) _ (by rw [if_neg (by decide), HB.out, HF.out, if_neg (by simp), if_pos h7])
            case neg =>
              have hbm := body_ok T1.out T2.out HNEG.out SEG.out T3.out T4.out T5.out h7
              have HFIN := Lib.hid (show decM l = if chkF ⟨s1, acc, lg, tx, nn⟩ = 0 then (⟨s1, acc, lg, tx, nn⟩, 0) else (.zero, chkF ⟨s1, acc, lg, tx, nn⟩) by rw [HB.out, HF.out, if_neg (by simp), if_neg h7])
              have z1 := bodyM_segs ⟨s1, acc, lg, tx, nn⟩
              have z2 := bodyM_nms ⟨s1, acc, lg, tx, nn⟩
              rw [hbm] at z1 z2
              have CE := Lib.hid (encode_any (fun b => b < w6.heap.size) As cs ⟨s1, acc, lg, tx, nn⟩ w6 ((Rd.of_own hD6.o).wide fun b hb => hb.2) (fun b hb => hb) (by omega) (fun s hs => by have := z2 s hs; omega) (by rw [hbm]; omega))
              clear hbm z1 z2 HF T1 T2 T3 T4 T5 HNEG SEG
              have hE6' := hE6
              have hlt6 : H + 1 < w6.heap.size := (Array.getElem?_eq_some_iff.1 hE6').1
              go_wp2_with fail
              (with_reducible refine CE.out.mono ?_)
              rintro en w7 ⟨v7, hen, _, hb7⟩
              rw [encM_err] at hen
              subst hen
              generalize hce : chkF ⟨s1, acc, lg, tx, nn⟩ = ce at *
              have HCE := Lib.hid hce
              clear hce CE q1 q3 q4 c0 c1 c2 c3 c4
              have hD7 : DecM w w7 H Bd As cs ⟨s1, acc, lg, tx, nn⟩ := hD6.chg (Chg.of_below hb7 (fun _ => False)) (fun _ h => h.elim)
              have hE7 : EAt w7 H 0 := hE6.chg (Chg.of_below hb7 (fun _ => False)) (fun h => h)
              have q1 := hE7.c
              have q2 := hE7.fr
              go_wp2_with fail
              obtain ⟨X8, hX8⟩ : ∃ X8, X8 = w7.setCell ⟨H + 1, 0, none⟩ (.int .i64 ce) := ⟨_, rfl⟩
              have hD : DecM w X8 H Bd As cs ⟨s1, acc, lg, tx, nn⟩ := by rw [hX8]; exact hD7.setE hHBd _
              have hE : EAt X8 H ce := by rw [hX8]; exact hE7.set _
              rw [← hX8]
              clear hX8
              refine wp_region_noPanic ?_
              refine wp_region_held_drew (S := (fun w' => DecM w w' H Bd As cs (⟨s1, acc, lg, tx, nn⟩ : Man) ∧ EAt w' H ce)) (by kernel_rfl) ?_ (fun hHeld => ?_)
              · exact ⟨hD.drew, hE⟩
              generalize X8.drew = Y at hHeld ⊢
              refine heldTake 0 (some 82) (v := ?_) rfl rfl (by kernel_rfl) (by kernel_rfl) (by kernel_rfl) (by rfl) hHeld (fun _ _ _ h => h) ?_ ?_
              rotate_left
              · intro w' hSw; (try dsimp only at hSw); have q0 := hSw.1.c0; have q1 := hSw.1.c1; have q2 := hSw.1.c2; have q3 := hSw.1.c3; have q4 := hSw.1.c4; go_simp <;> with_reducible rfl
              simp only [Act.put, List.setIfInBounds_toArray, List.set_cons_zero, List.set_cons_succ]
              refine heldTake 1 (some 83) (v := ?_) rfl rfl (by kernel_rfl) (by kernel_rfl) (by kernel_rfl) (by rfl) hHeld (fun _ _ _ h => h) ?_ ?_
              rotate_left
              · intro w' hSw; (try dsimp only at hSw); have q0 := hSw.2.c; go_simp <;> with_reducible rfl
              simp only [Act.put, List.setIfInBounds_toArray, List.set_cons_zero, List.set_cons_succ]
              have hHeld0 := hHeld
              have hNew : (fun w' => DecM w w' H Bd As cs (⟨s1, acc, lg, tx, nn⟩ : Man) ∧ EAt w' H ce) ((((((Y.setCell ⟨H, 0, none⟩ (.string (strB ((⟨s1, acc, lg, tx, nn⟩ : Man)).base))).setCell ⟨H, 1, none⟩ (.slice As ((⟨s1, acc, lg, tx, nn⟩ : Man)).segs.length cs)).setCell ⟨H, 2, none⟩ (.string (strB ((⟨s1, acc, lg, tx, nn⟩ : Man)).log))).setCell ⟨H, 3, none⟩ (.int .i64 ((⟨s1, acc, lg, tx, nn⟩ : Man)).tx)).setCell ⟨H, 4, none⟩ (.int .i64 ((⟨s1, acc, lg, tx, nn⟩ : Man)).nx))) := by exact ⟨hHeld.1.store hHBd, hHeld.2.store _ _ _ _ _ _ _ _ _ _⟩
              refine heldSkipRun 2 none (w' := (((((Y.setCell ⟨H, 0, none⟩ (.string (strB ((⟨s1, acc, lg, tx, nn⟩ : Man)).base))).setCell ⟨H, 1, none⟩ (.slice As ((⟨s1, acc, lg, tx, nn⟩ : Man)).segs.length cs)).setCell ⟨H, 2, none⟩ (.string (strB ((⟨s1, acc, lg, tx, nn⟩ : Man)).log))).setCell ⟨H, 3, none⟩ (.int .i64 ((⟨s1, acc, lg, tx, nn⟩ : Man)).tx)).setCell ⟨H, 4, none⟩ (.int .i64 ((⟨s1, acc, lg, tx, nn⟩ : Man)).nx))) rfl rfl (by kernel_rfl) (by rfl) ?_ hNew ?_
              · have q0 := hHeld0.1.fr 0; have q1 := hHeld0.1.fr 1; have q2 := hHeld0.1.fr 2; have q3 := hHeld0.1.fr 3; have q4 := hHeld0.1.fr 4; have r0 := hHeld0.1.c0; have r1 := hHeld0.1.c1; have r2 := hHeld0.1.c2; have r3 := hHeld0.1.c3; have r4 := hHeld0.1.c4; go_simp <;> with_reducible rfl
              clear hHeld hHeld0
              have hHeld := hNew
              clear hNew
              simp only [Act.put]
              have hHeld0 := hHeld
              have hNew : (fun w' => DecM w w' H Bd As cs (⟨s1, acc, lg, tx, nn⟩ : Man) ∧ EAt w' H ce) (((((((Y.setCell ⟨H, 0, none⟩ (.string (strB ((⟨s1, acc, lg, tx, nn⟩ : Man)).base))).setCell ⟨H, 1, none⟩ (.slice As ((⟨s1, acc, lg, tx, nn⟩ : Man)).segs.length cs)).setCell ⟨H, 2, none⟩ (.string (strB ((⟨s1, acc, lg, tx, nn⟩ : Man)).log))).setCell ⟨H, 3, none⟩ (.int .i64 ((⟨s1, acc, lg, tx, nn⟩ : Man)).tx)).setCell ⟨H, 4, none⟩ (.int .i64 ((⟨s1, acc, lg, tx, nn⟩ : Man)).nx))).setCell ⟨H + 1, 0, none⟩ (.int .i64 ce)) := by exact ⟨hHeld.1.setE hHBd _, hHeld.2.set _⟩
              refine heldSkipRun 3 none (w' := ((((((Y.setCell ⟨H, 0, none⟩ (.string (strB ((⟨s1, acc, lg, tx, nn⟩ : Man)).base))).setCell ⟨H, 1, none⟩ (.slice As ((⟨s1, acc, lg, tx, nn⟩ : Man)).segs.length cs)).setCell ⟨H, 2, none⟩ (.string (strB ((⟨s1, acc, lg, tx, nn⟩ : Man)).log))).setCell ⟨H, 3, none⟩ (.int .i64 ((⟨s1, acc, lg, tx, nn⟩ : Man)).tx)).setCell ⟨H, 4, none⟩ (.int .i64 ((⟨s1, acc, lg, tx, nn⟩ : Man)).nx))).setCell ⟨H + 1, 0, none⟩ (.int .i64 ce)) rfl rfl (by kernel_rfl) (by rfl) ?_ hNew ?_
              · have q0 := hHeld0.2.fr; have q1 := hHeld0.2.c; go_simp <;> with_reducible rfl
              clear hHeld hHeld0
              have hHeld := hNew
              clear hNew
              simp only [Act.put]
              refine wpAnyH_done (by kernel_rfl) ?_ _
              refine NoPanic.normal ?_
              go_wp2_with fail
              exact dec_fin _ rfl rfl HH.out (by omega) hHeld.1 hHeld.2 _ (by rw [HFIN.out])
    case pos =>
      have hn0 : ¬ n < 0 := fun h => hneg ⟨hne, h⟩
      subst hne
      clear hneg
      have b1 : True := trivial
      go_wp2_with fail
      clear b1
      go_loopw [10] (fun i wr => ∃ (j : Nat) (acc : List (List UInt8)) (As : Option Addr) (cs : Nat) (k e : Int), i = .int .i64 (j : Int) ∧ (j : Int) ≤ max n 0 ∧ DecM w wr H Bd As cs ⟨s1, acc, [], 0, 0⟩ ∧ DecC wr H Bd (.slice Ab body.length cb) body k e ∧ wr.heap[Bd + 2]? = some (.cells #[.int .i64 n] 3 (0, 0)) ∧ Hid (SegRel body n.toNat k2 j acc k e) ∧ acc.length ≤ body.length + 1 ∧ (e = 0 → acc.length ≤ body.length)) (fun i _ => n.toNat - (intOf i).toNat)
      case atStart => exact ⟨0, [], none, 0, k2, 0, rfl, by omega, hD3, hC3, hN3, Lib.hid (segRel_start _ _ _), by simp, fun _ => by simp⟩
      case round =>
        clear hD3 hC3 hN3 hE3 q1 q2
        obtain ⟨j, acc, As, cs, k, e, rfl, hj, hDr, hCr, hNr, HREL, hal, hae⟩ := hrel
        have hEr : EAt wr H e := hCr.e
        have q1 := hEr.c
        have q2 : wr.cell? ⟨Bd + 1 + 1, 0, none⟩ = some (.int .i64 n) := cell_of_row _ _ 0 _ _ _ hNr
        have hsr : Bd + 2 < wr.heap.size := (Array.getElem?_eq_some_iff.1 hNr).1
        by_cases hlt : (j : Int) < n
        case pos =>
          by_cases he : e = 0
          case pos =>
            subst he
            have hal := hae rfl
            clear hae
            obtain ⟨X, hX⟩ : ∃ X, X = wr.alloc (.cells #[.string ⟨#[]⟩] 9) := ⟨_, rfl⟩
            have hcX : Chg (fun _ => False) wr X := by rw [hX]; exact (Chg.refl _ _).alloc _
            have hSX : X.heap[wr.heap.size]? = some (.cells #[.string (strB [])] 9 (0, 0)) := by rw [hX]; exact heap_alloc_new _ _
            have hCX : DecC X H Bd (.slice Ab body.length cb) body k 0 := hCr.chg hcX (fun _ h => h.elim) (by omega)
            have CS := Lib.hid (dec2_st H Bd wr.heap.size 0 _ _ _ body k 0 X hCX (by omega) (.inr (by omega)) hSX rfl)
            generalize hTS : stT body k 0 = rs at CS
            obtain ⟨s, k', e'⟩ := rs
            have TS := Lib.hid hTS
            clear hTS
            go_wp2_with fail
            rw [← hX]
            (with_reducible refine CS.out.mono ?_)
            rintro en w5 ⟨rfl, hC5, hS5, hc5⟩
            (try dsimp only at hC5)
            replace hS5 : w5.heap[wr.heap.size]? = some (.cells #[.string (strB s)] 9 (0, 0)) := hS5
            have hcr5 : Chg (fun x => x = wr.heap.size ∨ x = H + 1 ∨ x = Bd + 1) wr w5 := (hcX.mono (fun _ h => h.elim)).trans hc5 (fun _ _ h => h)
            have hD5 : DecM w w5 H Bd As cs ⟨s1, acc, [], 0, 0⟩ := hDr.chg hcr5 (fun x hx => by omega)
            have hN5 : w5.heap[Bd + 2]? = some (.cells #[.int .i64 n] 3 (0, 0)) := (hcr5.block _ (by omega) (by omega)).trans hNr
            have hs5 : wr.heap.size < w5.heap.size := (Array.getElem?_eq_some_iff.1 hS5).1
            clear CS hcX hSX hCX hX hc5 hcr5 hDr hCr hEr q1 q2 hNr
            have q1 := hD5.c1
            dsimp only at q1
            have q2 : w5.cell? ⟨wr.heap.size, 0, none⟩ = some (.string (strB s)) := cell_of_row _ _ 0 _ _ _ hS5
            have hnew := rd_str w5 s
            have hOb : OwnS (w5.alloc (.cells #[.string (strB s)] 9)) (Bd + 3) (.slice As acc.length cs) acc := World.ownsRow.alloc hD5.o _
            go_wp2_with (at_builtin; refine wpList_append_app _ rfl (.tmp 54) (.tmp 56) 23 rfl (Bd + 3) 9 i0 _ 1 16 Tryz.underlying23 hi hz0 hz1 hz2 rfl (by omega) _ acc.length (sv acc) rfl (.inl hOb) _ _ 1 (sv [s]) rfl hnew (sv_one _) (by unfold maxLen; omega) (by omega) (by simp; omega) ?_; intro v6 w6 _ h6 hg6 hb6 ha6; have h6 := h6 (.inr hOb); have hO6 : OwnS w6 (Bd + 3) v6 (acc ++ [s]) := owns_cast (a := acc) (b := [s]) h6; have hg5 : Chg (fun x => Bd + 3 ≤ x) w5 w6 := (((Chg.refl (fun x => Bd + 3 ≤ x) w5).alloc _).trans ((Chg.of_grown hg6).mono (fun i hi => (World.ownsRow.lt hOb i hi.symm).1)) (fun _ _ h => h)); obtain ⟨A6, c6, rfl, c61, c62, c63⟩ := hO6.open_; have hR6 := (hg5.block H (by omega) (by omega)).trans hD5.row; have x1 : w6.cell? ⟨H, 1, none⟩ = some (.slice As acc.length cs) := cell_of_row _ _ 1 _ _ _ hR6; have x2 := frozen_of_row _ _ 1 _ _ hR6; clear h6 hg6 ha6 hnew hOb)
            have hr7 : (w6.setCell ⟨H, 1, none⟩ (.slice A6 (acc ++ [s]).length c6)).heap[H]? = some (.cells (rowM A6 c6 ⟨s1, acc ++ [s], [], 0, 0⟩) 25 (0, 0)) := heap_setCell_same w6 H 1 _ _ (.slice A6 (acc ++ [s]).length c6) hR6
            have hb67 : Below H w6 (w6.setCell ⟨H, 1, none⟩ (.slice A6 (acc ++ [s]).length c6)) := ((Chg.refl (· = H) w6).setCell (.inl rfl) _).below (Nat.le_of_lt (Array.getElem?_eq_some_iff.1 hR6).1) (fun i hi => by omega)
            have hc57 : Chg (fun x => x = H ∨ Bd + 3 ≤ x) w5 (w6.setCell ⟨H, 1, none⟩ (.slice A6 (acc ++ [s]).length c6)) := (hg5.mono (fun _ h => .inr h)).setCell (.inl (.inl rfl)) _
            have hb56 : Below H w5 w6 := hg5.below (by omega) (fun i hi => by omega)
            have hj1 : (acc ++ [s]).length = acc.length + 1 := by simp
            go_roundw
            case rel =>
              rw [← hj1]
              refine ⟨j + 1, acc ++ [s], A6, c6, k', e', by go_num, by omega, ⟨hr7, own_setCell hO6 (fun e => by have := (World.ownsRow.lt hO6 H e).1; omega) _, hD5.b.trans (hb56.trans hb67)⟩, hC5.chg hc57 (fun x hx => by omega) (by omega), (hc57.block _ (by omega) (by omega)).trans hN5, Lib.hid (segRel_step HREL.out (by omega) TS.out), by omega, ?_⟩
              intro he'
              subst he'
              have ht := TS.out
              rw [stT, if_pos rfl] at ht
              have hst := decT_step ht
              have hrl := HREL.out
              unfold SegRel at hrl
              rw [if_pos rfl] at hrl
              omega
            case measure => simp [intOf]; omega
          case neg =>
            have b2 : (e == 0) = false := by rw [beq_eq_false_iff_ne]; exact he
            have SEG : Hid (SegsAre body n k2 0 acc k e) := Lib.hid (segRel_end HREL.out (fun h => absurd h he) rfl)
            go_wp2_with fail
            clear b2
            have C3 := Lib.hid (dec2_st H Bd H 2 _ _ _ body k e wr hCr (by omega) (.inl rfl) hDr.row rfl)
            generalize hT3 : stT body k e = r3 at C3
            obtain ⟨lg, k4, e4⟩ := r3
            have T3 := Lib.hid hT3
            clear hT3
            (with_reducible refine C3.out.mono ?_)
            intro en w4 hcl
            obtain ⟨rfl, hD4, hC4, _⟩ := fld_done hDr (by omega) rfl hcl (m' := ⟨s1, acc, lg, 0, 0⟩) rfl rfl
            (try dsimp only at hC4)
            clear hcl C3 hDr hCr hNr hEr q1 q2
            have C4 := Lib.hid (dec3_st H Bd H 3 _ _ _ body k4 e4 w4 hC4 (by omega) (.inl rfl) hD4.row rfl)
            generalize hT4 : stI body k4 e4 = r4 at C4
            obtain ⟨tx, k5, e5⟩ := r4
            have T4 := Lib.hid hT4
            clear hT4
            go_wp2_with fail
            (with_reducible refine C4.out.mono ?_)
            intro en w5 hcl
            obtain ⟨rfl, hD5, hC5, _⟩ := fld_done hD4 (by omega) rfl hcl (m' := ⟨s1, acc, lg, tx, 0⟩) rfl rfl
            (try dsimp only at hC5)
            clear hcl C4 hD4 hC4
            have C5 := Lib.hid (dec3_st H Bd H 4 _ _ _ body k5 e5 w5 hC5 (by omega) (.inl rfl) hD5.row rfl)
            generalize hT5 : stI body k5 e5 = r5 at C5
            obtain ⟨nn, k6, e6⟩ := r5
            have T5 := Lib.hid hT5
            clear hT5
            go_wp2_with fail
            (with_reducible refine C5.out.mono ?_)
            intro en w6 hcl
            obtain ⟨rfl, hD6, hC6, _⟩ := fld_done hD5 (by omega) rfl hcl (m' := ⟨s1, acc, lg, tx, nn⟩) rfl rfl
            (try dsimp only at hC6)
            clear hcl C5 hD5 hC5
            have hE6 : EAt w6 H e6 := hC6.e
            have q1 := hE6.c
            have HF := Lib.hid (decB_err T1.out T2.out (by intro h; have := h.2; omega) SEG.out T3.out T4.out T5.out)
            by_cases h6 : e6 = 0
            case neg =>
              have b1 : (e6 != 0) = true := by rw [bne_iff_ne]; exact h6
              go_wp2_with fail
              have hD := hD6
              have hE := hE6
              refine wp_region_noPanic ?_
              refine wp_region_held_drew (S := (fun w' => DecM w w' H Bd As cs (⟨s1, acc, lg, tx, nn⟩ : Man) ∧ EAt w' H e6)) (by kernel_rfl) ?_ (fun hHeld => ?_)
              · exact ⟨hD.drew, hE⟩
              generalize w6.drew = Y at hHeld ⊢
              refine heldTake 0 (some 70) (v := ?_) rfl rfl (by kernel_rfl) (by kernel_rfl) (by kernel_rfl) (by rfl) hHeld (fun _ _ _ h => h) ?_ ?_
              rotate_left
              · intro w' hSw; (try dsimp only at hSw); have q0 := hSw.1.c0; have q1 := hSw.1.c1; have q2 := hSw.1.c2; have q3 := hSw.1.c3; have q4 := hSw.1.c4; go_simp <;> with_reducible rfl
              simp only [Act.put, List.setIfInBounds_toArray, List.set_cons_zero, List.set_cons_succ]
              refine heldTake 1 (some 71) (v := ?_) rfl rfl (by kernel_rfl) (by kernel_rfl) (by kernel_rfl) (by rfl) hHeld (fun _ _ _ h => h) ?_ ?_
              rotate_left
              · intro w' hSw; (try dsimp only at hSw); have q0 := hSw.2.c; go_simp <;> with_reducible rfl
              simp only [Act.put, List.setIfInBounds_toArray, List.set_cons_zero, List.set_cons_succ]
              have hHeld0 := hHeld
              have hNew : (fun w' => DecM w w' H Bd As cs (⟨s1, acc, lg, tx, nn⟩ : Man) ∧ EAt w' H e6) ((((((Y.setCell ⟨H, 0, none⟩ (.string (strB ((⟨s1, acc, lg, tx, nn⟩ : Man)).base))).setCell ⟨H, 1, none⟩ (.slice As ((⟨s1, acc, lg, tx, nn⟩ : Man)).segs.length cs)).setCell ⟨H, 2, none⟩ (.string (strB ((⟨s1, acc, lg, tx, nn⟩ : Man)).log))).setCell ⟨H, 3, none⟩ (.int .i64 ((⟨s1, acc, lg, tx, nn⟩ : Man)).tx)).setCell ⟨H, 4, none⟩ (.int .i64 ((⟨s1, acc, lg, tx, nn⟩ : Man)).nx))) := by exact ⟨hHeld.1.store hHBd, hHeld.2.store _ _ _ _ _ _ _ _ _ _⟩
              refine heldSkipRun 2 none (w' := (((((Y.setCell ⟨H, 0, none⟩ (.string (strB ((⟨s1, acc, lg, tx, nn⟩ : Man)).base))).setCell ⟨H, 1, none⟩ (.slice As ((⟨s1, acc, lg, tx, nn⟩ : Man)).segs.length cs)).setCell ⟨H, 2, none⟩ (.string (strB ((⟨s1, acc, lg, tx, nn⟩ : Man)).log))).setCell ⟨H, 3, none⟩ (.int .i64 ((⟨s1, acc, lg, tx, nn⟩ : Man)).tx)).setCell ⟨H, 4, none⟩ (.int .i64 ((⟨s1, acc, lg, tx, nn⟩ : Man)).nx))) rfl rfl (by kernel_rfl) (by rfl) ?_ hNew ?_
              · have q0 := hHeld0.1.fr 0; have q1 := hHeld0.1.fr 1; have q2 := hHeld0.1.fr 2; have q3 := hHeld0.1.fr 3; have q4 := hHeld0.1.fr 4; have r0 := hHeld0.1.c0; have r1 := hHeld0.1.c1; have r2 := hHeld0.1.c2; have r3 := hHeld0.1.c3; have r4 := hHeld0.1.c4; go_simp <;> with_reducible rfl
              clear hHeld hHeld0
              have hHeld := hNew
              clear hNew
              simp only [Act.put]
              have hHeld0 := hHeld
              have hNew : (fun w' => DecM w w' H Bd As cs (⟨s1, acc, lg, tx, nn⟩ : Man) ∧ EAt w' H e6) (((((((Y.setCell ⟨H, 0, none⟩ (.string (strB ((⟨s1, acc, lg, tx, nn⟩ : Man)).base))).setCell ⟨H, 1, none⟩ (.slice As ((⟨s1, acc, lg, tx, nn⟩ : Man)).segs.length cs)).setCell ⟨H, 2, none⟩ (.string (strB ((⟨s1, acc, lg, tx, nn⟩ : Man)).log))).setCell ⟨H, 3, none⟩ (.int .i64 ((⟨s1, acc, lg, tx, nn⟩ : Man)).tx)).setCell ⟨H, 4, none⟩ (.int .i64 ((⟨s1, acc, lg, tx, nn⟩ : Man)).nx))).setCell ⟨H + 1, 0, none⟩ (.int .i64 e6)) := by exact ⟨hHeld.1.setE hHBd _, hHeld.2.set _⟩
              refine heldSkipRun 3 none (w' := ((((((Y.setCell ⟨H, 0, none⟩ (.string (strB ((⟨s1, acc, lg, tx, nn⟩ : Man)).base))).setCell ⟨H, 1, none⟩ (.slice As ((⟨s1, acc, lg, tx, nn⟩ : Man)).segs.length cs)).setCell ⟨H, 2, none⟩ (.string (strB ((⟨s1, acc, lg, tx, nn⟩ : Man)).log))).setCell ⟨H, 3, none⟩ (.int .i64 ((⟨s1, acc, lg, tx, nn⟩ : Man)).tx)).setCell ⟨H, 4, none⟩ (.int .i64 ((⟨s1, acc, lg, tx, nn⟩ : Man)).nx))).setCell ⟨H + 1, 0, none⟩ (.int .i64 e6)) rfl rfl (by kernel_rfl) (by rfl) ?_ hNew ?_
              · have q0 := hHeld0.2.fr; have q1 := hHeld0.2.c; go_simp <;> with_reducible rfl
              clear hHeld hHeld0
              have hHeld := hNew
              clear hNew
              simp only [Act.put]
              refine wpAnyH_done (by kernel_rfl) ?_ _
              refine NoPanic.normal ?_
              go_wp2_with fail
              exact dec_fin _ rfl rfl HH.out (by omega) hHeld.1 hHeld.2 _ (by rw [if_neg h6, HB.out, HF.out, if_pos h6])
            case pos =>
              subst h6
              have q3 : w6.cell? ⟨Bd + 1, 0, none⟩ = some (.int .i64 k6) := cell_of_row _ _ 0 _ _ _ hC6.a
              have q4 : w6.cell? ⟨Bd, 0, none⟩ = some (.slice Ab body.length cb) := cell_of_row _ _ 0 _ _ _ hC6.b
              have c0 := hD6.c0; have c1 := hD6.c1; have c2 := hD6.c2; have c3 := hD6.c3; have c4 := hD6.c4
              dsimp only at c0 c1 c2 c3 c4
              by_cases h7 : k6 < (body.length : Int)
              case pos =>
                have f0 := hD6.fr 0; have f1 := hD6.fr 1; have f2 := hD6.fr 2; have f3 := hD6.fr 3; have f4 := hD6.fr 4
                have g1 := hE6.fr
                go_wp2_with fail
                exact dec_fin _ rfl rfl HH.out hHBd ((hD6.store hHBd).setE hHBd _) ((hE6.store _ _ _ _ _ _ _ _ _ _).set 3) _ (by rw [if_neg (by decide), HB.out, HF.out, if_neg (by simp), if_pos h7])
              case neg =>
                have hbm := body_ok T1.out T2.out (by intro h; have := h.2; omega) SEG.out T3.out T4.out T5.out h7
                have HFIN := Lib.hid (show decM l = if chkF ⟨s1, acc, lg, tx, nn⟩ = 0 then (⟨s1, acc, lg, tx, nn⟩, 0) else (.zero, chkF ⟨s1, acc, lg, tx, nn⟩) by rw [HB.out, HF.out, if_neg (by simp), if_neg h7])
                have z1 := bodyM_segs ⟨s1, acc, lg, tx, nn⟩
                have z2 := bodyM_nms ⟨s1, acc, lg, tx, nn⟩
                rw [hbm] at z1 z2
                have CE := Lib.hid (encode_any (fun b => b < w6.heap.size) As cs ⟨s1, acc, lg, tx, nn⟩ w6 ((Rd.of_own hD6.o).wide fun b hb => hb.2) (fun b hb => hb) (by omega) (fun s hs => by have := z2 s hs; omega) (by rw [hbm]; omega))
                clear hbm z1 z2 HF T1 T2 T3 T4 T5 HNEG SEG
                have hE6' := hE6
                have hlt6 : H + 1 < w6.heap.size := (Array.getElem?_eq_some_iff.1 hE6').1
                go_wp2_with fail
                (with_reducible refine CE.out.mono ?_)
                rintro en w7 ⟨v7, hen, _, hb7⟩
                rw [encM_err] at hen
                subst hen
                generalize hce : chkF ⟨s1, acc, lg, tx, nn⟩ = ce at *
                have HCE := Lib.hid hce
                clear hce CE q1 q3 q4 c0 c1 c2 c3 c4
                have hD7 : DecM w w7 H Bd As cs ⟨s1, acc, lg, tx, nn⟩ := hD6.chg (Chg.of_below hb7 (fun _ => False)) (fun _ h => h.elim)
                have hE7 : EAt w7 H 0 := hE6.chg (Chg.of_below hb7 (fun _ => False)) (fun h => h)
                have q1 := hE7.c
                have q2 := hE7.fr
                go_wp2_with fail
                obtain ⟨X8, hX8⟩ : ∃ X8, X8 = w7.setCell ⟨H + 1, 0, none⟩ (.int .i64 ce) := ⟨_, rfl⟩
                have hD : DecM w X8 H Bd As cs ⟨s1, acc, lg, tx, nn⟩ := by rw [hX8]; exact hD7.setE hHBd _
                have hE : EAt X8 H ce := by rw [hX8]; exact hE7.set _
                rw [← hX8]
                clear hX8
                refine wp_region_noPanic ?_
                refine wp_region_held_drew (S := (fun w' => DecM w w' H Bd As cs (⟨s1, acc, lg, tx, nn⟩ : Man) ∧ EAt w' H ce)) (by kernel_rfl) ?_ (fun hHeld => ?_)
                · exact ⟨hD.drew, hE⟩
                generalize X8.drew = Y at hHeld ⊢
                refine heldTake 0 (some 82) (v := ?_) rfl rfl (by kernel_rfl) (by kernel_rfl) (by kernel_rfl) (by rfl) hHeld (fun _ _ _ h => h) ?_ ?_
                rotate_left
                · intro w' hSw; (try dsimp only at hSw); have q0 := hSw.1.c0; have q1 := hSw.1.c1; have q2 := hSw.1.c2; have q3 := hSw.1.c3; have q4 := hSw.1.c4; go_simp <;> with_reducible rfl
                simp only [Act.put, List.setIfInBounds_toArray, List.set_cons_zero, List.set_cons_succ]
                refine heldTake 1 (some 83) (v := ?_) rfl rfl (by kernel_rfl) (by kernel_rfl) (by kernel_rfl) (by rfl) hHeld (fun _ _ _ h => h) ?_ ?_
                rotate_left
                · intro w' hSw; (try dsimp only at hSw); have q0 := hSw.2.c; go_simp <;> with_reducible rfl
                simp only [Act.put, List.setIfInBounds_toArray, List.set_cons_zero, List.set_cons_succ]
                have hHeld0 := hHeld
                have hNew : (fun w' => DecM w w' H Bd As cs (⟨s1, acc, lg, tx, nn⟩ : Man) ∧ EAt w' H ce) ((((((Y.setCell ⟨H, 0, none⟩ (.string (strB ((⟨s1, acc, lg, tx, nn⟩ : Man)).base))).setCell ⟨H, 1, none⟩ (.slice As ((⟨s1, acc, lg, tx, nn⟩ : Man)).segs.length cs)).setCell ⟨H, 2, none⟩ (.string (strB ((⟨s1, acc, lg, tx, nn⟩ : Man)).log))).setCell ⟨H, 3, none⟩ (.int .i64 ((⟨s1, acc, lg, tx, nn⟩ : Man)).tx)).setCell ⟨H, 4, none⟩ (.int .i64 ((⟨s1, acc, lg, tx, nn⟩ : Man)).nx))) := by exact ⟨hHeld.1.store hHBd, hHeld.2.store _ _ _ _ _ _ _ _ _ _⟩
                refine heldSkipRun 2 none (w' := (((((Y.setCell ⟨H, 0, none⟩ (.string (strB ((⟨s1, acc, lg, tx, nn⟩ : Man)).base))).setCell ⟨H, 1, none⟩ (.slice As ((⟨s1, acc, lg, tx, nn⟩ : Man)).segs.length cs)).setCell ⟨H, 2, none⟩ (.string (strB ((⟨s1, acc, lg, tx, nn⟩ : Man)).log))).setCell ⟨H, 3, none⟩ (.int .i64 ((⟨s1, acc, lg, tx, nn⟩ : Man)).tx)).setCell ⟨H, 4, none⟩ (.int .i64 ((⟨s1, acc, lg, tx, nn⟩ : Man)).nx))) rfl rfl (by kernel_rfl) (by rfl) ?_ hNew ?_
                · have q0 := hHeld0.1.fr 0; have q1 := hHeld0.1.fr 1; have q2 := hHeld0.1.fr 2; have q3 := hHeld0.1.fr 3; have q4 := hHeld0.1.fr 4; have r0 := hHeld0.1.c0; have r1 := hHeld0.1.c1; have r2 := hHeld0.1.c2; have r3 := hHeld0.1.c3; have r4 := hHeld0.1.c4; go_simp <;> with_reducible rfl
                clear hHeld hHeld0
                have hHeld := hNew
                clear hNew
                simp only [Act.put]
                have hHeld0 := hHeld
                have hNew : (fun w' => DecM w w' H Bd As cs (⟨s1, acc, lg, tx, nn⟩ : Man) ∧ EAt w' H ce) (((((((Y.setCell ⟨H, 0, none⟩ (.string (strB ((⟨s1, acc, lg, tx, nn⟩ : Man)).base))).setCell ⟨H, 1, none⟩ (.slice As ((⟨s1, acc, lg, tx, nn⟩ : Man)).segs.length cs)).setCell ⟨H, 2, none⟩ (.string (strB ((⟨s1, acc, lg, tx, nn⟩ : Man)).log))).setCell ⟨H, 3, none⟩ (.int .i64 ((⟨s1, acc, lg, tx, nn⟩ : Man)).tx)).setCell ⟨H, 4, none⟩ (.int .i64 ((⟨s1, acc, lg, tx, nn⟩ : Man)).nx))).setCell ⟨H + 1, 0, none⟩ (.int .i64 ce)) := by exact ⟨hHeld.1.setE hHBd _, hHeld.2.set _⟩
                refine heldSkipRun 3 none (w' := ((((((Y.setCell ⟨H, 0, none⟩ (.string (strB ((⟨s1, acc, lg, tx, nn⟩ : Man)).base))).setCell ⟨H, 1, none⟩ (.slice As ((⟨s1, acc, lg, tx, nn⟩ : Man)).segs.length cs)).setCell ⟨H, 2, none⟩ (.string (strB ((⟨s1, acc, lg, tx, nn⟩ : Man)).log))).setCell ⟨H, 3, none⟩ (.int .i64 ((⟨s1, acc, lg, tx, nn⟩ : Man)).tx)).setCell ⟨H, 4, none⟩ (.int .i64 ((⟨s1, acc, lg, tx, nn⟩ : Man)).nx))).setCell ⟨H + 1, 0, none⟩ (.int .i64 ce)) rfl rfl (by kernel_rfl) (by rfl) ?_ hNew ?_
                · have q0 := hHeld0.2.fr; have q1 := hHeld0.2.c; go_simp <;> with_reducible rfl
                clear hHeld hHeld0
                have hHeld := hNew
                clear hNew
                simp only [Act.put]
                refine wpAnyH_done (by kernel_rfl) ?_ _
                refine NoPanic.normal ?_
                go_wp2_with fail
                exact dec_fin _ rfl rfl HH.out (by omega) hHeld.1 hHeld.2 _ (by rw [HFIN.out])
        case neg =>
          have SEG : Hid (SegsAre body n k2 0 acc k e) := Lib.hid (segRel_end HREL.out (fun _ => by omega) rfl)
          go_wp2_with fail
          have C3 := Lib.hid (dec2_st H Bd H 2 _ _ _ body k e wr hCr (by omega) (.inl rfl) hDr.row rfl)
          generalize hT3 : stT body k e = r3 at C3
          obtain ⟨lg, k4, e4⟩ := r3
          have T3 := Lib.hid hT3
          clear hT3
          (with_reducible refine C3.out.mono ?_)
          intro en w4 hcl
          obtain ⟨rfl, hD4, hC4, _⟩ := fld_done hDr (by omega) rfl hcl (m' := ⟨s1, acc, lg, 0, 0⟩) rfl rfl
          (try dsimp only at hC4)
          clear hcl C3 hDr hCr hNr hEr q1 q2
          have C4 := Lib.hid (dec3_st H Bd H 3 _ _ _ body k4 e4 w4 hC4 (by omega) (.inl rfl) hD4.row rfl)
          generalize hT4 : stI body k4 e4 = r4 at C4
          obtain ⟨tx, k5, e5⟩ := r4
          have T4 := Lib.hid hT4
          clear hT4
          go_wp2_with fail
          (with_reducible refine C4.out.mono ?_)
          intro en w5 hcl
          obtain ⟨rfl, hD5, hC5, _⟩ := fld_done hD4 (by omega) rfl hcl (m' := ⟨s1, acc, lg, tx, 0⟩) rfl rfl
          (try dsimp only at hC5)
          clear hcl C4 hD4 hC4
          have C5 := Lib.hid (dec3_st H Bd H 4 _ _ _ body k5 e5 w5 hC5 (by omega) (.inl rfl) hD5.row rfl)
          generalize hT5 : stI body k5 e5 = r5 at C5
          obtain ⟨nn, k6, e6⟩ := r5
          have T5 := Lib.hid hT5
          clear hT5
          go_wp2_with fail
          (with_reducible refine C5.out.mono ?_)
          intro en w6 hcl
          obtain ⟨rfl, hD6, hC6, _⟩ := fld_done hD5 (by omega) rfl hcl (m' := ⟨s1, acc, lg, tx, nn⟩) rfl rfl
          (try dsimp only at hC6)
          clear hcl C5 hD5 hC5
          have hE6 : EAt w6 H e6 := hC6.e
          have q1 := hE6.c
          have HF := Lib.hid (decB_err T1.out T2.out (by intro h; have := h.2; omega) SEG.out T3.out T4.out T5.out)
          by_cases h6 : e6 = 0
          case neg =>
            have b1 : (e6 != 0) = true := by rw [bne_iff_ne]; exact h6
            go_wp2_with fail
            have hD := hD6
            have hE := hE6
            refine wp_region_noPanic ?_
            refine wp_region_held_drew (S := (fun w' => DecM w w' H Bd As cs (⟨s1, acc, lg, tx, nn⟩ : Man) ∧ EAt w' H e6)) (by kernel_rfl) ?_ (fun hHeld => ?_)
            · exact ⟨hD.drew, hE⟩
            generalize w6.drew = Y at hHeld ⊢
            refine heldTake 0 (some 70) (v := ?_) rfl rfl (by kernel_rfl) (by kernel_rfl) (by kernel_rfl) (by rfl) hHeld (fun _ _ _ h => h) ?_ ?_
            rotate_left
            · intro w' hSw; (try dsimp only at hSw); have q0 := hSw.1.c0; have q1 := hSw.1.c1; have q2 := hSw.1.c2; have q3 := hSw.1.c3; have q4 := hSw.1.c4; go_simp <;> with_reducible rfl
            simp only [Act.put, List.setIfInBounds_toArray, List.set_cons_zero, List.set_cons_succ]
            refine heldTake 1 (some 71) (v := ?_) rfl rfl (by kernel_rfl) (by kernel_rfl) (by kernel_rfl) (by rfl) hHeld (fun _ _ _ h => h) ?_ ?_
            rotate_left
            · intro w' hSw; (try dsimp only at hSw); have q0 := hSw.2.c; go_simp <;> with_reducible rfl
            simp only [Act.put, List.setIfInBounds_toArray, List.set_cons_zero, List.set_cons_succ]
            have hHeld0 := hHeld
            have hNew : (fun w' => DecM w w' H Bd As cs (⟨s1, acc, lg, tx, nn⟩ : Man) ∧ EAt w' H e6) ((((((Y.setCell ⟨H, 0, none⟩ (.string (strB ((⟨s1, acc, lg, tx, nn⟩ : Man)).base))).setCell ⟨H, 1, none⟩ (.slice As ((⟨s1, acc, lg, tx, nn⟩ : Man)).segs.length cs)).setCell ⟨H, 2, none⟩ (.string (strB ((⟨s1, acc, lg, tx, nn⟩ : Man)).log))).setCell ⟨H, 3, none⟩ (.int .i64 ((⟨s1, acc, lg, tx, nn⟩ : Man)).tx)).setCell ⟨H, 4, none⟩ (.int .i64 ((⟨s1, acc, lg, tx, nn⟩ : Man)).nx))) := by exact ⟨hHeld.1.store hHBd, hHeld.2.store _ _ _ _ _ _ _ _ _ _⟩
            refine heldSkipRun 2 none (w' := (((((Y.setCell ⟨H, 0, none⟩ (.string (strB ((⟨s1, acc, lg, tx, nn⟩ : Man)).base))).setCell ⟨H, 1, none⟩ (.slice As ((⟨s1, acc, lg, tx, nn⟩ : Man)).segs.length cs)).setCell ⟨H, 2, none⟩ (.string (strB ((⟨s1, acc, lg, tx, nn⟩ : Man)).log))).setCell ⟨H, 3, none⟩ (.int .i64 ((⟨s1, acc, lg, tx, nn⟩ : Man)).tx)).setCell ⟨H, 4, none⟩ (.int .i64 ((⟨s1, acc, lg, tx, nn⟩ : Man)).nx))) rfl rfl (by kernel_rfl) (by rfl) ?_ hNew ?_
            · have q0 := hHeld0.1.fr 0; have q1 := hHeld0.1.fr 1; have q2 := hHeld0.1.fr 2; have q3 := hHeld0.1.fr 3; have q4 := hHeld0.1.fr 4; have r0 := hHeld0.1.c0; have r1 := hHeld0.1.c1; have r2 := hHeld0.1.c2; have r3 := hHeld0.1.c3; have r4 := hHeld0.1.c4; go_simp <;> with_reducible rfl
            clear hHeld hHeld0
            have hHeld := hNew
            clear hNew
            simp only [Act.put]
            have hHeld0 := hHeld
            have hNew : (fun w' => DecM w w' H Bd As cs (⟨s1, acc, lg, tx, nn⟩ : Man) ∧ EAt w' H e6) (((((((Y.setCell ⟨H, 0, none⟩ (.string (strB ((⟨s1, acc, lg, tx, nn⟩ : Man)).base))).setCell ⟨H, 1, none⟩ (.slice As ((⟨s1, acc, lg, tx, nn⟩ : Man)).segs.length cs)).setCell ⟨H, 2, none⟩ (.string (strB ((⟨s1, acc, lg, tx, nn⟩ : Man)).log))).setCell ⟨H, 3, none⟩ (.int .i64 ((⟨s1, acc, lg, tx, nn⟩ : Man)).tx)).setCell ⟨H, 4, none⟩ (.int .i64 ((⟨s1, acc, lg, tx, nn⟩ : Man)).nx))).setCell ⟨H + 1, 0, none⟩ (.int .i64 e6)) := by exact ⟨hHeld.1.setE hHBd _, hHeld.2.set _⟩
            refine heldSkipRun 3 none (w' := ((((((Y.setCell ⟨H, 0, none⟩ (.string (strB ((⟨s1, acc, lg, tx, nn⟩ : Man)).base))).setCell ⟨H, 1, none⟩ (.slice As ((⟨s1, acc, lg, tx, nn⟩ : Man)).segs.length cs)).setCell ⟨H, 2, none⟩ (.string (strB ((⟨s1, acc, lg, tx, nn⟩ : Man)).log))).setCell ⟨H, 3, none⟩ (.int .i64 ((⟨s1, acc, lg, tx, nn⟩ : Man)).tx)).setCell ⟨H, 4, none⟩ (.int .i64 ((⟨s1, acc, lg, tx, nn⟩ : Man)).nx))).setCell ⟨H + 1, 0, none⟩ (.int .i64 e6)) rfl rfl (by kernel_rfl) (by rfl) ?_ hNew ?_
            · have q0 := hHeld0.2.fr; have q1 := hHeld0.2.c; go_simp <;> with_reducible rfl
            clear hHeld hHeld0
            have hHeld := hNew
            clear hNew
            simp only [Act.put]
            refine wpAnyH_done (by kernel_rfl) ?_ _
            refine NoPanic.normal ?_
            go_wp2_with fail
            exact dec_fin _ rfl rfl HH.out (by omega) hHeld.1 hHeld.2 _ (by rw [if_neg h6, HB.out, HF.out, if_pos h6])
          case pos =>
            subst h6
            have q3 : w6.cell? ⟨Bd + 1, 0, none⟩ = some (.int .i64 k6) := cell_of_row _ _ 0 _ _ _ hC6.a
            have q4 : w6.cell? ⟨Bd, 0, none⟩ = some (.slice Ab body.length cb) := cell_of_row _ _ 0 _ _ _ hC6.b
            have c0 := hD6.c0; have c1 := hD6.c1; have c2 := hD6.c2; have c3 := hD6.c3; have c4 := hD6.c4
            dsimp only at c0 c1 c2 c3 c4
            by_cases h7 : k6 < (body.length : Int)
            case pos =>
              have f0 := hD6.fr 0; have f1 := hD6.fr 1; have f2 := hD6.fr 2; have f3 := hD6.fr 3; have f4 := hD6.fr 4
              have g1 := hE6.fr
              go_wp2_with fail
              exact dec_fin _ rfl rfl HH.out hHBd ((hD6.store hHBd).setE hHBd _) ((hE6.store _ _ _ _ _ _ _ _ _ _).set 3) _ (by rw [if_neg (by decide), HB.out, HF.out, if_neg (by simp), if_pos h7])
            case neg =>
              have hbm := body_ok T1.out T2.out (by intro h; have := h.2; omega) SEG.out T3.out T4.out T5.out h7
              have HFIN := Lib.hid (show decM l = if chkF ⟨s1, acc, lg, tx, nn⟩ = 0 then (⟨s1, acc, lg, tx, nn⟩, 0) else (.zero, chkF ⟨s1, acc, lg, tx, nn⟩) by rw [HB.out, HF.out, if_neg (by simp), if_neg h7])
              have z1 := bodyM_segs ⟨s1, acc, lg, tx, nn⟩
              have z2 := bodyM_nms ⟨s1, acc, lg, tx, nn⟩
              rw [hbm] at z1 z2
              have CE := Lib.hid (encode_any (fun b => b < w6.heap.size) As cs ⟨s1, acc, lg, tx, nn⟩ w6 ((Rd.of_own hD6.o).wide fun b hb => hb.2) (fun b hb => hb) (by omega) (fun s hs => by have := z2 s hs; omega) (by rw [hbm]; omega))
              clear hbm z1 z2 HF T1 T2 T3 T4 T5 HNEG SEG
              have hE6' := hE6
              have hlt6 : H + 1 < w6.heap.size := (Array.getElem?_eq_some_iff.1 hE6').1
              go_wp2_with fail
              (with_reducible refine CE.out.mono ?_)
              rintro en w7 ⟨v7, hen, _, hb7⟩
              rw [encM_err] at hen
              subst hen
              generalize hce : chkF ⟨s1, acc, lg, tx, nn⟩ = ce at *
              have HCE := Lib.hid hce
              clear hce CE q1 q3 q4 c0 c1 c2 c3 c4
              have hD7 : DecM w w7 H Bd As cs ⟨s1, acc, lg, tx, nn⟩ := hD6.chg (Chg.of_below hb7 (fun _ => False)) (fun _ h => h.elim)
              have hE7 : EAt w7 H 0 := hE6.chg (Chg.of_below hb7 (fun _ => False)) (fun h => h)
              have q1 := hE7.c
              have q2 := hE7.fr
              go_wp2_with fail
              obtain ⟨X8, hX8⟩ : ∃ X8, X8 = w7.setCell ⟨H + 1, 0, none⟩ (.int .i64 ce) := ⟨_, rfl⟩
              have hD : DecM w X8 H Bd As cs ⟨s1, acc, lg, tx, nn⟩ := by rw [hX8]; exact hD7.setE hHBd _
              have hE : EAt X8 H ce := by rw [hX8]; exact hE7.set _
              rw [← hX8]
              clear hX8
              refine wp_region_noPanic ?_
              refine wp_region_held_drew (S := (fun w' => DecM w w' H Bd As cs (⟨s1, acc, lg, tx, nn⟩ : Man) ∧ EAt w' H ce)) (by kernel_rfl) ?_ (fun hHeld => ?_)
              · exact ⟨hD.drew, hE⟩
              generalize X8.drew = Y at hHeld ⊢
              refine heldTake 0 (some 82) (v := ?_) rfl rfl (by kernel_rfl) (by kernel_rfl) (by kernel_rfl) (by rfl) hHeld (fun _ _ _ h => h) ?_ ?_
              rotate_left
              · intro w' hSw; (try dsimp only at hSw); have q0 := hSw.1.c0; have q1 := hSw.1.c1; have q2 := hSw.1.c2; have q3 := hSw.1.c3; have q4 := hSw.1.c4; go_simp <;> with_reducible rfl
              simp only [Act.put, List.setIfInBounds_toArray, List.set_cons_zero, List.set_cons_succ]
              refine heldTake 1 (some 83) (v := ?_) rfl rfl (by kernel_rfl) (by kernel_rfl) (by kernel_rfl) (by rfl) hHeld (fun _ _ _ h => h) ?_ ?_
              rotate_left
              · intro w' hSw; (try dsimp only at hSw); have q0 := hSw.2.c; go_simp <;> with_reducible rfl
              simp only [Act.put, List.setIfInBounds_toArray, List.set_cons_zero, List.set_cons_succ]
              have hHeld0 := hHeld
              have hNew : (fun w' => DecM w w' H Bd As cs (⟨s1, acc, lg, tx, nn⟩ : Man) ∧ EAt w' H ce) ((((((Y.setCell ⟨H, 0, none⟩ (.string (strB ((⟨s1, acc, lg, tx, nn⟩ : Man)).base))).setCell ⟨H, 1, none⟩ (.slice As ((⟨s1, acc, lg, tx, nn⟩ : Man)).segs.length cs)).setCell ⟨H, 2, none⟩ (.string (strB ((⟨s1, acc, lg, tx, nn⟩ : Man)).log))).setCell ⟨H, 3, none⟩ (.int .i64 ((⟨s1, acc, lg, tx, nn⟩ : Man)).tx)).setCell ⟨H, 4, none⟩ (.int .i64 ((⟨s1, acc, lg, tx, nn⟩ : Man)).nx))) := by exact ⟨hHeld.1.store hHBd, hHeld.2.store _ _ _ _ _ _ _ _ _ _⟩
              refine heldSkipRun 2 none (w' := (((((Y.setCell ⟨H, 0, none⟩ (.string (strB ((⟨s1, acc, lg, tx, nn⟩ : Man)).base))).setCell ⟨H, 1, none⟩ (.slice As ((⟨s1, acc, lg, tx, nn⟩ : Man)).segs.length cs)).setCell ⟨H, 2, none⟩ (.string (strB ((⟨s1, acc, lg, tx, nn⟩ : Man)).log))).setCell ⟨H, 3, none⟩ (.int .i64 ((⟨s1, acc, lg, tx, nn⟩ : Man)).tx)).setCell ⟨H, 4, none⟩ (.int .i64 ((⟨s1, acc, lg, tx, nn⟩ : Man)).nx))) rfl rfl (by kernel_rfl) (by rfl) ?_ hNew ?_
              · have q0 := hHeld0.1.fr 0; have q1 := hHeld0.1.fr 1; have q2 := hHeld0.1.fr 2; have q3 := hHeld0.1.fr 3; have q4 := hHeld0.1.fr 4; have r0 := hHeld0.1.c0; have r1 := hHeld0.1.c1; have r2 := hHeld0.1.c2; have r3 := hHeld0.1.c3; have r4 := hHeld0.1.c4; go_simp <;> with_reducible rfl
              clear hHeld hHeld0
              have hHeld := hNew
              clear hNew
              simp only [Act.put]
              have hHeld0 := hHeld
              have hNew : (fun w' => DecM w w' H Bd As cs (⟨s1, acc, lg, tx, nn⟩ : Man) ∧ EAt w' H ce) (((((((Y.setCell ⟨H, 0, none⟩ (.string (strB ((⟨s1, acc, lg, tx, nn⟩ : Man)).base))).setCell ⟨H, 1, none⟩ (.slice As ((⟨s1, acc, lg, tx, nn⟩ : Man)).segs.length cs)).setCell ⟨H, 2, none⟩ (.string (strB ((⟨s1, acc, lg, tx, nn⟩ : Man)).log))).setCell ⟨H, 3, none⟩ (.int .i64 ((⟨s1, acc, lg, tx, nn⟩ : Man)).tx)).setCell ⟨H, 4, none⟩ (.int .i64 ((⟨s1, acc, lg, tx, nn⟩ : Man)).nx))).setCell ⟨H + 1, 0, none⟩ (.int .i64 ce)) := by exact ⟨hHeld.1.setE hHBd _, hHeld.2.set _⟩
              refine heldSkipRun 3 none (w' := ((((((Y.setCell ⟨H, 0, none⟩ (.string (strB ((⟨s1, acc, lg, tx, nn⟩ : Man)).base))).setCell ⟨H, 1, none⟩ (.slice As ((⟨s1, acc, lg, tx, nn⟩ : Man)).segs.length cs)).setCell ⟨H, 2, none⟩ (.string (strB ((⟨s1, acc, lg, tx, nn⟩ : Man)).log))).setCell ⟨H, 3, none⟩ (.int .i64 ((⟨s1, acc, lg, tx, nn⟩ : Man)).tx)).setCell ⟨H, 4, none⟩ (.int .i64 ((⟨s1, acc, lg, tx, nn⟩ : Man)).nx))).setCell ⟨H + 1, 0, none⟩ (.int .i64 ce)) rfl rfl (by kernel_rfl) (by rfl) ?_ hNew ?_
              · have q0 := hHeld0.2.fr; have q1 := hHeld0.2.c; go_simp <;> with_reducible rfl
              clear hHeld hHeld0
              have hHeld := hNew
              clear hNew
              simp only [Act.put]
              refine wpAnyH_done (by kernel_rfl) ?_ _
              refine NoPanic.normal ?_
              go_wp2_with fail
              exact dec_fin _ rfl rfl HH.out (by omega) hHeld.1 hHeld.2 _ (by rw [HFIN.out])
end Go.Proofs.YthjephhojngiaaaGreatDoor
