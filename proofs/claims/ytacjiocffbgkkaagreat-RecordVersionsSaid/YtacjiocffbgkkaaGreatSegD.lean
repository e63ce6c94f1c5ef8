/-
  ref37.check, ref35.versions.
-/
import Derived.Test.YtacjiocffbgkkaaGreatSegC
namespace Go.Proofs.YtacjiocffbgkkaaGreat
open Go.RowKit Go.Lib Go.IntWalk Go.Sort Go.Shelf

set_option maxRecDepth 1000000 in
set_option maxHeartbeats 8000000 in
theorem refSegCheck_any (v : Value) (ps : List VP) (w : World) (hv : RdVs w (· < w.heap.size) v ps) :
    Calls Tryz.prog 30 #[v] w fun e w' => e = .returned (.int .i64 (segChk none (ps.map (·.2)))) ∧ Below w.heap.size w w' := by
  obtain ⟨A, c, rfl, hc1, hc2, hc3⟩ := hv.1.open_
  unfold maxLen at hc2
  have HVP := Lib.hid hv
  clear hv
  obtain ⟨res, hres⟩ : ∃ res, res = segChk none (ps.map (·.2)) := ⟨_, rfl⟩
  rw [← hres]
  have HRES := Lib.hid hres
  clear hres hc3
  go_enter Tryz.func30, Tryz.ntmps30
  go_wp2_with fail
  go_loopw [7] (fun i wr => ∃ j : Nat, i = .int .i64 (j : Int) ∧ j ≤ ps.length ∧ Hid (segChk (prevV (ps.map (·.2)) j) ((ps.map (·.2)).drop j) = res) ∧ Below w.heap.size w wr) (fun i _ => ps.length - (intOf i).toNat)
  case atStart => exact ⟨0, rfl, Nat.zero_le _, Lib.hid HRES.out.symm, Below.refl _ _⟩
  case round =>
    obtain ⟨j, rfl, hj, HJ, hBi⟩ := hrel
    obtain ⟨wi, rfl⟩ : ∃ wi : World, wi = wr := ⟨_, rfl⟩
    have hsi := hBi.size
    by_cases hltj : j < ps.length
    case neg =>
      have hje : j = ps.length := by omega
      have HZ : Hid (res = 0) := Lib.hid (by rw [← HJ.out]; exact seg_end (by rw [List.length_map]; exact hje))
      go_wp2_with fail
      go_ret
      exact ⟨ret_int HZ.out.symm, hBi⟩
    case pos =>
      obtain ⟨b2, off2, rfl, hF2, hcl, hx⟩ := RdVs.at_ (HVP.out.below hBi) hltj
      have hst := seg_step (xs := ps.map (·.2)) (k := j) (by rw [List.length_map]; exact hltj)
      rw [HJ.out, List.getElem_map] at hst
      have hpv : 0 < j → ∃ q : VP, prevV (ps.map (·.2)) j = some q.2 ∧ VerIs wi (· < wi.heap.size) q.1 q.2 ∧ ∀ t u, t < 9 → q.1.enc[t]? = some u → wi.cell? ⟨b2, off2 + (j - 1) * 9 + t, none⟩ = some u := fun h0 => by
        obtain ⟨b', off', e, _, hcl', hx'⟩ := RdVs.at_ (HVP.out.below hBi) (k := j - 1) (by omega)
        injection e with e; injection e with e1 e2; subst e1; subst e2
        refine ⟨ps[j - 1], ?_, hx', hcl'⟩
        unfold prevV
        rw [if_neg (by omega), List.getElem?_map, List.getElem?_eq_getElem (by omega)]; rfl
      have HPV := Lib.hid hpv
      have HST := Lib.hid hst
      clear hst hpv
      generalize ps[j] = p at *
      obtain ⟨⟨x1, x2, xA, xn, xc, x3, x4, x5, x6, x7, x8⟩, x⟩ := p
      simp only at hcl hx HST
      have g0 : wi.cell? ⟨b2, off2 + j * 9, none⟩ = some (.int .i64 x1) := hcl 0 _ (by decide) rfl
      have g1 : wi.cell? ⟨b2, off2 + j * 9 + 1, none⟩ = some (.int .i64 x2) := hcl 1 _ (by decide) rfl
      have g2 : wi.cell? ⟨b2, off2 + j * 9 + 2, none⟩ = some (.slice xA xn xc) := hcl 2 _ (by decide) rfl
      have g3 : wi.cell? ⟨b2, off2 + j * 9 + 3, none⟩ = some (.int .i64 x3) := hcl 3 _ (by decide) rfl
      have g4 : wi.cell? ⟨b2, off2 + j * 9 + 4, none⟩ = some (.int .i64 x4) := hcl 4 _ (by decide) rfl
      have g5 : wi.cell? ⟨b2, off2 + j * 9 + 5, none⟩ = some (.int .i64 x5) := hcl 5 _ (by decide) rfl
      have g6 : wi.cell? ⟨b2, off2 + j * 9 + 6, none⟩ = some (.int .i64 x6) := hcl 6 _ (by decide) rfl
      have g7 : wi.cell? ⟨b2, off2 + j * 9 + 7, none⟩ = some (.int .i64 x7) := hcl 7 _ (by decide) rfl
      have g8 : wi.cell? ⟨b2, off2 + j * 9 + 8, none⟩ = some (.int .i64 x8) := hcl 8 _ (by decide) rfl
      have HX := Lib.hid hx
      clear hcl hx
      go_wp2_with fail
      obtain ⟨W1, hW1⟩ : ∃ W1, W1 = wi.alloc (.cells #[.int .i64 x1, .int .i64 x2, .slice xA xn xc, .int .i64 x3, .int .i64 x4, .int .i64 x5, .int .i64 x6, .int .i64 x7, .int .i64 x8] 61) := ⟨_, rfl⟩
      have hWs : W1.heap.size = wi.heap.size + 1 := by subst hW1; simp
      have hbW : Below wi.heap.size wi W1 := by subst hW1; exact Below.of_alloc _
      have hWh : W1.heap[wi.heap.size]? = some (.cells #[.int .i64 x1, .int .i64 x2, .slice xA xn xc, .int .i64 x3, .int .i64 x4, .int .i64 x5, .int .i64 x6, .int .i64 x7, .int .i64 x8] 61 (0, 0)) := by subst hW1; exact heap_alloc_new wi _
      rw [← hW1]
      clear hW1
      have HX1 : Hid (VerIs W1 (· < W1.heap.size) (⟨x1, x2, xA, xn, xc, x3, x4, x5, x6, x7, x8⟩ : RV) x) := Lib.hid ((HX.out.keep (Keeps.below hbW)).wide (fun b' (h : b' < wi.heap.size) => by show b' < W1.heap.size; omega))
      have KV : Calls Tryz.prog 68 #[.agg #[.int .i64 x1, .int .i64 x2, .slice xA xn xc, .int .i64 x3, .int .i64 x4, .int .i64 x5, .int .i64 x6, .int .i64 x7, .int .i64 x8]] W1 (fun e w' => e = .returned (.bool (validVer x)) ∧ Below W1.heap.size W1 w') := refVersion_any (⟨x1, x2, xA, xn, xc, x3, x4, x5, x6, x7, x8⟩ : RV) x W1 HX1.out
      (with_reducible refine KV.mono ?_)
      rintro _ w2 ⟨rfl, hb2⟩
      have hB2 : Below w.heap.size w w2 := hBi.trans ((hbW.trans (hb2.mono (by omega))).mono hsi)
      have hWh2 : w2.heap[wi.heap.size]? = some (.cells #[.int .i64 x1, .int .i64 x2, .slice xA xn xc, .int .i64 x3, .int .i64 x4, .int .i64 x5, .int .i64 x6, .int .i64 x7, .int .i64 x8] 61 (0, 0)) := (hb2.block _ (by omega)).trans hWh
      have c6 : w2.cell? ⟨wi.heap.size, 6, none⟩ = some (.int .i64 x6) := cell_of_row w2 _ 6 _ _ _ hWh2
      have e6 : x6 = x.st := HX.out.st
      by_cases hval : validVer x = true
      case neg =>
        have HVL := Lib.hid (show validVer x = false by simpa using hval)
        have HF : Hid (res = 8) := Lib.hid (by rw [HST.out, if_neg (by unfold closed; simp [hval])])
        rw [HVL.out]
        clear hval
        go_wp2_with fail
        go_ret
        exact ⟨ret_int HF.out.symm, hB2⟩
      case pos =>
        have HVL := Lib.hid hval
        rw [HVL.out]
        by_cases h6 : x6 = 1099511627776
        case pos =>
          have HF : Hid (res = 8) := Lib.hid (by rw [HST.out, if_neg (by unfold closed; rw [← e6, h6]; simp)])
          clear hval e6
          go_wp2_with fail
          go_ret
          exact ⟨ret_int HF.out.symm, hB2⟩
        case neg =>
          have hcl : closed x = true := by unfold closed; rw [hval, ← e6]; simp [h6]
          have HC : Hid (res = if okPrev (prevV (ps.map (·.2)) j) x = true then segChk (prevV (ps.map (·.2)) (j + 1)) ((ps.map (·.2)).drop (j + 1)) else 9) := Lib.hid (by rw [HST.out, if_pos hcl])
          clear hval hcl e6
          have hbo : Below wi.heap.size wi w2 := hbW.trans (hb2.mono (by omega))
          have hs2 : wi.heap.size + 1 ≤ w2.heap.size := by have := hb2.size; omega
          have LB : Hid (∀ w', Below w2.heap.size w2 w' → ∀ j u, [.int .i64 x1, .int .i64 x2, .slice xA xn xc, .int .i64 x3, .int .i64 x4, .int .i64 x5, .int .i64 x6, .int .i64 x7, .int .i64 x8][j]? = some u → w'.cell? ⟨wi.heap.size, j, none⟩ = some u) := Lib.hid (fun w' h j u hj => (cell_of_row _ wi.heap.size j _ _ _ ((h.block _ (by omega)).trans hWh2)).trans (by simpa using hj))
          clear hWh hWh2 HX1 KV
          by_cases h0 : j = 0
          case pos =>
            have HN : Hid (segChk (prevV (ps.map (·.2)) (j + 1)) ((ps.map (·.2)).drop (j + 1)) = res) := Lib.hid (by rw [HC.out, if_pos (by subst h0; rfl)])
            have hz1 : ¬ (0 : Int) < (j : Int) := by omega
            have hz2 : ¬ 0 < j := by omega
            clear h0
            go_wp2_with fail
            refine wp_region_noPanic ?_
            refine wp_region_held_drew (S := (fun w' => Below w2.heap.size w2 w')) (by kernel_rfl) ?_ (fun hHeld => ?_)
            · exact (Below.refl _ _).drew
            refine heldTake 0 (some 21) (v := ?_) rfl rfl (by kernel_rfl) (by kernel_rfl) (by kernel_rfl) (by rfl) hHeld (fun _ _ _ h => h) ?_ ?_
            rotate_left
            · intro w' hSw; (try dsimp only at hSw); go_simp <;> with_reducible rfl
            simp only [Act.put, List.setIfInBounds_toArray, List.set_cons_zero, List.set_cons_succ]
            refine heldTake 1 (some 22) (v := ?_) rfl rfl (by kernel_rfl) (by kernel_rfl) (by kernel_rfl) (by rfl) hHeld (fun _ _ _ h => h) ?_ ?_
            rotate_left
            · intro w' hSw; (try dsimp only at hSw); go_simp <;> with_reducible rfl
            simp only [Act.put, List.setIfInBounds_toArray, List.set_cons_zero, List.set_cons_succ]
            refine heldTake 2 (some 23) (v := ?_) rfl rfl (by kernel_rfl) (by kernel_rfl) (by kernel_rfl) (by rfl) hHeld (fun _ _ _ h => h) ?_ ?_
            rotate_left
            · intro w' hSw; (try dsimp only at hSw); go_simp <;> with_reducible rfl
            simp only [Act.put, List.setIfInBounds_toArray, List.set_cons_zero, List.set_cons_succ]
            refine heldSkip 3 (some 24) rfl rfl (by kernel_rfl) (by kernel_rfl) (by kernel_rfl) (by rfl) hHeld (fun _ _ _ h => h) ?_
            simp only [Act.put, List.setIfInBounds_toArray, List.set_cons_zero, List.set_cons_succ]
            refine heldSkip 4 (some 25) rfl rfl (by kernel_rfl) (by kernel_rfl) (by kernel_rfl) (by rfl) hHeld (fun _ _ _ h => h) ?_
            simp only [Act.put, List.setIfInBounds_toArray, List.set_cons_zero, List.set_cons_succ]
            refine heldSkip 5 (some 26) rfl rfl (by kernel_rfl) (by kernel_rfl) (by kernel_rfl) (by rfl) hHeld (fun _ _ _ h => h) ?_
            simp only [Act.put, List.setIfInBounds_toArray, List.set_cons_zero, List.set_cons_succ]
            refine heldSkip 6 (some 27) rfl rfl (by kernel_rfl) (by kernel_rfl) (by kernel_rfl) (by rfl) hHeld (fun _ _ _ h => h) ?_
            simp only [Act.put, List.setIfInBounds_toArray, List.set_cons_zero, List.set_cons_succ]
            refine heldSkip 7 (some 28) rfl rfl (by kernel_rfl) (by kernel_rfl) (by kernel_rfl) (by rfl) hHeld (fun _ _ _ h => h) ?_
            simp only [Act.put, List.setIfInBounds_toArray, List.set_cons_zero, List.set_cons_succ]
            refine heldSkip 8 (some 29) rfl rfl (by kernel_rfl) (by kernel_rfl) (by kernel_rfl) (by rfl) hHeld (fun _ _ _ h => h) ?_
            simp only [Act.put, List.setIfInBounds_toArray, List.set_cons_zero, List.set_cons_succ]
            refine heldSkip 9 (some 30) rfl rfl (by kernel_rfl) (by kernel_rfl) (by kernel_rfl) (by rfl) hHeld (fun _ _ _ h => h) ?_
            simp only [Act.put, List.setIfInBounds_toArray, List.set_cons_zero, List.set_cons_succ]
            refine heldSkip 10 (some 31) rfl rfl (by kernel_rfl) (by kernel_rfl) (by kernel_rfl) (by rfl) hHeld (fun _ _ _ h => h) ?_
            simp only [Act.put, List.setIfInBounds_toArray, List.set_cons_zero, List.set_cons_succ]
            refine heldTake 11 (some 32) (v := ?_) rfl rfl (by kernel_rfl) (by kernel_rfl) (by kernel_rfl) (by rfl) hHeld (fun _ _ _ h => h) ?_ ?_
            rotate_left
            · intro w' hSw; (try dsimp only at hSw); go_simp <;> with_reducible rfl
            simp only [Act.put, List.setIfInBounds_toArray, List.set_cons_zero, List.set_cons_succ]
            refine wpAnyH_done (by kernel_rfl) ?_ _
            refine NoPanic.normal ?_
            clear hHeld
            go_wp2_with fail
            go_roundw
            case rel => exact ⟨j + 1, by go_num, by omega, HN, hB2.drew⟩
            case measure => simp [intOf]; omega
          case neg =>
            obtain ⟨q, hq1, hq2, hq3⟩ := HPV.out (by omega)
            obtain ⟨i, rfl⟩ : ∃ i, j = i + 1 := ⟨j - 1, by omega⟩
            rw [Nat.add_sub_cancel] at hq3
            obtain ⟨⟨y1, y2, yA, yn, yc, y3, y4, y5, y6, y7, y8⟩, y⟩ := q
            simp only at hq1 hq2 hq3
            have HST2 := HC.out
            rw [hq1] at HST2
            have eo : okPrev (some y) x = ltV y x := rfl
            rw [eo] at HST2
            have hlv := hq2.lt HX.out
            obtain ⟨lb, hlb⟩ : ∃ lb, lb = ltV y x := ⟨_, rfl⟩
            rw [← hlb] at hlv HST2
            have HS2 := Lib.hid HST2
            clear HST2 hq1 hlb HPV eo
            have PC : Hid (∀ w', Below w2.heap.size w2 w' → ∀ j u, j < 9 → [.int .i64 y1, .int .i64 y2, .slice yA yn yc, .int .i64 y3, .int .i64 y4, .int .i64 y5, .int .i64 y6, .int .i64 y7, .int .i64 y8][j]? = some u → w'.cell? ⟨b2, off2 + i * 9 + j, none⟩ = some u) := Lib.hid (fun w' h j u hj hu => (World.cell?_of_block ((h.block b2 (by omega)).trans (hbo.block b2 (by omega)))).trans (hq3 j u hj hu))
            clear hq3 hq2
            have ew : IntKind.i64.wrap (((i + 1 : Nat) : Int) - 1) = ((i : Nat) : Int) := by rw [IntKind.wrap_i64]; omega
            have hil : (i : Int) < (ps.length : Int) := by omega
            have hip : (0 : Int) < ((i + 1 : Nat) : Int) := by omega
            have KC : ∀ W, Calls Tryz.prog 69 #[.agg #[.int .i64 y1, .int .i64 y2, .slice yA yn yc, .int .i64 y3, .int .i64 y4, .int .i64 y5, .int .i64 y6, .int .i64 y7, .int .i64 y8], .agg #[.int .i64 x1, .int .i64 x2, .slice xA xn xc, .int .i64 x3, .int .i64 x4, .int .i64 x5, .int .i64 x6, .int .i64 x7, .int .i64 x8]] W fun e w' => e = .returned (.bool lb) ∧ Below W.heap.size W w' := fun W => by rw [← hlv]; exact before_any (⟨y1, y2, yA, yn, yc, y3, y4, y5, y6, y7, y8⟩ : RV) (⟨x1, x2, xA, xn, xc, x3, x4, x5, x6, x7, x8⟩ : RV) W
            clear hlv
            obtain ⟨z, hz⟩ : ∃ z, z = i + 1 := ⟨_, rfl⟩
            have HZ := Lib.hid hz
            rw [← hz] at ew hip hltj HS2 HJ ⊢
            have hz0 : 0 < z := by omega
            have HLT := Lib.hid (And.intro hltj (show i + 1 ≤ ps.length from hj))
            clear hz
            go_wp2_with fail
            refine wp_region_noPanic ?_
            refine wp_region_held_drew (S := (fun w' => Below w2.heap.size w2 w')) (by kernel_rfl) ?_ (fun hHeld => ?_)
            · exact (Below.refl _ _).drew
            refine heldTake 0 (some 21) (v := ?_) rfl rfl (by kernel_rfl) (by kernel_rfl) (by kernel_rfl) (by rfl) hHeld (fun _ _ _ h => h) ?_ ?_
            rotate_left
            · intro w' hSw; (try dsimp only at hSw); go_simp <;> with_reducible rfl
            simp only [Act.put, List.setIfInBounds_toArray, List.set_cons_zero, List.set_cons_succ]
            refine heldTake 1 (some 22) (v := ?_) rfl rfl (by kernel_rfl) (by kernel_rfl) (by kernel_rfl) (by rfl) hHeld (fun _ _ _ h => h) ?_ ?_
            rotate_left
            · intro w' hSw; (try dsimp only at hSw); go_simp <;> with_reducible rfl
            simp only [Act.put, List.setIfInBounds_toArray, List.set_cons_zero, List.set_cons_succ]
            refine heldTake 2 (some 23) (v := ?_) rfl rfl (by kernel_rfl) (by kernel_rfl) (by kernel_rfl) (by rfl) hHeld (fun _ _ _ h => h) ?_ ?_
            rotate_left
            · intro w' hSw; (try dsimp only at hSw); go_simp <;> with_reducible rfl
            simp only [Act.put, List.setIfInBounds_toArray, List.set_cons_zero, List.set_cons_succ]
            refine heldTake 3 (some 24) (v := ?_) rfl rfl (by kernel_rfl) (by kernel_rfl) (by kernel_rfl) (by rfl) hHeld (fun _ _ _ h => h) ?_ ?_
            rotate_left
            · intro w' hSw; (try dsimp only at hSw); go_simp <;> with_reducible rfl
            simp only [Act.put, List.setIfInBounds_toArray, List.set_cons_zero, List.set_cons_succ]
            refine heldTake 4 (some 25) (v := ?_) rfl rfl (by kernel_rfl) (by kernel_rfl) (by kernel_rfl) (by rfl) hHeld (fun _ _ _ h => h) ?_ ?_
            rotate_left
            · intro w' hSw; (try dsimp only at hSw); go_simp <;> with_reducible rfl
            simp only [Act.put, List.setIfInBounds_toArray, List.set_cons_zero, List.set_cons_succ]
            refine heldTake 5 (some 26) (v := ?_) rfl rfl (by kernel_rfl) (by kernel_rfl) (by kernel_rfl) (by rfl) hHeld (fun _ _ _ h => h) ?_ ?_
            rotate_left
            · intro w' hSw; (try dsimp only at hSw); go_simp <;> with_reducible rfl
            simp only [Act.put, List.setIfInBounds_toArray, List.set_cons_zero, List.set_cons_succ]
            refine heldTake 6 (some 27) (v := ?_) rfl rfl (by kernel_rfl) (by kernel_rfl) (by kernel_rfl) (by rfl) hHeld (fun _ _ _ h => h) ?_ ?_
            rotate_left
            · intro w' hSw; (try dsimp only at hSw); go_simp <;> with_reducible rfl
            simp only [Act.put, List.setIfInBounds_toArray, List.set_cons_zero, List.set_cons_succ]
            refine heldTake 7 (some 28) (v := ?_) rfl rfl (by kernel_rfl) (by kernel_rfl) (by kernel_rfl) (by rfl) hHeld (fun _ _ _ h => h) ?_ ?_
            rotate_left
            · intro w' hSw; (try dsimp only at hSw); have c0 : w'.cell? ⟨b2, off2 + i * 9, none⟩ = some (.int .i64 y1) := PC.out w' hSw 0 _ (by decide) rfl; have c1 : w'.cell? ⟨b2, off2 + i * 9 + 1, none⟩ = some (.int .i64 y2) := PC.out w' hSw 1 _ (by decide) rfl; have c2 : w'.cell? ⟨b2, off2 + i * 9 + 2, none⟩ = some (.slice yA yn yc) := PC.out w' hSw 2 _ (by decide) rfl; have c3 : w'.cell? ⟨b2, off2 + i * 9 + 3, none⟩ = some (.int .i64 y3) := PC.out w' hSw 3 _ (by decide) rfl; have c4 : w'.cell? ⟨b2, off2 + i * 9 + 4, none⟩ = some (.int .i64 y4) := PC.out w' hSw 4 _ (by decide) rfl; have c5 : w'.cell? ⟨b2, off2 + i * 9 + 5, none⟩ = some (.int .i64 y5) := PC.out w' hSw 5 _ (by decide) rfl; have c6 : w'.cell? ⟨b2, off2 + i * 9 + 6, none⟩ = some (.int .i64 y6) := PC.out w' hSw 6 _ (by decide) rfl; have c7 : w'.cell? ⟨b2, off2 + i * 9 + 7, none⟩ = some (.int .i64 y7) := PC.out w' hSw 7 _ (by decide) rfl; have c8 : w'.cell? ⟨b2, off2 + i * 9 + 8, none⟩ = some (.int .i64 y8) := PC.out w' hSw 8 _ (by decide) rfl; go_simp <;> with_reducible rfl
            simp only [Act.put, List.setIfInBounds_toArray, List.set_cons_zero, List.set_cons_succ]
            refine heldTake 8 (some 29) (v := ?_) rfl rfl (by kernel_rfl) (by kernel_rfl) (by kernel_rfl) (by rfl) hHeld (fun _ _ _ h => h) ?_ ?_
            rotate_left
            · intro w' hSw; (try dsimp only at hSw); have c0 : w'.cell? ⟨wi.heap.size, 0, none⟩ = some (.int .i64 x1) := LB.out w' hSw 0 _ rfl; have c1 : w'.cell? ⟨wi.heap.size, 1, none⟩ = some (.int .i64 x2) := LB.out w' hSw 1 _ rfl; have c2 : w'.cell? ⟨wi.heap.size, 2, none⟩ = some (.slice xA xn xc) := LB.out w' hSw 2 _ rfl; have c3 : w'.cell? ⟨wi.heap.size, 3, none⟩ = some (.int .i64 x3) := LB.out w' hSw 3 _ rfl; have c4 : w'.cell? ⟨wi.heap.size, 4, none⟩ = some (.int .i64 x4) := LB.out w' hSw 4 _ rfl; have c5 : w'.cell? ⟨wi.heap.size, 5, none⟩ = some (.int .i64 x5) := LB.out w' hSw 5 _ rfl; have c6 : w'.cell? ⟨wi.heap.size, 6, none⟩ = some (.int .i64 x6) := LB.out w' hSw 6 _ rfl; have c7 : w'.cell? ⟨wi.heap.size, 7, none⟩ = some (.int .i64 x7) := LB.out w' hSw 7 _ rfl; have c8 : w'.cell? ⟨wi.heap.size, 8, none⟩ = some (.int .i64 x8) := LB.out w' hSw 8 _ rfl; go_simp <;> with_reducible rfl
            simp only [Act.put, List.setIfInBounds_toArray, List.set_cons_zero, List.set_cons_succ]
            refine heldCall 9 (some 30) (f := ?_) (args := ?_) rfl rfl (by kernel_rfl) (by rfl) ?_ ?_
            rotate_left 2
            · go_simp <;> first | (constructor <;> with_reducible rfl) | with_reducible rfl
            (with_reducible refine (KC _).mono ?_)
            rintro _ w3 ⟨rfl, hb3'⟩
            have hb3 : Below w2.heap.size w2 w3 := (Below.undrew hb3')
            refine ⟨_, rfl, keepAnd ?_ (fun hNew => ?_)⟩
            · exact hb3
            clear hHeld
            have hHeld := hNew
            clear hNew
            simp only [Act.put, List.setIfInBounds_toArray, List.set_cons_zero, List.set_cons_succ]
            refine heldTake 10 (some 31) (v := ?_) rfl rfl (by kernel_rfl) (by kernel_rfl) (by kernel_rfl) (by rfl) hHeld (fun _ _ _ h => h) ?_ ?_
            rotate_left
            · intro w' hSw; (try dsimp only at hSw); go_simp <;> with_reducible rfl
            simp only [Act.put, List.setIfInBounds_toArray, List.set_cons_zero, List.set_cons_succ]
            refine heldTake 11 (some 32) (v := ?_) rfl rfl (by kernel_rfl) (by kernel_rfl) (by kernel_rfl) (by rfl) hHeld (fun _ _ _ h => h) ?_ ?_
            rotate_left
            · intro w' hSw; (try dsimp only at hSw); go_simp <;> with_reducible rfl
            simp only [Act.put, List.setIfInBounds_toArray, List.set_cons_zero, List.set_cons_succ]
            refine wpAnyH_done (by kernel_rfl) ?_ _
            refine NoPanic.normal ?_
            clear hHeld
            have hB3 : Below w.heap.size w w3 := hB2.trans (hb3.mono hB2.size)
            cases lb
            case false =>
              have HN : Hid (res = 9) := Lib.hid (by rw [HS2.out]; exact if_neg (by decide))
              go_wp2_with fail
              go_ret
              exact ⟨ret_int HN.out.symm, hB3⟩
            case true =>
              have HN : Hid (res = segChk (prevV (ps.map (·.2)) (z + 1)) ((ps.map (·.2)).drop (z + 1))) := Lib.hid (by rw [HS2.out]; exact if_pos rfl)
              go_wp2_with fail
              go_roundw
              case rel => exact ⟨z + 1, by go_num, by have := HLT.out.1; omega, Lib.hid HN.out.symm, hB3⟩
              case measure => have q1 := HLT.out.1; have q2 := HZ.out; simp [intOf]; omega

set_option maxRecDepth 1000000 in
set_option maxHeartbeats 8000000 in
theorem refVersions_any (v : Value) (ps : List VP) (w : World) (hv : RdVs w (· < w.heap.size) v ps) :
    Calls Tryz.prog 126 #[v] w fun e w' => e = .returned (.int .i64 (chkFrom none (ps.map (·.2)))) ∧ Below w.heap.size w w' := by
  obtain ⟨A, c, rfl, hc1, hc2, hc3⟩ := hv.1.open_
  unfold maxLen at hc2
  have HVP := Lib.hid hv
  clear hv
  obtain ⟨res, hres⟩ : ∃ res, res = chkFrom none (ps.map (·.2)) := ⟨_, rfl⟩
  rw [← hres]
  have HRES := Lib.hid hres
  clear hres hc3
  go_enter Tryz.func126, Tryz.ntmps126
  go_wp2_with fail
  go_loopw [7] (fun i wr => ∃ j : Nat, i = .int .i64 (j : Int) ∧ j ≤ ps.length ∧ Hid (chkFrom (prevV (ps.map (·.2)) j) ((ps.map (·.2)).drop j) = res) ∧ Below w.heap.size w wr) (fun i _ => ps.length - (intOf i).toNat)
  case atStart => exact ⟨0, rfl, Nat.zero_le _, Lib.hid HRES.out.symm, Below.refl _ _⟩
  case round =>
    obtain ⟨j, rfl, hj, HJ, hBi⟩ := hrel
    obtain ⟨wi, rfl⟩ : ∃ wi : World, wi = wr := ⟨_, rfl⟩
    have hsi := hBi.size
    by_cases hltj : j < ps.length
    case neg =>
      have hje : j = ps.length := by omega
      have HZ : Hid (res = 0) := Lib.hid (by rw [← HJ.out]; exact chk_end (by rw [List.length_map]; exact hje))
      go_wp2_with fail
      go_ret
      exact ⟨ret_int HZ.out.symm, hBi⟩
    case pos =>
      obtain ⟨b2, off2, rfl, hF2, hcl, hx⟩ := RdVs.at_ (HVP.out.below hBi) hltj
      have hst := chk_step (xs := ps.map (·.2)) (k := j) (by rw [List.length_map]; exact hltj)
      rw [HJ.out, List.getElem_map] at hst
      have hpv : 0 < j → ∃ q : VP, prevV (ps.map (·.2)) j = some q.2 ∧ VerIs wi (· < wi.heap.size) q.1 q.2 ∧ ∀ t u, t < 9 → q.1.enc[t]? = some u → wi.cell? ⟨b2, off2 + (j - 1) * 9 + t, none⟩ = some u := fun h0 => by
        obtain ⟨b', off', e, _, hcl', hx'⟩ := RdVs.at_ (HVP.out.below hBi) (k := j - 1) (by omega)
        injection e with e; injection e with e1 e2; subst e1; subst e2
        refine ⟨ps[j - 1], ?_, hx', hcl'⟩
        unfold prevV
        rw [if_neg (by omega), List.getElem?_map, List.getElem?_eq_getElem (by omega)]; rfl
      have HPV := Lib.hid hpv
      have HST := Lib.hid hst
      clear hst hpv
      generalize ps[j] = p at *
      obtain ⟨⟨x1, x2, xA, xn, xc, x3, x4, x5, x6, x7, x8⟩, x⟩ := p
      simp only at hcl hx HST
      have g0 : wi.cell? ⟨b2, off2 + j * 9, none⟩ = some (.int .i64 x1) := hcl 0 _ (by decide) rfl
      have g1 : wi.cell? ⟨b2, off2 + j * 9 + 1, none⟩ = some (.int .i64 x2) := hcl 1 _ (by decide) rfl
      have g2 : wi.cell? ⟨b2, off2 + j * 9 + 2, none⟩ = some (.slice xA xn xc) := hcl 2 _ (by decide) rfl
      have g3 : wi.cell? ⟨b2, off2 + j * 9 + 3, none⟩ = some (.int .i64 x3) := hcl 3 _ (by decide) rfl
      have g4 : wi.cell? ⟨b2, off2 + j * 9 + 4, none⟩ = some (.int .i64 x4) := hcl 4 _ (by decide) rfl
      have g5 : wi.cell? ⟨b2, off2 + j * 9 + 5, none⟩ = some (.int .i64 x5) := hcl 5 _ (by decide) rfl
      have g6 : wi.cell? ⟨b2, off2 + j * 9 + 6, none⟩ = some (.int .i64 x6) := hcl 6 _ (by decide) rfl
      have g7 : wi.cell? ⟨b2, off2 + j * 9 + 7, none⟩ = some (.int .i64 x7) := hcl 7 _ (by decide) rfl
      have g8 : wi.cell? ⟨b2, off2 + j * 9 + 8, none⟩ = some (.int .i64 x8) := hcl 8 _ (by decide) rfl
      have HX := Lib.hid hx
      clear hcl hx
      go_wp2_with fail
      obtain ⟨W1, hW1⟩ : ∃ W1, W1 = wi.alloc (.cells #[.int .i64 x1, .int .i64 x2, .slice xA xn xc, .int .i64 x3, .int .i64 x4, .int .i64 x5, .int .i64 x6, .int .i64 x7, .int .i64 x8] 61) := ⟨_, rfl⟩
      have hWs : W1.heap.size = wi.heap.size + 1 := by subst hW1; simp
      have hbW : Below wi.heap.size wi W1 := by subst hW1; exact Below.of_alloc _
      have hWh : W1.heap[wi.heap.size]? = some (.cells #[.int .i64 x1, .int .i64 x2, .slice xA xn xc, .int .i64 x3, .int .i64 x4, .int .i64 x5, .int .i64 x6, .int .i64 x7, .int .i64 x8] 61 (0, 0)) := by subst hW1; exact heap_alloc_new wi _
      rw [← hW1]
      clear hW1
      have HX1 : Hid (VerIs W1 (· < W1.heap.size) (⟨x1, x2, xA, xn, xc, x3, x4, x5, x6, x7, x8⟩ : RV) x) := Lib.hid ((HX.out.keep (Keeps.below hbW)).wide (fun b' (h : b' < wi.heap.size) => by show b' < W1.heap.size; omega))
      have KV : Calls Tryz.prog 68 #[.agg #[.int .i64 x1, .int .i64 x2, .slice xA xn xc, .int .i64 x3, .int .i64 x4, .int .i64 x5, .int .i64 x6, .int .i64 x7, .int .i64 x8]] W1 (fun e w' => e = .returned (.bool (validVer x)) ∧ Below W1.heap.size W1 w') := refVersion_any (⟨x1, x2, xA, xn, xc, x3, x4, x5, x6, x7, x8⟩ : RV) x W1 HX1.out
      (with_reducible refine KV.mono ?_)
      rintro _ w2 ⟨rfl, hb2⟩
      have hB2 : Below w.heap.size w w2 := hBi.trans ((hbW.trans (hb2.mono (by omega))).mono hsi)
      have hWh2 : w2.heap[wi.heap.size]? = some (.cells #[.int .i64 x1, .int .i64 x2, .slice xA xn xc, .int .i64 x3, .int .i64 x4, .int .i64 x5, .int .i64 x6, .int .i64 x7, .int .i64 x8] 61 (0, 0)) := (hb2.block _ (by omega)).trans hWh
      have c6 : w2.cell? ⟨wi.heap.size, 6, none⟩ = some (.int .i64 x6) := cell_of_row w2 _ 6 _ _ _ hWh2
      have e6 : x6 = x.st := HX.out.st
      by_cases hval : validVer x = true
      case neg =>
        have HVL := Lib.hid (show validVer x = false by simpa using hval)
        have HF : Hid (res = 8) := Lib.hid (by rw [HST.out, if_neg hval])
        rw [HVL.out]
        clear hval
        go_wp2_with fail
        go_ret
        exact ⟨ret_int HF.out.symm, hB2⟩
      case pos =>
        have HVL := Lib.hid hval
        rw [HVL.out]
        have h6 : True := trivial
        all_goals
          have HC : Hid (res = if okPrev (prevV (ps.map (·.2)) j) x = true then chkFrom (prevV (ps.map (·.2)) (j + 1)) ((ps.map (·.2)).drop (j + 1)) else 9) := Lib.hid (by rw [HST.out, if_pos hval])
          clear hval e6
          have hbo : Below wi.heap.size wi w2 := hbW.trans (hb2.mono (by omega))
          have hs2 : wi.heap.size + 1 ≤ w2.heap.size := by have := hb2.size; omega
          have LB : Hid (∀ w', Below w2.heap.size w2 w' → ∀ j u, [.int .i64 x1, .int .i64 x2, .slice xA xn xc, .int .i64 x3, .int .i64 x4, .int .i64 x5, .int .i64 x6, .int .i64 x7, .int .i64 x8][j]? = some u → w'.cell? ⟨wi.heap.size, j, none⟩ = some u) := Lib.hid (fun w' h j u hj => (cell_of_row _ wi.heap.size j _ _ _ ((h.block _ (by omega)).trans hWh2)).trans (by simpa using hj))
          clear hWh hWh2 HX1 KV
          by_cases h0 : j = 0
          case pos =>
            have HN : Hid (chkFrom (prevV (ps.map (·.2)) (j + 1)) ((ps.map (·.2)).drop (j + 1)) = res) := Lib.hid (by rw [HC.out, if_pos (by subst h0; rfl)])
            have hz1 : ¬ (0 : Int) < (j : Int) := by omega
            have hz2 : ¬ 0 < j := by omega
            clear h0
            go_wp2_with fail
            refine wp_region_noPanic ?_
            refine wp_region_held_drew (S := (fun w' => Below w2.heap.size w2 w')) (by kernel_rfl) ?_ (fun hHeld => ?_)
            · exact (Below.refl _ _).drew
            refine heldTake 0 (some 15) (v := ?_) rfl rfl (by kernel_rfl) (by kernel_rfl) (by kernel_rfl) (by rfl) hHeld (fun _ _ _ h => h) ?_ ?_
            rotate_left
            · intro w' hSw; (try dsimp only at hSw); go_simp <;> with_reducible rfl
            simp only [Act.put, List.setIfInBounds_toArray, List.set_cons_zero, List.set_cons_succ]
            refine heldTake 1 (some 16) (v := ?_) rfl rfl (by kernel_rfl) (by kernel_rfl) (by kernel_rfl) (by rfl) hHeld (fun _ _ _ h => h) ?_ ?_
            rotate_left
            · intro w' hSw; (try dsimp only at hSw); go_simp <;> with_reducible rfl
            simp only [Act.put, List.setIfInBounds_toArray, List.set_cons_zero, List.set_cons_succ]
            refine heldTake 2 (some 17) (v := ?_) rfl rfl (by kernel_rfl) (by kernel_rfl) (by kernel_rfl) (by rfl) hHeld (fun _ _ _ h => h) ?_ ?_
            rotate_left
            · intro w' hSw; (try dsimp only at hSw); go_simp <;> with_reducible rfl
            simp only [Act.put, List.setIfInBounds_toArray, List.set_cons_zero, List.set_cons_succ]
            refine heldSkip 3 (some 18) rfl rfl (by kernel_rfl) (by kernel_rfl) (by kernel_rfl) (by rfl) hHeld (fun _ _ _ h => h) ?_
            simp only [Act.put, List.setIfInBounds_toArray, List.set_cons_zero, List.set_cons_succ]
            refine heldSkip 4 (some 19) rfl rfl (by kernel_rfl) (by kernel_rfl) (by kernel_rfl) (by rfl) hHeld (fun _ _ _ h => h) ?_
            simp only [Act.put, List.setIfInBounds_toArray, List.set_cons_zero, List.set_cons_succ]
            refine heldSkip 5 (some 20) rfl rfl (by kernel_rfl) (by kernel_rfl) (by kernel_rfl) (by rfl) hHeld (fun _ _ _ h => h) ?_
            simp only [Act.put, List.setIfInBounds_toArray, List.set_cons_zero, List.set_cons_succ]
            refine heldSkip 6 (some 21) rfl rfl (by kernel_rfl) (by kernel_rfl) (by kernel_rfl) (by rfl) hHeld (fun _ _ _ h => h) ?_
            simp only [Act.put, List.setIfInBounds_toArray, List.set_cons_zero, List.set_cons_succ]
            refine heldSkip 7 (some 22) rfl rfl (by kernel_rfl) (by kernel_rfl) (by kernel_rfl) (by rfl) hHeld (fun _ _ _ h => h) ?_
            simp only [Act.put, List.setIfInBounds_toArray, List.set_cons_zero, List.set_cons_succ]
            refine heldSkip 8 (some 23) rfl rfl (by kernel_rfl) (by kernel_rfl) (by kernel_rfl) (by rfl) hHeld (fun _ _ _ h => h) ?_
            simp only [Act.put, List.setIfInBounds_toArray, List.set_cons_zero, List.set_cons_succ]
            refine heldSkip 9 (some 24) rfl rfl (by kernel_rfl) (by kernel_rfl) (by kernel_rfl) (by rfl) hHeld (fun _ _ _ h => h) ?_
            simp only [Act.put, List.setIfInBounds_toArray, List.set_cons_zero, List.set_cons_succ]
            refine heldSkip 10 (some 25) rfl rfl (by kernel_rfl) (by kernel_rfl) (by kernel_rfl) (by rfl) hHeld (fun _ _ _ h => h) ?_
            simp only [Act.put, List.setIfInBounds_toArray, List.set_cons_zero, List.set_cons_succ]
            refine heldTake 11 (some 26) (v := ?_) rfl rfl (by kernel_rfl) (by kernel_rfl) (by kernel_rfl) (by rfl) hHeld (fun _ _ _ h => h) ?_ ?_
            rotate_left
            · intro w' hSw; (try dsimp only at hSw); go_simp <;> with_reducible rfl
            simp only [Act.put, List.setIfInBounds_toArray, List.set_cons_zero, List.set_cons_succ]
            refine wpAnyH_done (by kernel_rfl) ?_ _
            refine NoPanic.normal ?_
            clear hHeld
            go_wp2_with fail
            go_roundw
            case rel => exact ⟨j + 1, by go_num, by omega, HN, hB2.drew⟩
            case measure => simp [intOf]; omega
          case neg =>
            obtain ⟨q, hq1, hq2, hq3⟩ := HPV.out (by omega)
            obtain ⟨i, rfl⟩ : ∃ i, j = i + 1 := ⟨j - 1, by omega⟩
            rw [Nat.add_sub_cancel] at hq3
            obtain ⟨⟨y1, y2, yA, yn, yc, y3, y4, y5, y6, y7, y8⟩, y⟩ := q
            simp only at hq1 hq2 hq3
            have HST2 := HC.out
            rw [hq1] at HST2
            have eo : okPrev (some y) x = ltV y x := rfl
            rw [eo] at HST2
            have hlv := hq2.lt HX.out
            obtain ⟨lb, hlb⟩ : ∃ lb, lb = ltV y x := ⟨_, rfl⟩
            rw [← hlb] at hlv HST2
            have HS2 := Lib.hid HST2
            clear HST2 hq1 hlb HPV eo
            have PC : Hid (∀ w', Below w2.heap.size w2 w' → ∀ j u, j < 9 → [.int .i64 y1, .int .i64 y2, .slice yA yn yc, .int .i64 y3, .int .i64 y4, .int .i64 y5, .int .i64 y6, .int .i64 y7, .int .i64 y8][j]? = some u → w'.cell? ⟨b2, off2 + i * 9 + j, none⟩ = some u) := Lib.hid (fun w' h j u hj hu => (World.cell?_of_block ((h.block b2 (by omega)).trans (hbo.block b2 (by omega)))).trans (hq3 j u hj hu))
            clear hq3 hq2
            have ew : IntKind.i64.wrap (((i + 1 : Nat) : Int) - 1) = ((i : Nat) : Int) := by rw [IntKind.wrap_i64]; omega
            have hil : (i : Int) < (ps.length : Int) := by omega
            have hip : (0 : Int) < ((i + 1 : Nat) : Int) := by omega
            have KC : ∀ W, Calls Tryz.prog 69 #[.agg #[.int .i64 y1, .int .i64 y2, .slice yA yn yc, .int .i64 y3, .int .i64 y4, .int .i64 y5, .int .i64 y6, .int .i64 y7, .int .i64 y8], .agg #[.int .i64 x1, .int .i64 x2, .slice xA xn xc, .int .i64 x3, .int .i64 x4, .int .i64 x5, .int .i64 x6, .int .i64 x7, .int .i64 x8]] W fun e w' => e = .returned (.bool lb) ∧ Below W.heap.size W w' := fun W => by rw [← hlv]; exact before_any (⟨y1, y2, yA, yn, yc, y3, y4, y5, y6, y7, y8⟩ : RV) (⟨x1, x2, xA, xn, xc, x3, x4, x5, x6, x7, x8⟩ : RV) W
            clear hlv
            obtain ⟨z, hz⟩ : ∃ z, z = i + 1 := ⟨_, rfl⟩
            have HZ := Lib.hid hz
            rw [← hz] at ew hip hltj HS2 HJ ⊢
            have hz0 : 0 < z := by omega
            have HLT := Lib.hid (And.intro hltj (show i + 1 ≤ ps.length from hj))
            clear hz
            go_wp2_with fail
            refine wp_region_noPanic ?_
            refine wp_region_held_drew (S := (fun w' => Below w2.heap.size w2 w')) (by kernel_rfl) ?_ (fun hHeld => ?_)
            · exact (Below.refl _ _).drew
            refine heldTake 0 (some 15) (v := ?_) rfl rfl (by kernel_rfl) (by kernel_rfl) (by kernel_rfl) (by rfl) hHeld (fun _ _ _ h => h) ?_ ?_
            rotate_left
            · intro w' hSw; (try dsimp only at hSw); go_simp <;> with_reducible rfl
            simp only [Act.put, List.setIfInBounds_toArray, List.set_cons_zero, List.set_cons_succ]
            refine heldTake 1 (some 16) (v := ?_) rfl rfl (by kernel_rfl) (by kernel_rfl) (by kernel_rfl) (by rfl) hHeld (fun _ _ _ h => h) ?_ ?_
            rotate_left
            · intro w' hSw; (try dsimp only at hSw); go_simp <;> with_reducible rfl
            simp only [Act.put, List.setIfInBounds_toArray, List.set_cons_zero, List.set_cons_succ]
            refine heldTake 2 (some 17) (v := ?_) rfl rfl (by kernel_rfl) (by kernel_rfl) (by kernel_rfl) (by rfl) hHeld (fun _ _ _ h => h) ?_ ?_
            rotate_left
            · intro w' hSw; (try dsimp only at hSw); go_simp <;> with_reducible rfl
            simp only [Act.put, List.setIfInBounds_toArray, List.set_cons_zero, List.set_cons_succ]
            refine heldTake 3 (some 18) (v := ?_) rfl rfl (by kernel_rfl) (by kernel_rfl) (by kernel_rfl) (by rfl) hHeld (fun _ _ _ h => h) ?_ ?_
            rotate_left
            · intro w' hSw; (try dsimp only at hSw); go_simp <;> with_reducible rfl
            simp only [Act.put, List.setIfInBounds_toArray, List.set_cons_zero, List.set_cons_succ]
            refine heldTake 4 (some 19) (v := ?_) rfl rfl (by kernel_rfl) (by kernel_rfl) (by kernel_rfl) (by rfl) hHeld (fun _ _ _ h => h) ?_ ?_
            rotate_left
            · intro w' hSw; (try dsimp only at hSw); go_simp <;> with_reducible rfl
            simp only [Act.put, List.setIfInBounds_toArray, List.set_cons_zero, List.set_cons_succ]
            refine heldTake 5 (some 20) (v := ?_) rfl rfl (by kernel_rfl) (by kernel_rfl) (by kernel_rfl) (by rfl) hHeld (fun _ _ _ h => h) ?_ ?_
            rotate_left
            · intro w' hSw; (try dsimp only at hSw); go_simp <;> with_reducible rfl
            simp only [Act.put, List.setIfInBounds_toArray, List.set_cons_zero, List.set_cons_succ]
            refine heldTake 6 (some 21) (v := ?_) rfl rfl (by kernel_rfl) (by kernel_rfl) (by kernel_rfl) (by rfl) hHeld (fun _ _ _ h => h) ?_ ?_
            rotate_left
            · intro w' hSw; (try dsimp only at hSw); go_simp <;> with_reducible rfl
            simp only [Act.put, List.setIfInBounds_toArray, List.set_cons_zero, List.set_cons_succ]
            refine heldTake 7 (some 22) (v := ?_) rfl rfl (by kernel_rfl) (by kernel_rfl) (by kernel_rfl) (by rfl) hHeld (fun _ _ _ h => h) ?_ ?_
            rotate_left
            · intro w' hSw; (try dsimp only at hSw); have c0 : w'.cell? ⟨b2, off2 + i * 9, none⟩ = some (.int .i64 y1) := PC.out w' hSw 0 _ (by decide) rfl; have c1 : w'.cell? ⟨b2, off2 + i * 9 + 1, none⟩ = some (.int .i64 y2) := PC.out w' hSw 1 _ (by decide) rfl; have c2 : w'.cell? ⟨b2, off2 + i * 9 + 2, none⟩ = some (.slice yA yn yc) := PC.out w' hSw 2 _ (by decide) rfl; have c3 : w'.cell? ⟨b2, off2 + i * 9 + 3, none⟩ = some (.int .i64 y3) := PC.out w' hSw 3 _ (by decide) rfl; have c4 : w'.cell? ⟨b2, off2 + i * 9 + 4, none⟩ = some (.int .i64 y4) := PC.out w' hSw 4 _ (by decide) rfl; have c5 : w'.cell? ⟨b2, off2 + i * 9 + 5, none⟩ = some (.int .i64 y5) := PC.out w' hSw 5 _ (by decide) rfl; have c6 : w'.cell? ⟨b2, off2 + i * 9 + 6, none⟩ = some (.int .i64 y6) := PC.out w' hSw 6 _ (by decide) rfl; have c7 : w'.cell? ⟨b2, off2 + i * 9 + 7, none⟩ = some (.int .i64 y7) := PC.out w' hSw 7 _ (by decide) rfl; have c8 : w'.cell? ⟨b2, off2 + i * 9 + 8, none⟩ = some (.int .i64 y8) := PC.out w' hSw 8 _ (by decide) rfl; go_simp <;> with_reducible rfl
            simp only [Act.put, List.setIfInBounds_toArray, List.set_cons_zero, List.set_cons_succ]
            refine heldTake 8 (some 23) (v := ?_) rfl rfl (by kernel_rfl) (by kernel_rfl) (by kernel_rfl) (by rfl) hHeld (fun _ _ _ h => h) ?_ ?_
            rotate_left
            · intro w' hSw; (try dsimp only at hSw); have c0 : w'.cell? ⟨wi.heap.size, 0, none⟩ = some (.int .i64 x1) := LB.out w' hSw 0 _ rfl; have c1 : w'.cell? ⟨wi.heap.size, 1, none⟩ = some (.int .i64 x2) := LB.out w' hSw 1 _ rfl; have c2 : w'.cell? ⟨wi.heap.size, 2, none⟩ = some (.slice xA xn xc) := LB.out w' hSw 2 _ rfl; have c3 : w'.cell? ⟨wi.heap.size, 3, none⟩ = some (.int .i64 x3) := LB.out w' hSw 3 _ rfl; have c4 : w'.cell? ⟨wi.heap.size, 4, none⟩ = some (.int .i64 x4) := LB.out w' hSw 4 _ rfl; have c5 : w'.cell? ⟨wi.heap.size, 5, none⟩ = some (.int .i64 x5) := LB.out w' hSw 5 _ rfl; have c6 : w'.cell? ⟨wi.heap.size, 6, none⟩ = some (.int .i64 x6) := LB.out w' hSw 6 _ rfl; have c7 : w'.cell? ⟨wi.heap.size, 7, none⟩ = some (.int .i64 x7) := LB.out w' hSw 7 _ rfl; have c8 : w'.cell? ⟨wi.heap.size, 8, none⟩ = some (.int .i64 x8) := LB.out w' hSw 8 _ rfl; go_simp <;> with_reducible rfl
            simp only [Act.put, List.setIfInBounds_toArray, List.set_cons_zero, List.set_cons_succ]
            refine heldCall 9 (some 24) (f := ?_) (args := ?_) rfl rfl (by kernel_rfl) (by rfl) ?_ ?_
            rotate_left 2
            · go_simp <;> first | (constructor <;> with_reducible rfl) | with_reducible rfl
            (with_reducible refine (KC _).mono ?_)
            rintro _ w3 ⟨rfl, hb3'⟩
            have hb3 : Below w2.heap.size w2 w3 := (Below.undrew hb3')
            refine ⟨_, rfl, keepAnd ?_ (fun hNew => ?_)⟩
            · exact hb3
            clear hHeld
            have hHeld := hNew
            clear hNew
            simp only [Act.put, List.setIfInBounds_toArray, List.set_cons_zero, List.set_cons_succ]
            refine heldTake 10 (some 25) (v := ?_) rfl rfl (by kernel_rfl) (by kernel_rfl) (by kernel_rfl) (by rfl) hHeld (fun _ _ _ h => h) ?_ ?_
            rotate_left
            · intro w' hSw; (try dsimp only at hSw); go_simp <;> with_reducible rfl
            simp only [Act.put, List.setIfInBounds_toArray, List.set_cons_zero, List.set_cons_succ]
            refine heldTake 11 (some 26) (v := ?_) rfl rfl (by kernel_rfl) (by kernel_rfl) (by kernel_rfl) (by rfl) hHeld (fun _ _ _ h => h) ?_ ?_
            rotate_left
            · intro w' hSw; (try dsimp only at hSw); go_simp <;> with_reducible rfl
            simp only [Act.put, List.setIfInBounds_toArray, List.set_cons_zero, List.set_cons_succ]
            refine wpAnyH_done (by kernel_rfl) ?_ _
            refine NoPanic.normal ?_
            clear hHeld
            have hB3 : Below w.heap.size w w3 := hB2.trans (hb3.mono hB2.size)
            cases lb
            case false =>
              have HN : Hid (res = 9) := Lib.hid (by rw [HS2.out]; exact if_neg (by decide))
              go_wp2_with fail
              go_ret
              exact ⟨ret_int HN.out.symm, hB3⟩
            case true =>
              have HN : Hid (res = chkFrom (prevV (ps.map (·.2)) (z + 1)) ((ps.map (·.2)).drop (z + 1))) := Lib.hid (by rw [HS2.out]; exact if_pos rfl)
              go_wp2_with fail
              go_roundw
              case rel => exact ⟨z + 1, by go_num, by have := HLT.out.1; omega, Lib.hid HN.out.symm, hB3⟩
              case measure => have q1 := HLT.out.1; have q2 := HZ.out; simp [intOf]; omega
end Go.Proofs.YtacjiocffbgkkaaGreat
