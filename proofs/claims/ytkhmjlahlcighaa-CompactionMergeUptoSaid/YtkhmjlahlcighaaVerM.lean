/-
  ref41.Merge: the walk.
-/
import Derived.Test.YtkhmjlahlcighaaVerL
namespace Go.Proofs.Ytkhmjlahlcighaa
open Go.RowKit Go.Lib Go.IntWalk Go.Sort Go.Shelf

theorem cells_of {w w' : World} {b : Nat} (o : Nat) (h : w'.heap[b]? = w.heap[b]?) {x1 x2 : Int} {xA : Option Addr} {xn xc : Nat} {x3 x4 x5 x6 x7 x8 : Int} (h0 : w.cell? ⟨b, o, none⟩ = some (.int .i64 x1)) (h1 : w.cell? ⟨b, o + 1, none⟩ = some (.int .i64 x2)) (h2 : w.cell? ⟨b, o + 2, none⟩ = some (.slice xA xn xc)) (h3 : w.cell? ⟨b, o + 3, none⟩ = some (.int .i64 x3)) (h4 : w.cell? ⟨b, o + 4, none⟩ = some (.int .i64 x4)) (h5 : w.cell? ⟨b, o + 5, none⟩ = some (.int .i64 x5)) (h6 : w.cell? ⟨b, o + 6, none⟩ = some (.int .i64 x6)) (h7 : w.cell? ⟨b, o + 7, none⟩ = some (.int .i64 x7)) (h8 : w.cell? ⟨b, o + 8, none⟩ = some (.int .i64 x8)) : w'.cell? ⟨b, o, none⟩ = some (.int .i64 x1) ∧ w'.cell? ⟨b, o + 1, none⟩ = some (.int .i64 x2) ∧ w'.cell? ⟨b, o + 2, none⟩ = some (.slice xA xn xc) ∧ w'.cell? ⟨b, o + 3, none⟩ = some (.int .i64 x3) ∧ w'.cell? ⟨b, o + 4, none⟩ = some (.int .i64 x4) ∧ w'.cell? ⟨b, o + 5, none⟩ = some (.int .i64 x5) ∧ w'.cell? ⟨b, o + 6, none⟩ = some (.int .i64 x6) ∧ w'.cell? ⟨b, o + 7, none⟩ = some (.int .i64 x7) ∧ w'.cell? ⟨b, o + 8, none⟩ = some (.int .i64 x8) := ⟨(World.cell?_of_block (a := ⟨b, o, none⟩) h).trans h0, (World.cell?_of_block (a := ⟨b, o + 1, none⟩) h).trans h1, (World.cell?_of_block (a := ⟨b, o + 2, none⟩) h).trans h2, (World.cell?_of_block (a := ⟨b, o + 3, none⟩) h).trans h3, (World.cell?_of_block (a := ⟨b, o + 4, none⟩) h).trans h4, (World.cell?_of_block (a := ⟨b, o + 5, none⟩) h).trans h5, (World.cell?_of_block (a := ⟨b, o + 6, none⟩) h).trans h6, (World.cell?_of_block (a := ⟨b, o + 7, none⟩) h).trans h7, (World.cell?_of_block (a := ⟨b, o + 8, none⟩) h).trans h8⟩
set_option maxRecDepth 1000000 in
set_option maxHeartbeats 32000000 in
theorem refMerge_any (v : Value) (ls : List LVP) (w : World) (hv : RdLL w (· < w.heap.size) v ls) (hn : (allP ls).length ≤ 1000000) :
    Calls Try.prog 11 #[v] w (MergeOut (xss ls) w) := by
  obtain ⟨A, c, rfl, hc1, hc2, hc3⟩ := hv.1.open_
  unfold maxLen at hc2
  have HVS := Lib.hid hv
  have HNN := Lib.hid hn
  obtain ⟨i0, hi, hz0, hz1, hz2⟩ := info_parts infoVer
  have HI := Lib.hid hi
  have HZ0 := Lib.hid hz0
  have HZ1 := Lib.hid hz1
  have HZ2 := Lib.hid hz2
  clear hv hn hi hz0 hz1 hz2
  go_enter Try.func11, Try.ntmps11
  go_wp2_with fail
  go_loopw [16] (fun i wr => ∃ k : Nat, i = .int .i64 (k : Int) ∧ k ≤ ls.length ∧ Hid (mchk ((xss ls).drop k) = mchk (xss ls)) ∧ Below w.heap.size w wr) (fun i _ => ls.length - (intOf i).toNat)
  case atStart => exact ⟨0, rfl, Nat.zero_le _, Lib.hid rfl, Below.refl _ _⟩
  case round =>
    obtain ⟨k, rfl, hk, HIK, hB⟩ := hrel
    obtain ⟨wo, rfl⟩ : ∃ wo : World, wo = wr := ⟨_, rfl⟩
    have hsz := hB.size
    by_cases hlt : k < ls.length
    case pos =>
      obtain ⟨b, off, rfl, hF, hcl0, hx0⟩ := RdLL.at_ (HVS.out.below hB) hlt
      have hst0 := mchk_step hlt
      rw [HIK.out] at hst0
      have HST0 := Lib.hid hst0
      clear hst0
      generalize ls[k] = pp at *
      obtain ⟨pv, ps⟩ := pp
      simp only at hcl0 hx0 HST0
      obtain ⟨Ap, cp, rfl, y1, y2, y3⟩ := hx0.1.open_
      unfold maxLen at y2
      have HVP := Lib.hid hx0
      obtain ⟨res, hres⟩ : ∃ res, res = chkFrom none (ps.map (·.2)) := ⟨_, rfl⟩
      rw [← hres] at HST0
      have HRES := Lib.hid hres
      clear hres hx0 y3
      go_wp2_with fail
      go_loopw [22] (fun i wr => ∃ j : Nat, i = .int .i64 (j : Int) ∧ j ≤ ps.length ∧ Hid (chkFrom (prevV (ps.map (·.2)) j) ((ps.map (·.2)).drop j) = res) ∧ Below wo.heap.size wo wr) (fun i _ => ps.length - (intOf i).toNat)
      case atStart => exact ⟨0, rfl, Nat.zero_le _, Lib.hid HRES.out.symm, Below.refl _ _⟩
      case round =>
        obtain ⟨j, rfl, hj, HJ, hBi⟩ := hrel
        obtain ⟨wi, rfl⟩ : ∃ wi : World, wi = wr := ⟨_, rfl⟩
        have hsi := hBi.size
        by_cases hltj : j < ps.length
        case neg =>
          have hje : j = ps.length := by omega
          have HZ : Hid (res = 0) := Lib.hid (by rw [← HJ.out]; exact chk_end (by rw [List.length_map]; exact hje))
          have HN : Hid (mchk ((xss ls).drop (k + 1)) = mchk (xss ls)) := Lib.hid (by rw [HST0.out]; exact (if_pos HZ.out).symm)
          go_wp2_with fail
          go_roundw
          case rel => exact ⟨k + 1, by go_num, by omega, HN, hB.trans (hBi.mono hsz)⟩
          case measure => simp [intOf]; omega
        case pos =>
          obtain ⟨b2, off2, rfl, hF2, hcl, hx⟩ := RdVs.at_ (HVP.out.below hBi) hltj
          have hst := chk_step (xs := ps.map (·.2)) (k := j) (by rw [List.length_map]; exact hltj)
          rw [HJ.out, List.getElem_map] at hst
          have hpv : 0 < j → ∃ q : VP, prevV (ps.map (·.2)) j = some q.2 ∧ VerIs wi (· < wi.heap.size) q.1 q.2 ∧ ∀ t u, t < 9 → q.1.enc[t]? = some u → wi.cell? ⟨b2, off2 + (j - 1) * 9 + t, none⟩ = some u := fun h0 => by
            obtain ⟨b', off', e, _, hcl', hx'⟩ := RdVs.at_ (HVP.out.below hBi) (k := j - 1) (by omega)
            injection e with e; injection e with e1 e2; subst e1; subst e2
            refine ⟨ps[j - 1], ?_, hx', hcl'⟩
            unfold prevV
            rw [if_neg (by omega), List.getElem?_map, List.getElem?_eq_getElem (by omega)]; rfl
          have HPV := Lib.hid hpv
          have HST := Lib.hid hst
          have HERR : Hid (res ≠ 0 → mchk (xss ls) = res) := Lib.hid (fun h => by rw [HST0.out]; exact if_neg h)
          clear hst hpv
          generalize ps[j] = p at *
          obtain ⟨⟨x1, x2, xA, xn, xc, x3, x4, x5, x6, x7, x8⟩, x⟩ := p
          simp only at hcl hx HST
          have g0 : wi.cell? ⟨b2, off2 + j * 9, none⟩ = some (.int .i64 x1) := hcl 0 _ (by decide) rfl
          have g1 : wi.cell? ⟨b2, off2 + j * 9 + 1, none⟩ = some (.int .i64 x2) := hcl 1 _ (by decide) rfl
          have g2 : wi.cell? ⟨b2, off2 + j * 9 + 2, none⟩ = some (.slice xA xn xc) := hcl 2 _ (by decide) rfl
          have g3 : wi.cell? ⟨b2, off2 + j * 9 + 3, none⟩ = some (.int .i64 x3) := hcl 3 _ (by decide) rfl
          have g4 : wi.cell? ⟨b2, off2 + j * 9 + 4, none⟩ = some (.int .i64 x4) := hcl 4 _ (by decide) rfl
          have g5 : wi.cell? ⟨b2, off2 + j * 9 + 5, none⟩ = some (.int .i64 x5) := hcl 5 _ (by decide) rfl
          have g6 : wi.cell? ⟨b2, off2 + j * 9 + 6, none⟩ = some (.int .i64 x6) := hcl 6 _ (by decide) rfl
          have g7 : wi.cell? ⟨b2, off2 + j * 9 + 7, none⟩ = some (.int .i64 x7) := hcl 7 _ (by decide) rfl
          have g8 : wi.cell? ⟨b2, off2 + j * 9 + 8, none⟩ = some (.int .i64 x8) := hcl 8 _ (by decide) rfl
          have HX := Lib.hid hx
          clear hcl hx
          go_wp2_with fail
          obtain ⟨W1, hW1⟩ : ∃ W1, W1 = wi.alloc (.cells #[.int .i64 x1, .int .i64 x2, .slice xA xn xc, .int .i64 x3, .int .i64 x4, .int .i64 x5, .int .i64 x6, .int .i64 x7, .int .i64 x8] 38) := ⟨_, rfl⟩
          have hWs : W1.heap.size = wi.heap.size + 1 := by subst hW1; simp
          have hbW : Below wi.heap.size wi W1 := by subst hW1; exact Below.of_alloc _
          have hWh : W1.heap[wi.heap.size]? = some (.cells #[.int .i64 x1, .int .i64 x2, .slice xA xn xc, .int .i64 x3, .int .i64 x4, .int .i64 x5, .int .i64 x6, .int .i64 x7, .int .i64 x8] 38 (0, 0)) := by subst hW1; exact heap_alloc_new wi _
          rw [← hW1]
          clear hW1
          have HX1 : Hid (VerIs W1 (· < W1.heap.size) (⟨x1, x2, xA, xn, xc, x3, x4, x5, x6, x7, x8⟩ : RV) x) := Lib.hid ((HX.out.keep (Keeps.below hbW)).wide (fun b' (h : b' < wi.heap.size) => by show b' < W1.heap.size; omega))
          have KV : Calls Try.prog 19 #[.agg #[.int .i64 x1, .int .i64 x2, .slice xA xn xc, .int .i64 x3, .int .i64 x4, .int .i64 x5, .int .i64 x6, .int .i64 x7, .int .i64 x8]] W1 (fun e w' => e = .returned (.bool (validVer x)) ∧ Below W1.heap.size W1 w') := refVersion_any (⟨x1, x2, xA, xn, xc, x3, x4, x5, x6, x7, x8⟩ : RV) x W1 HX1.out
          (with_reducible refine KV.mono ?_)
          rintro _ w2 ⟨rfl, hb2⟩
          by_cases hval : validVer x = true
          case neg =>
            have HVL := Lib.hid (show validVer x = false by simpa using hval)
            have HR8 : Hid (res = 8) := Lib.hid (by rw [HST.out, if_neg (by rw [HVL.out]; decide)])
            rw [HVL.out]
            go_wp2_with fail
            go_ret2
            refine MergeOut.err (r := 8) rfl (hB.trans ((hBi.trans ((hbW.trans (hb2.mono (by omega))).mono hsi)).mono hsz)) ⟨fun _ => ⟨?_, rfl⟩, fun h => ?_⟩
            · rw [HERR.out (by rw [HR8.out]; decide), HR8.out]
            · rw [HERR.out (by rw [HR8.out]; decide), HR8.out] at h; exact absurd h (by decide)
          case pos =>
            have HVL := Lib.hid hval
            clear hval
            rw [HVL.out]
            have hB2 : Below wo.heap.size wo w2 := hBi.trans ((hbW.trans (hb2.mono (by omega))).mono hsi)
            have hWh2 : w2.heap[wi.heap.size]? = some (.cells #[.int .i64 x1, .int .i64 x2, .slice xA xn xc, .int .i64 x3, .int .i64 x4, .int .i64 x5, .int .i64 x6, .int .i64 x7, .int .i64 x8] 38 (0, 0)) := (hb2.block _ (by omega)).trans hWh
            have hbo : Below wi.heap.size wi w2 := hbW.trans (hb2.mono (by omega))
            have hs2 : wi.heap.size + 1 ≤ w2.heap.size := by have := hb2.size; omega
            have LB : Hid (∀ w', Below w2.heap.size w2 w' → ∀ j u, [.int .i64 x1, .int .i64 x2, .slice xA xn xc, .int .i64 x3, .int .i64 x4, .int .i64 x5, .int .i64 x6, .int .i64 x7, .int .i64 x8][j]? = some u → w'.cell? ⟨wi.heap.size, j, none⟩ = some u) := Lib.hid (fun w' h j u hj => (cell_of_row _ wi.heap.size j _ _ _ ((h.block _ (by omega)).trans hWh2)).trans (by simpa using hj))
            clear hWh hWh2 HX1 KV
            by_cases h0 : j = 0
            case pos =>
              subst h0
              have HN : Hid (res = chkFrom (prevV (ps.map (·.2)) (0 + 1)) ((ps.map (·.2)).drop (0 + 1))) := Lib.hid (by rw [HST.out, if_pos HVL.out]; exact if_pos rfl)
              go_wp2_with fail
              refine wp_region_noPanic ?_
              refine wp_region_held_drew (S := (fun w' => Below w2.heap.size w2 w')) (by kernel_rfl) ?_ (fun hHeld => ?_)
              · exact (Below.refl _ _).drew
              refine heldTake 0 (some 30) (v := ?_) rfl rfl (by kernel_rfl) (by kernel_rfl) (by kernel_rfl) (by rfl) hHeld (fun _ _ _ h => h) ?_ ?_
              rotate_left
              · intro w' hSw; (try dsimp only at hSw); go_simp <;> with_reducible rfl
              simp only [Act.put, List.setIfInBounds_toArray, List.set_cons_zero, List.set_cons_succ]
              refine heldTake 1 (some 31) (v := ?_) rfl rfl (by kernel_rfl) (by kernel_rfl) (by kernel_rfl) (by rfl) hHeld (fun _ _ _ h => h) ?_ ?_
              rotate_left
              · intro w' hSw; (try dsimp only at hSw); go_simp <;> with_reducible rfl
              simp only [Act.put, List.setIfInBounds_toArray, List.set_cons_zero, List.set_cons_succ]
              refine heldTake 2 (some 32) (v := ?_) rfl rfl (by kernel_rfl) (by kernel_rfl) (by kernel_rfl) (by rfl) hHeld (fun _ _ _ h => h) ?_ ?_
              rotate_left
              · intro w' hSw; (try dsimp only at hSw); go_simp <;> with_reducible rfl
              simp only [Act.put, List.setIfInBounds_toArray, List.set_cons_zero, List.set_cons_succ]
              refine heldSkip 3 (some 33) rfl rfl (by kernel_rfl) (by kernel_rfl) (by kernel_rfl) (by rfl) hHeld (fun _ _ _ h => h) ?_
              simp only [Act.put, List.setIfInBounds_toArray, List.set_cons_zero, List.set_cons_succ]
              refine heldSkip 4 (some 34) rfl rfl (by kernel_rfl) (by kernel_rfl) (by kernel_rfl) (by rfl) hHeld (fun _ _ _ h => h) ?_
              simp only [Act.put, List.setIfInBounds_toArray, List.set_cons_zero, List.set_cons_succ]
              refine heldSkip 5 (some 35) rfl rfl (by kernel_rfl) (by kernel_rfl) (by kernel_rfl) (by rfl) hHeld (fun _ _ _ h => h) ?_
              simp only [Act.put, List.setIfInBounds_toArray, List.set_cons_zero, List.set_cons_succ]
              refine heldSkip 6 (some 36) rfl rfl (by kernel_rfl) (by kernel_rfl) (by kernel_rfl) (by rfl) hHeld (fun _ _ _ h => h) ?_
              simp only [Act.put, List.setIfInBounds_toArray, List.set_cons_zero, List.set_cons_succ]
              refine heldSkip 7 (some 37) rfl rfl (by kernel_rfl) (by kernel_rfl) (by kernel_rfl) (by rfl) hHeld (fun _ _ _ h => h) ?_
              simp only [Act.put, List.setIfInBounds_toArray, List.set_cons_zero, List.set_cons_succ]
              refine heldSkip 8 (some 38) rfl rfl (by kernel_rfl) (by kernel_rfl) (by kernel_rfl) (by rfl) hHeld (fun _ _ _ h => h) ?_
              simp only [Act.put, List.setIfInBounds_toArray, List.set_cons_zero, List.set_cons_succ]
              refine heldSkip 9 (some 39) rfl rfl (by kernel_rfl) (by kernel_rfl) (by kernel_rfl) (by rfl) hHeld (fun _ _ _ h => h) ?_
              simp only [Act.put, List.setIfInBounds_toArray, List.set_cons_zero, List.set_cons_succ]
              refine heldSkip 10 (some 40) rfl rfl (by kernel_rfl) (by kernel_rfl) (by kernel_rfl) (by rfl) hHeld (fun _ _ _ h => h) ?_
              simp only [Act.put, List.setIfInBounds_toArray, List.set_cons_zero, List.set_cons_succ]
              refine heldTake 11 (some 41) (v := ?_) rfl rfl (by kernel_rfl) (by kernel_rfl) (by kernel_rfl) (by rfl) hHeld (fun _ _ _ h => h) ?_ ?_
              rotate_left
              · intro w' hSw; (try dsimp only at hSw); go_simp <;> with_reducible rfl
              simp only [Act.put, List.setIfInBounds_toArray, List.set_cons_zero, List.set_cons_succ]
              refine wpAnyH_done (by kernel_rfl) ?_ _
              refine NoPanic.normal ?_
              clear hHeld
              go_wp2_with fail
              go_roundw
              case rel => exact ⟨1, rfl, by omega, Lib.hid HN.out.symm, hB2.drew⟩
              case measure => simp [intOf]; omega
            case neg =>
              obtain ⟨q, hq1, hq2, hq3⟩ := HPV.out (by omega)
              obtain ⟨i, rfl⟩ : ∃ i, j = i + 1 := ⟨j - 1, by omega⟩
              rw [Nat.add_sub_cancel] at hq3
              obtain ⟨⟨y1, y2, yA, yn, yc, y3, y4, y5, y6, y7, y8⟩, y⟩ := q
              simp only at hq1 hq2 hq3
              have HST2 := HST.out
              rw [if_pos HVL.out, hq1] at HST2
              have eo : okPrev (some y) x = ltV y x := rfl
              rw [eo] at HST2
              have hlv := hq2.lt HX.out
              obtain ⟨lb, hlb⟩ : ∃ lb, lb = ltV y x := ⟨_, rfl⟩
              rw [← hlb] at hlv HST2
              have HS2 := Lib.hid HST2
              clear HST2 hq1 hlb HPV eo
              have PC : Hid (∀ w', Below w2.heap.size w2 w' → ∀ j u, j < 9 → [.int .i64 y1, .int .i64 y2, .slice yA yn yc, .int .i64 y3, .int .i64 y4, .int .i64 y5, .int .i64 y6, .int .i64 y7, .int .i64 y8][j]? = some u → w'.cell? ⟨b2, off2 + i * 9 + j, none⟩ = some u) := Lib.hid (fun w' h j u hj hu => (World.cell?_of_block ((h.block b2 (by omega)).trans (hbo.block b2 (by omega)))).trans (hq3 j u hj hu))
              clear hq3 hq2
              have ew : IntKind.i64.wrap (((i + 1 : Nat) : Int) - 1) = ((i : Nat) : Int) := by rw [IntKind.wrap_i64]; omega
              have hil : (i : Int) < (ps.length : Int) := by omega
              have hip : (0 : Int) < ((i + 1 : Nat) : Int) := by omega
              have KC : ∀ W, Calls Try.prog 20 #[.agg #[.int .i64 y1, .int .i64 y2, .slice yA yn yc, .int .i64 y3, .int .i64 y4, .int .i64 y5, .int .i64 y6, .int .i64 y7, .int .i64 y8], .agg #[.int .i64 x1, .int .i64 x2, .slice xA xn xc, .int .i64 x3, .int .i64 x4, .int .i64 x5, .int .i64 x6, .int .i64 x7, .int .i64 x8]] W fun e w' => e = .returned (.bool lb) ∧ Below W.heap.size W w' := fun W => by rw [← hlv]; exact before_any (⟨y1, y2, yA, yn, yc, y3, y4, y5, y6, y7, y8⟩ : RV) (⟨x1, x2, xA, xn, xc, x3, x4, x5, x6, x7, x8⟩ : RV) W
              clear hlv
              obtain ⟨z, hz⟩ : ∃ z, z = i + 1 := ⟨_, rfl⟩
              have HZ := Lib.hid hz
              rw [← hz] at ew hip hltj HS2 HJ ⊢
              have hz0 : 0 < z := by omega
              have HLT := Lib.hid (And.intro hltj (show i + 1 ≤ ps.length from hj))
              clear hz
              go_wp2_with fail
              refine wp_region_noPanic ?_
              refine wp_region_held_drew (S := (fun w' => Below w2.heap.size w2 w')) (by kernel_rfl) ?_ (fun hHeld => ?_)
              · exact (Below.refl _ _).drew
              refine heldTake 0 (some 30) (v := ?_) rfl rfl (by kernel_rfl) (by kernel_rfl) (by kernel_rfl) (by rfl) hHeld (fun _ _ _ h => h) ?_ ?_
              rotate_left
              · intro w' hSw; (try dsimp only at hSw); go_simp <;> with_reducible rfl
              simp only [Act.put, List.setIfInBounds_toArray, List.set_cons_zero, List.set_cons_succ]
              refine heldTake 1 (some 31) (v := ?_) rfl rfl (by kernel_rfl) (by kernel_rfl) (by kernel_rfl) (by rfl) hHeld (fun _ _ _ h => h) ?_ ?_
              rotate_left
              · intro w' hSw; (try dsimp only at hSw); go_simp <;> with_reducible rfl
              simp only [Act.put, List.setIfInBounds_toArray, List.set_cons_zero, List.set_cons_succ]
              refine heldTake 2 (some 32) (v := ?_) rfl rfl (by kernel_rfl) (by kernel_rfl) (by kernel_rfl) (by rfl) hHeld (fun _ _ _ h => h) ?_ ?_
              rotate_left
              · intro w' hSw; (try dsimp only at hSw); go_simp <;> with_reducible rfl
              simp only [Act.put, List.setIfInBounds_toArray, List.set_cons_zero, List.set_cons_succ]
              refine heldTake 3 (some 33) (v := ?_) rfl rfl (by kernel_rfl) (by kernel_rfl) (by kernel_rfl) (by rfl) hHeld (fun _ _ _ h => h) ?_ ?_
              rotate_left
              · intro w' hSw; (try dsimp only at hSw); go_simp <;> with_reducible rfl
              simp only [Act.put, List.setIfInBounds_toArray, List.set_cons_zero, List.set_cons_succ]
              refine heldTake 4 (some 34) (v := ?_) rfl rfl (by kernel_rfl) (by kernel_rfl) (by kernel_rfl) (by rfl) hHeld (fun _ _ _ h => h) ?_ ?_
              rotate_left
              · intro w' hSw; (try dsimp only at hSw); go_simp <;> with_reducible rfl
              simp only [Act.put, List.setIfInBounds_toArray, List.set_cons_zero, List.set_cons_succ]
              refine heldTake 5 (some 35) (v := ?_) rfl rfl (by kernel_rfl) (by kernel_rfl) (by kernel_rfl) (by rfl) hHeld (fun _ _ _ h => h) ?_ ?_
              rotate_left
              · intro w' hSw; (try dsimp only at hSw); go_simp <;> with_reducible rfl
              simp only [Act.put, List.setIfInBounds_toArray, List.set_cons_zero, List.set_cons_succ]
              refine heldTake 6 (some 36) (v := ?_) rfl rfl (by kernel_rfl) (by kernel_rfl) (by kernel_rfl) (by rfl) hHeld (fun _ _ _ h => h) ?_ ?_
              rotate_left
              · intro w' hSw; (try dsimp only at hSw); go_simp <;> with_reducible rfl
              simp only [Act.put, List.setIfInBounds_toArray, List.set_cons_zero, List.set_cons_succ]
              refine heldTake 7 (some 37) (v := ?_) rfl rfl (by kernel_rfl) (by kernel_rfl) (by kernel_rfl) (by rfl) hHeld (fun _ _ _ h => h) ?_ ?_
              rotate_left
              · intro w' hSw; (try dsimp only at hSw); have c0 : w'.cell? ⟨b2, off2 + i * 9, none⟩ = some (.int .i64 y1) := PC.out w' hSw 0 _ (by decide) rfl; have c1 : w'.cell? ⟨b2, off2 + i * 9 + 1, none⟩ = some (.int .i64 y2) := PC.out w' hSw 1 _ (by decide) rfl; have c2 : w'.cell? ⟨b2, off2 + i * 9 + 2, none⟩ = some (.slice yA yn yc) := PC.out w' hSw 2 _ (by decide) rfl; have c3 : w'.cell? ⟨b2, off2 + i * 9 + 3, none⟩ = some (.int .i64 y3) := PC.out w' hSw 3 _ (by decide) rfl; have c4 : w'.cell? ⟨b2, off2 + i * 9 + 4, none⟩ = some (.int .i64 y4) := PC.out w' hSw 4 _ (by decide) rfl; have c5 : w'.cell? ⟨b2, off2 + i * 9 + 5, none⟩ = some (.int .i64 y5) := PC.out w' hSw 5 _ (by decide) rfl; have c6 : w'.cell? ⟨b2, off2 + i * 9 + 6, none⟩ = some (.int .i64 y6) := PC.out w' hSw 6 _ (by decide) rfl; have c7 : w'.cell? ⟨b2, off2 + i * 9 + 7, none⟩ = some (.int .i64 y7) := PC.out w' hSw 7 _ (by decide) rfl; have c8 : w'.cell? ⟨b2, off2 + i * 9 + 8, none⟩ = some (.int .i64 y8) := PC.out w' hSw 8 _ (by decide) rfl; go_simp <;> with_reducible rfl
              simp only [Act.put, List.setIfInBounds_toArray, List.set_cons_zero, List.set_cons_succ]
              refine heldTake 8 (some 38) (v := ?_) rfl rfl (by kernel_rfl) (by kernel_rfl) (by kernel_rfl) (by rfl) hHeld (fun _ _ _ h => h) ?_ ?_
              rotate_left
              · intro w' hSw; (try dsimp only at hSw); have c0 : w'.cell? ⟨wi.heap.size, 0, none⟩ = some (.int .i64 x1) := LB.out w' hSw 0 _ rfl; have c1 : w'.cell? ⟨wi.heap.size, 1, none⟩ = some (.int .i64 x2) := LB.out w' hSw 1 _ rfl; have c2 : w'.cell? ⟨wi.heap.size, 2, none⟩ = some (.slice xA xn xc) := LB.out w' hSw 2 _ rfl; have c3 : w'.cell? ⟨wi.heap.size, 3, none⟩ = some (.int .i64 x3) := LB.out w' hSw 3 _ rfl; have c4 : w'.cell? ⟨wi.heap.size, 4, none⟩ = some (.int .i64 x4) := LB.out w' hSw 4 _ rfl; have c5 : w'.cell? ⟨wi.heap.size, 5, none⟩ = some (.int .i64 x5) := LB.out w' hSw 5 _ rfl; have c6 : w'.cell? ⟨wi.heap.size, 6, none⟩ = some (.int .i64 x6) := LB.out w' hSw 6 _ rfl; have c7 : w'.cell? ⟨wi.heap.size, 7, none⟩ = some (.int .i64 x7) := LB.out w' hSw 7 _ rfl; have c8 : w'.cell? ⟨wi.heap.size, 8, none⟩ = some (.int .i64 x8) := LB.out w' hSw 8 _ rfl; go_simp <;> with_reducible rfl
              simp only [Act.put, List.setIfInBounds_toArray, List.set_cons_zero, List.set_cons_succ]
              refine heldCall 9 (some 39) (f := ?_) (args := ?_) rfl rfl (by kernel_rfl) (by rfl) ?_ ?_
              rotate_left 2
              · go_simp <;> first | (constructor <;> with_reducible rfl) | with_reducible rfl
              (with_reducible refine (KC _).mono ?_)
              rintro _ w3 ⟨rfl, hb3'⟩
              have hb3 : Below w2.heap.size w2 w3 := (Below.undrew hb3')
              refine ⟨_, rfl, keepAnd ?_ (fun hNew => ?_)⟩
              · exact hb3
              clear hHeld
              have hHeld := hNew
              clear hNew
              simp only [Act.put, List.setIfInBounds_toArray, List.set_cons_zero, List.set_cons_succ]
              refine heldTake 10 (some 40) (v := ?_) rfl rfl (by kernel_rfl) (by kernel_rfl) (by kernel_rfl) (by rfl) hHeld (fun _ _ _ h => h) ?_ ?_
              rotate_left
              · intro w' hSw; (try dsimp only at hSw); go_simp <;> with_reducible rfl
              simp only [Act.put, List.setIfInBounds_toArray, List.set_cons_zero, List.set_cons_succ]
              refine heldTake 11 (some 41) (v := ?_) rfl rfl (by kernel_rfl) (by kernel_rfl) (by kernel_rfl) (by rfl) hHeld (fun _ _ _ h => h) ?_ ?_
              rotate_left
              · intro w' hSw; (try dsimp only at hSw); go_simp <;> with_reducible rfl
              simp only [Act.put, List.setIfInBounds_toArray, List.set_cons_zero, List.set_cons_succ]
              refine wpAnyH_done (by kernel_rfl) ?_ _
              refine NoPanic.normal ?_
              clear hHeld
              have hB3 : Below wo.heap.size wo w3 := hB2.trans (hb3.mono (by have := hB2.size; omega))
              cases lb
              case false =>
                have HN : Hid (res = 9) := Lib.hid (by rw [HS2.out]; exact if_neg (by decide))
                go_wp2_with fail
                go_ret2
                refine MergeOut.err (r := 9) rfl (hB.trans (hB3.mono hsz)) ⟨fun _ => ⟨?_, rfl⟩, fun h => ?_⟩
                · rw [HERR.out (by rw [HN.out]; decide), HN.out]
                · rw [HERR.out (by rw [HN.out]; decide), HN.out] at h; exact absurd h (by decide)
              case true =>
                have HN : Hid (res = chkFrom (prevV (ps.map (·.2)) (z + 1)) ((ps.map (·.2)).drop (z + 1))) := Lib.hid (by rw [HS2.out]; exact if_pos rfl)
                go_wp2_with fail
                go_roundw
                case rel => exact ⟨z + 1, by go_num, by have := HLT.out.1; omega, Lib.hid HN.out.symm, hB3⟩
                case measure => have q1 := HLT.out.1; have q2 := HZ.out; simp [intOf]; omega
    case neg =>
      have hke : k = ls.length := by omega
      have H0 : Hid (mchk (xss ls) = 0) := Lib.hid (by rw [← HIK.out]; exact mchk_end hke)
      have hva : ∀ W, Below w.heap.size w W → ∀ p ∈ allP ls, VerIs W (· < w.heap.size) p.1 p.2 := fun W hW p hp => by
        obtain ⟨q, hq, hpq⟩ := List.mem_flatMap.1 hp
        exact ((HVS.out.2 q hq).2 p hpq).keep (Keeps.below hW)
      have HVA := Lib.hid hva
      have HFL := Lib.hid (xss_flat ls)
      clear HIK hke hva
      go_wp2_with fail
      clear hlt hk
      go_loopw [8, 46] (fun o i wr => ∃ (k : Nat) (Q : List VP), i = .int .i64 (k : Int) ∧ k ≤ ls.length ∧ Hid (OwnP wr w.heap.size o Q) ∧ Hid (Q.Perm (allP (ls.take k))) ∧ Hid ((Q.map (·.2)).Pairwise ltVP) ∧ Below w.heap.size w wr) (fun _ i _ => ls.length - (intOf i).toNat)
      case atStart => exact ⟨0, [], rfl, Nat.zero_le _, Lib.hid (World.ownsRow_nil _ _ _ _), Lib.hid (by simp [allP]), Lib.hid List.Pairwise.nil, hB⟩
      case round =>
        obtain ⟨k, Q, rfl, hk, HO, HP, HS, hB⟩ := hrel
        obtain ⟨wp, rfl⟩ : ∃ wp : World, wp = wr := ⟨_, rfl⟩
        have hsp := hB.size
        by_cases hlt : k < ls.length
        case neg =>
          have hke : k = ls.length := by omega
          go_wp2_with fail
          go_ret2
          have hp := HP.out
          rw [hke, List.take_of_length_le (Nat.le_refl _)] at hp
          refine ⟨_, 0, Q, rfl, hB, ⟨(Rd.of_own HO.out).wide (fun b hb => hb.2), fun p hpm => (HVA.out wp hB p (hp.subset hpm)).wide (fun b (hb : b < w.heap.size) => by show b < wp.heap.size; omega)⟩, fun h => absurd H0.out h, fun _ => .inl ⟨rfl, ?_, HS.out⟩⟩
          rw [HFL.out]; exact hp.map _
        case pos =>
          obtain ⟨b, off, rfl, hF, hcl0, hx0⟩ := RdLL.at_ (HVS.out.below hB) hlt
          have hsplit := fun j (hj : j < ls[k].2.length) => all_split hlt hj
          have hsnoc := allP_snoc hlt
          have hmem := HVS.out.2 _ (List.getElem_mem hlt)
          generalize ls[k] = pp at *
          obtain ⟨pv, ps⟩ := pp
          simp only at hcl0 hx0 hsplit hsnoc hmem
          obtain ⟨Ap, cp, rfl, y1, y2, y3⟩ := hx0.1.open_
          unfold maxLen at y2
          have HVP := Lib.hid hmem
          have HSPL := Lib.hid hsplit
          have HSNO := Lib.hid hsnoc
          clear hx0 y3 hsplit hsnoc hmem
          go_wp2_with fail
          go_loopw [8, 52] (fun o i wr => ∃ (j : Nat) (Q : List VP), i = .int .i64 (j : Int) ∧ j ≤ ps.length ∧ Hid (OwnP wr w.heap.size o Q) ∧ Hid (Q.Perm (allP (ls.take k) ++ ps.take j)) ∧ Hid ((Q.map (·.2)).Pairwise ltVP) ∧ Below w.heap.size w wr) (fun _ i _ => ps.length - (intOf i).toNat)
          case atStart => exact ⟨0, Q, rfl, Nat.zero_le _, HO, Lib.hid (by simpa using HP.out), HS, hB⟩
          case round =>
            clear HO HP HS Q
            obtain ⟨j, Q, rfl, hj, HO, HP, HS, hBi⟩ := hrel
            obtain ⟨wi, rfl⟩ : ∃ wi : World, wi = wr := ⟨_, rfl⟩
            have hsi := hBi.size
            by_cases hltj : j < ps.length
            case neg =>
              have hje : j = ps.length := by omega
              go_wp2_with fail
              go_roundw
              case rel => exact ⟨k + 1, Q, by go_num, by omega, HO, Lib.hid (by rw [HSNO.out]; have := HP.out; rwa [hje, List.take_of_length_le (Nat.le_refl _)] at this), HS, hBi⟩
              case measure => simp [intOf]; omega
            case pos =>
              obtain ⟨b2, off2, rfl, hF2, hcl, hx⟩ := RdVs.at_ (HVP.out.keep (Keeps.below hBi)) hltj
              obtain ⟨rest, hall⟩ := HSPL.out j hltj
              have htk := List.take_succ_eq_append_getElem hltj
              have hQl : Q.length < 1000000 := by
                have h1 := HP.out.length_eq
                have h2 := congrArg List.length hall
                have h3 := HNN.out
                simp only [List.length_append, List.length_cons] at h1 h2
                omega
              have HLTJ := Lib.hid hltj
              generalize ps[j] = p at *
              obtain ⟨⟨x1, x2, xA, xn, xc, x3, x4, x5, x6, x7, x8⟩, x⟩ := p
              have HALL := Lib.hid hall
              have HTK := Lib.hid htk
              have HVER := fun W (hW : Below w.heap.size w W) => HVA.out W hW (((⟨x1, x2, xA, xn, xc, x3, x4, x5, x6, x7, x8⟩ : RV), x) : VP) (by rw [hall]; simp)
              clear hall htk
              simp only at hcl hx
              have g0 : wi.cell? ⟨b2, off2 + j * 9, none⟩ = some (.int .i64 x1) := hcl 0 _ (by decide) rfl
              have g1 : wi.cell? ⟨b2, off2 + j * 9 + 1, none⟩ = some (.int .i64 x2) := hcl 1 _ (by decide) rfl
              have g2 : wi.cell? ⟨b2, off2 + j * 9 + 2, none⟩ = some (.slice xA xn xc) := hcl 2 _ (by decide) rfl
              have g3 : wi.cell? ⟨b2, off2 + j * 9 + 3, none⟩ = some (.int .i64 x3) := hcl 3 _ (by decide) rfl
              have g4 : wi.cell? ⟨b2, off2 + j * 9 + 4, none⟩ = some (.int .i64 x4) := hcl 4 _ (by decide) rfl
              have g5 : wi.cell? ⟨b2, off2 + j * 9 + 5, none⟩ = some (.int .i64 x5) := hcl 5 _ (by decide) rfl
              have g6 : wi.cell? ⟨b2, off2 + j * 9 + 6, none⟩ = some (.int .i64 x6) := hcl 6 _ (by decide) rfl
              have g7 : wi.cell? ⟨b2, off2 + j * 9 + 7, none⟩ = some (.int .i64 x7) := hcl 7 _ (by decide) rfl
              have g8 : wi.cell? ⟨b2, off2 + j * 9 + 8, none⟩ = some (.int .i64 x8) := hcl 8 _ (by decide) rfl
              have HX := Lib.hid hx
              obtain ⟨Ao, co, rfl, o1, o2, o3⟩ := Rd.open_ (Rd.of_own HO.out)
              have hbA : Below wi.heap.size wi ((wi.alloc (.cells #[.int .i64 x1, .int .i64 x2, .slice xA xn xc, .int .i64 x3, .int .i64 x4, .int .i64 x5, .int .i64 x6, .int .i64 x7, .int .i64 x8] 38)).alloc (.cells #[.int .i64 x1, .int .i64 x2, .slice xA xn xc, .int .i64 x3, .int .i64 x4, .int .i64 x5, .int .i64 x6, .int .i64 x7, .int .i64 x8] 38)) := (Below.of_alloc _).alloc (by simp) _
              have HOA : Hid (OwnP ((wi.alloc (.cells #[.int .i64 x1, .int .i64 x2, .slice xA xn xc, .int .i64 x3, .int .i64 x4, .int .i64 x5, .int .i64 x6, .int .i64 x7, .int .i64 x8] 38)).alloc (.cells #[.int .i64 x1, .int .i64 x2, .slice xA xn xc, .int .i64 x3, .int .i64 x4, .int .i64 x5, .int .i64 x6, .int .i64 x7, .int .i64 x8] 38)) w.heap.size (.slice Ao Q.length co) Q) := Lib.hid (HO.out.keep hbA)
              have hnew : Rd ((wi.alloc (.cells #[.int .i64 x1, .int .i64 x2, .slice xA xn xc, .int .i64 x3, .int .i64 x4, .int .i64 x5, .int .i64 x6, .int .i64 x7, .int .i64 x8] 38)).alloc (.cells #[.int .i64 x1, .int .i64 x2, .slice xA xn xc, .int .i64 x3, .int .i64 x4, .int .i64 x5, .int .i64 x6, .int .i64 x7, .int .i64 x8] 38)) (· = wi.heap.size + 1) 9 (.slice (some ⟨wi.heap.size + 1, 0, none⟩) 1 1) 1 [.int .i64 x1, .int .i64 x2, .slice xA xn xc, .int .i64 x3, .int .i64 x4, .int .i64 x5, .int .i64 x6, .int .i64 x7, .int .i64 x8] := Rd.new' (wi.alloc (.cells #[.int .i64 x1, .int .i64 x2, .slice xA xn xc, .int .i64 x3, .int .i64 x4, .int .i64 x5, .int .i64 x6, .int .i64 x7, .int .i64 x8] 38)) (wi.heap.size + 1) (by simp) [.int .i64 x1, .int .i64 x2, .slice xA xn xc, .int .i64 x3, .int .i64 x4, .int .i64 x5, .int .i64 x6, .int .i64 x7, .int .i64 x8] 38 9 1 rfl (by decide)
              have hne := own_ne_new HO.out
              have hbox : ((wi.alloc (.cells #[.int .i64 x1, .int .i64 x2, .slice xA xn xc, .int .i64 x3, .int .i64 x4, .int .i64 x5, .int .i64 x6, .int .i64 x7, .int .i64 x8] 38)).alloc (.cells #[.int .i64 x1, .int .i64 x2, .slice xA xn xc, .int .i64 x3, .int .i64 x4, .int .i64 x5, .int .i64 x6, .int .i64 x7, .int .i64 x8] 38)).heap[wi.heap.size]? = some (.cells #[.int .i64 x1, .int .i64 x2, .slice xA xn xc, .int .i64 x3, .int .i64 x4, .int .i64 x5, .int .i64 x6, .int .i64 x7, .int .i64 x8] 38 (0, 0)) := (Below.heap_alloc _ _ _ (by simp)).trans (heap_alloc_new wi _)
              have HNEW := Lib.hid hnew
              have HBOX := Lib.hid hbox
              have HBA := Lib.hid hbA
              have HNE := Lib.hid hne
              clear hcl hx o3 o2 hnew hbox hbA hne
              go_wp2_with (at_builtin; refine wpList_append_app ((wi.alloc (.cells #[.int .i64 x1, .int .i64 x2, .slice xA xn xc, .int .i64 x3, .int .i64 x4, .int .i64 x5, .int .i64 x6, .int .i64 x7, .int .i64 x8] 38)).alloc (.cells #[.int .i64 x1, .int .i64 x2, .slice xA xn xc, .int .i64 x3, .int .i64 x4, .int .i64 x5, .int .i64 x6, .int .i64 x7, .int .i64 x8] 38)) rfl (.tmp 58) (.tmp 60) 29 rfl w.heap.size 38 i0 _ 9 88 Try.underlying29 HI.out HZ0.out HZ1.out HZ2.out rfl (by omega) (.slice Ao Q.length co) Q.length (cellsP Q) rfl (.inl HOA.out) (· = wi.heap.size + 1) _ 1 [.int .i64 x1, .int .i64 x2, .slice xA xn xc, .int .i64 x3, .int .i64 x4, .int .i64 x5, .int .i64 x6, .int .i64 x7, .int .i64 x8] rfl HNEW.out ((⟨x1, x2, xA, xn, xc, x3, x4, x5, x6, x7, x8⟩ : RV).enc_one) (by unfold maxLen; omega) (by omega) (by simp; omega) ?_; intro v3 w3 _ hO3 hg3 hb3 hv3)
              all_goals skip
              have hO3' : OwnP w3 w.heap.size v3 (Q ++ [(((⟨x1, x2, xA, xn, xc, x3, x4, x5, x6, x7, x8⟩ : RV), x) : VP)]) := by
                have h := hO3 (.inl (by omega))
                unfold OwnP
                rw [List.length_append, cellsP_append]
                exact h
              rcases hO3'.2 with ⟨_, hq0⟩ | ⟨g, cap, cur, rfl, hBg, hg, hnc, hcm, _, _⟩
              case inl => simp at hq0
              case inr =>
                rw [List.length_append] at hnc
                have el : (Q ++ [(((⟨x1, x2, xA, xn, xc, x3, x4, x5, x6, x7, x8⟩ : RV), x) : VP)]).length = Q.length + 1 := by simp
                rw [el] at hO3' hv3 ⊢
                have HOQ := Lib.hid hO3'
                have hs3 : wi.heap.size + 2 ≤ w3.heap.size := by have := hg3.size; simp at this; exact this
                have hgw : g ≠ wi.heap.size := by
                  intro e
                  rcases hv3 with hv3 | hv3
                  · exact HNE.out (by rw [← hv3, ← e]; rfl)
                  · have : g = wi.heap.size + 2 := by have h := Option.some.inj hv3; simpa using h
                    omega
                have hgl3 : g < w3.heap.size := (Array.getElem?_eq_some_iff.1 hg).1
                have hbx3 : w3.heap[wi.heap.size]? = some (.cells #[.int .i64 x1, .int .i64 x2, .slice xA xn xc, .int .i64 x3, .int .i64 x4, .int .i64 x5, .int .i64 x6, .int .i64 x7, .int .i64 x8] 38 (0, 0)) := (hg3.block _ (by simp; omega) HNE.out).trans HBOX.out
                have hB3 : Below w.heap.size w w3 := (hBi.trans (HBA.out.mono hsi)).trans hb3
                have HBX3 := Lib.hid hbx3
                have HB3 := Lib.hid hB3
                have HG3 := Lib.hid hg3
                have HV3 := Lib.hid hv3
                clear hO3 hO3' hbx3 hB3 hg3 hb3 hv3 hg hcm
                go_wp2_with fail
                go_loopw [13] (fun vi wr => ∃ (i : Nat) (z : VP), vi = .int .i64 (i : Int) ∧ i ≤ Q.length ∧ Hid (OwnP wr w.heap.size (.slice (some ⟨g, 0, none⟩) (Q.length + 1) cap) (ins Q i z)) ∧ Hid (∀ q ∈ Q.drop i, ltVP x q.2) ∧ Chg (· = g) w3 wr) (fun vi _ => (intOf vi).toNat)
                case atStart => exact ⟨Q.length, (((⟨x1, x2, xA, xn, xc, x3, x4, x5, x6, x7, x8⟩ : RV), x) : VP), rfl, Nat.le_refl _, Lib.hid (by rw [ins_end]; exact HOQ.out), Lib.hid (by simp), Chg.refl _ _⟩
                case round =>
                  obtain ⟨i, z, rfl, hi, HOI, HD, hC⟩ := hrel
                  obtain ⟨wz, rfl⟩ : ∃ wz : World, wz = wr := ⟨_, rfl⟩
                  have hsz3 := hC.size
                  have hgz : g < wz.heap.size := by omega
                  have hbxz : wz.heap[wi.heap.size]? = some (.cells #[.int .i64 x1, .int .i64 x2, .slice xA xn xc, .int .i64 x3, .int .i64 x4, .int .i64 x5, .int .i64 x6, .int .i64 x7, .int .i64 x8] 38 (0, 0)) := (hC.block _ (by omega) (fun e => hgw e.symm)).trans HBX3.out
                  have HLB : Hid (∀ w', Below wz.heap.size wz w' → w'.cell? ⟨wi.heap.size, 0, none⟩ = some (.int .i64 x1) ∧ w'.cell? ⟨wi.heap.size, 1, none⟩ = some (.int .i64 x2) ∧ w'.cell? ⟨wi.heap.size, 2, none⟩ = some (.slice xA xn xc) ∧ w'.cell? ⟨wi.heap.size, 3, none⟩ = some (.int .i64 x3) ∧ w'.cell? ⟨wi.heap.size, 4, none⟩ = some (.int .i64 x4) ∧ w'.cell? ⟨wi.heap.size, 5, none⟩ = some (.int .i64 x5) ∧ w'.cell? ⟨wi.heap.size, 6, none⟩ = some (.int .i64 x6) ∧ w'.cell? ⟨wi.heap.size, 7, none⟩ = some (.int .i64 x7) ∧ w'.cell? ⟨wi.heap.size, 8, none⟩ = some (.int .i64 x8)) := Lib.hid (fun w' h => ⟨(cell_of_row _ wi.heap.size 0 _ _ _ ((h.block _ (by omega)).trans hbxz)).trans rfl, (cell_of_row _ wi.heap.size 1 _ _ _ ((h.block _ (by omega)).trans hbxz)).trans rfl, (cell_of_row _ wi.heap.size 2 _ _ _ ((h.block _ (by omega)).trans hbxz)).trans rfl, (cell_of_row _ wi.heap.size 3 _ _ _ ((h.block _ (by omega)).trans hbxz)).trans rfl, (cell_of_row _ wi.heap.size 4 _ _ _ ((h.block _ (by omega)).trans hbxz)).trans rfl, (cell_of_row _ wi.heap.size 5 _ _ _ ((h.block _ (by omega)).trans hbxz)).trans rfl, (cell_of_row _ wi.heap.size 6 _ _ _ ((h.block _ (by omega)).trans hbxz)).trans rfl, (cell_of_row _ wi.heap.size 7 _ _ _ ((h.block _ (by omega)).trans hbxz)).trans rfl, (cell_of_row _ wi.heap.size 8 _ _ _ ((h.block _ (by omega)).trans hbxz)).trans rfl⟩)
                  have hlen : (ins Q i z).length = Q.length + 1 := ins_length Q i z hi
                  have hrd : RdG wz g (ins Q i z) := own_rdG (by rw [hlen]; exact HOI.out)
                  have hzi : (ins Q i z)[i]? = some z := by unfold ins; rw [List.getElem?_append_right (by rw [List.length_take]; omega), List.length_take, show i - min i Q.length = 0 by omega]; rfl
                  have hil : i < (ins Q i z).length := by omega
                  have hzc : ∀ t u, t < 9 → z.1.enc[t]? = some u → wz.cell? ⟨g, i * 9 + t, none⟩ = some u ∧ wz.frozen? ⟨g, i * 9 + t, none⟩ = false := fun t u ht hu => hrd (i * 9 + t) u (by
                    rw [cellsP_get hil ht]
                    rw [List.getElem?_eq_getElem hil] at hzi
                    rw [Option.some.inj hzi]; exact hu)
                  obtain ⟨⟨m1, m2, mA, mn, mc, m3, m4, m5, m6, m7, m8⟩, mz⟩ := z
                  simp only at hzc
                  have d0 : wz.cell? ⟨g, i * 9, none⟩ = some (.int .i64 m1) := (hzc 0 _ (by decide) rfl).1
                  have f0 : wz.frozen? ⟨g, i * 9, none⟩ = false := (hzc 0 _ (by decide) rfl).2
                  have d1 : wz.cell? ⟨g, i * 9 + 1, none⟩ = some (.int .i64 m2) := (hzc 1 _ (by decide) rfl).1
                  have f1 : wz.frozen? ⟨g, i * 9 + 1, none⟩ = false := (hzc 1 _ (by decide) rfl).2
                  have d2 : wz.cell? ⟨g, i * 9 + 2, none⟩ = some (.slice mA mn mc) := (hzc 2 _ (by decide) rfl).1
                  have f2 : wz.frozen? ⟨g, i * 9 + 2, none⟩ = false := (hzc 2 _ (by decide) rfl).2
                  have d3 : wz.cell? ⟨g, i * 9 + 3, none⟩ = some (.int .i64 m3) := (hzc 3 _ (by decide) rfl).1
                  have f3 : wz.frozen? ⟨g, i * 9 + 3, none⟩ = false := (hzc 3 _ (by decide) rfl).2
                  have d4 : wz.cell? ⟨g, i * 9 + 4, none⟩ = some (.int .i64 m4) := (hzc 4 _ (by decide) rfl).1
                  have f4 : wz.frozen? ⟨g, i * 9 + 4, none⟩ = false := (hzc 4 _ (by decide) rfl).2
                  have d5 : wz.cell? ⟨g, i * 9 + 5, none⟩ = some (.int .i64 m5) := (hzc 5 _ (by decide) rfl).1
                  have f5 : wz.frozen? ⟨g, i * 9 + 5, none⟩ = false := (hzc 5 _ (by decide) rfl).2
                  have d6 : wz.cell? ⟨g, i * 9 + 6, none⟩ = some (.int .i64 m6) := (hzc 6 _ (by decide) rfl).1
                  have f6 : wz.frozen? ⟨g, i * 9 + 6, none⟩ = false := (hzc 6 _ (by decide) rfl).2
                  have d7 : wz.cell? ⟨g, i * 9 + 7, none⟩ = some (.int .i64 m7) := (hzc 7 _ (by decide) rfl).1
                  have f7 : wz.frozen? ⟨g, i * 9 + 7, none⟩ = false := (hzc 7 _ (by decide) rfl).2
                  have d8 : wz.cell? ⟨g, i * 9 + 8, none⟩ = some (.int .i64 m8) := (hzc 8 _ (by decide) rfl).1
                  have f8 : wz.frozen? ⟨g, i * 9 + 8, none⟩ = false := (hzc 8 _ (by decide) rfl).2
                  have hput : ∀ W, Below wz.heap.size wz W → ∀ p : VP, ∀ c0 c1 c2 c3 c4 c5 c6 c7 c8, p.1.enc = [c0, c1, c2, c3, c4, c5, c6, c7, c8] → OwnP (put9 W g (i * 9) c0 c1 c2 c3 c4 c5 c6 c7 c8) w.heap.size (.slice (some ⟨g, 0, none⟩) (Q.length + 1) cap) (ins Q i p) := fun W hW p c0 c1 c2 c3 c4 c5 c6 c7 c8 he => by
                    have h1 := own_put9 (w := W) (by rw [hlen]; exact HOI.out.keep hW) hil p c0 c1 c2 c3 c4 c5 c6 c7 c8 he
                    rw [ins_set Q i _ p hi, hlen] at h1
                    exact h1
                  have HPUT := Lib.hid hput
                  have HI2 := Lib.hid hi
                  have hBz : Below w.heap.size w wz := HB3.out.trans (hC.below (by have := HB3.out.size; omega) (fun b hb => by subst hb; exact hBg))
                  have HBz := Lib.hid hBz
                  clear hput hzc hzi hbxz hBz
                  have hil5 : (i : Int) < ((Q.length + 1 : Nat) : Int) := by omega
                  have hil3 : (i : Int) < ((Q.length : Int) + 1) := by omega
                  have hil7 : i < Q.length + 1 := by omega
                  by_cases h0 : i = 0
                  case pos =>
                    have hnp : ¬ (0 : Int) < (i : Int) := by omega
                    have hnp2 : ¬ 0 < i := by omega
                    have H00 := Lib.hid h0
                    clear h0
                    go_wp2_with fail
                    refine wp_region_noPanic ?_
                    refine wp_region_held_drew (S := (fun w' => Below wz.heap.size wz w')) (by kernel_rfl) ?_ (fun hHeld => ?_)
                    · exact (Below.refl _ _).drew
                    refine heldTake 0 (some 62) (v := ?_) rfl rfl (by kernel_rfl) (by kernel_rfl) (by kernel_rfl) (by rfl) hHeld (fun _ _ _ h => h) ?_ ?_
                    rotate_left
                    · intro w' hSw; (try dsimp only at hSw); go_simp <;> with_reducible rfl
                    simp only [Act.put, List.setIfInBounds_toArray, List.set_cons_zero, List.set_cons_succ]
                    refine heldTake 1 (some 63) (v := ?_) rfl rfl (by kernel_rfl) (by kernel_rfl) (by kernel_rfl) (by rfl) hHeld (fun _ _ _ h => h) ?_ ?_
                    rotate_left
                    · intro w' hSw; (try dsimp only at hSw); go_simp <;> with_reducible rfl
                    simp only [Act.put, List.setIfInBounds_toArray, List.set_cons_zero, List.set_cons_succ]
                    refine heldTake 2 (some 64) (v := ?_) rfl rfl (by kernel_rfl) (by kernel_rfl) (by kernel_rfl) (by rfl) hHeld (fun _ _ _ h => h) ?_ ?_
                    rotate_left
                    · intro w' hSw; (try dsimp only at hSw); go_simp <;> with_reducible rfl
                    simp only [Act.put, List.setIfInBounds_toArray, List.set_cons_zero, List.set_cons_succ]
                    refine heldSkip 3 (some 65) rfl rfl (by kernel_rfl) (by kernel_rfl) (by kernel_rfl) (by rfl) hHeld (fun _ _ _ h => h) ?_
                    simp only [Act.put, List.setIfInBounds_toArray, List.set_cons_zero, List.set_cons_succ]
                    refine heldSkip 4 (some 66) rfl rfl (by kernel_rfl) (by kernel_rfl) (by kernel_rfl) (by rfl) hHeld (fun _ _ _ h => h) ?_
                    simp only [Act.put, List.setIfInBounds_toArray, List.set_cons_zero, List.set_cons_succ]
                    refine heldSkip 5 (some 67) rfl rfl (by kernel_rfl) (by kernel_rfl) (by kernel_rfl) (by rfl) hHeld (fun _ _ _ h => h) ?_
                    simp only [Act.put, List.setIfInBounds_toArray, List.set_cons_zero, List.set_cons_succ]
                    refine heldSkip 6 (some 68) rfl rfl (by kernel_rfl) (by kernel_rfl) (by kernel_rfl) (by rfl) hHeld (fun _ _ _ h => h) ?_
                    simp only [Act.put, List.setIfInBounds_toArray, List.set_cons_zero, List.set_cons_succ]
                    refine heldSkip 7 (some 69) rfl rfl (by kernel_rfl) (by kernel_rfl) (by kernel_rfl) (by rfl) hHeld (fun _ _ _ h => h) ?_
                    simp only [Act.put, List.setIfInBounds_toArray, List.set_cons_zero, List.set_cons_succ]
                    refine heldSkip 8 (some 70) rfl rfl (by kernel_rfl) (by kernel_rfl) (by kernel_rfl) (by rfl) hHeld (fun _ _ _ h => h) ?_
                    simp only [Act.put, List.setIfInBounds_toArray, List.set_cons_zero, List.set_cons_succ]
                    refine heldSkip 9 (some 71) rfl rfl (by kernel_rfl) (by kernel_rfl) (by kernel_rfl) (by rfl) hHeld (fun _ _ _ h => h) ?_
                    simp only [Act.put, List.setIfInBounds_toArray, List.set_cons_zero, List.set_cons_succ]
                    refine heldTake 10 (some 72) (v := ?_) rfl rfl (by kernel_rfl) (by kernel_rfl) (by kernel_rfl) (by rfl) hHeld (fun _ _ _ h => h) ?_ ?_
                    rotate_left
                    · intro w' hSw; (try dsimp only at hSw); go_simp <;> with_reducible rfl
                    simp only [Act.put, List.setIfInBounds_toArray, List.set_cons_zero, List.set_cons_succ]
                    refine wpAnyH_done (by kernel_rfl) ?_ _
                    refine NoPanic.normal ?_
                    clear hHeld
                    have hb4 : Below wz.heap.size wz wz.drew := (Below.refl _ _).drew
                    obtain ⟨c0, c1, c2, c3, c4, c5, c6, c7, c8⟩ := HLB.out wz.drew hb4
                    go_wp2_with fail
                    generalize hwy : ((((((((((wz.setCell ⟨g, i * 9, none⟩ (.int .i64 x1)).setCell ⟨g, i * 9 + 1, none⟩ (.int .i64 x2)).setCell ⟨g, i * 9 + 2, none⟩ (.slice xA xn xc)).setCell ⟨g, i * 9 + 3, none⟩ (.int .i64 x3)).setCell ⟨g, i * 9 + 4, none⟩ (.int .i64 x4)).setCell ⟨g, i * 9 + 5, none⟩ (.int .i64 x5)).setCell ⟨g, i * 9 + 6, none⟩ (.int .i64 x6)).setCell ⟨g, i * 9 + 7, none⟩ (.int .i64 x7)).setCell ⟨g, i * 9 + 8, none⟩ (.int .i64 x8))).drew = wy
                    have hOF : OwnP wy w.heap.size (.slice (some ⟨g, 0, none⟩) (Q.length + 1) cap) (ins Q i (((⟨x1, x2, xA, xn, xc, x3, x4, x5, x6, x7, x8⟩ : RV), x) : VP)) := by rw [← hwy]; exact (HPUT.out wz (Below.refl _ _) (((⟨x1, x2, xA, xn, xc, x3, x4, x5, x6, x7, x8⟩ : RV), x) : VP) (.int .i64 x1) (.int .i64 x2) (.slice xA xn xc) (.int .i64 x3) (.int .i64 x4) (.int .i64 x5) (.int .i64 x6) (.int .i64 x7) (.int .i64 x8) rfl).keep ((Below.refl _ _).drew)
                    have hCF : Chg (· = g) w3 wy := by rw [← hwy]; exact (hC.trans (chg_put9 wz g (i * 9) (.int .i64 x1) (.int .i64 x2) (.slice xA xn xc) (.int .i64 x3) (.int .i64 x4) (.int .i64 x5) (.int .i64 x6) (.int .i64 x7) (.int .i64 x8)) (fun _ _ h => h)).then_below ((Below.refl _ _).drew)
                    have hsy := hCF.size
                    have hBy : Below w.heap.size w wy := HB3.out.trans (hCF.below (by have := HB3.out.size; omega) (fun b hb => by subst hb; exact hBg))
                    have HOF := Lib.hid hOF
                    have HBy := Lib.hid hBy
                    clear hwy hOF hBy
                    refine wp_region_noPanic ?_
                    refine wp_region_held_drew (S := (fun w' => Below wy.heap.size wy w')) (by kernel_rfl) ?_ (fun hHeld => ?_)
                    · exact (Below.refl _ _).drew
                    refine heldTake 0 (some 87) (v := ?_) rfl rfl (by kernel_rfl) (by kernel_rfl) (by kernel_rfl) (by rfl) hHeld (fun _ _ _ h => h) ?_ ?_
                    rotate_left
                    · intro w' hSw; (try dsimp only at hSw); go_simp <;> with_reducible rfl
                    simp only [Act.put, List.setIfInBounds_toArray, List.set_cons_zero, List.set_cons_succ]
                    refine heldTake 1 (some 88) (v := ?_) rfl rfl (by kernel_rfl) (by kernel_rfl) (by kernel_rfl) (by rfl) hHeld (fun _ _ _ h => h) ?_ ?_
                    rotate_left
                    · intro w' hSw; (try dsimp only at hSw); go_simp <;> with_reducible rfl
                    simp only [Act.put, List.setIfInBounds_toArray, List.set_cons_zero, List.set_cons_succ]
                    refine heldTake 2 (some 89) (v := ?_) rfl rfl (by kernel_rfl) (by kernel_rfl) (by kernel_rfl) (by rfl) hHeld (fun _ _ _ h => h) ?_ ?_
                    rotate_left
                    · intro w' hSw; (try dsimp only at hSw); go_simp <;> with_reducible rfl
                    simp only [Act.put, List.setIfInBounds_toArray, List.set_cons_zero, List.set_cons_succ]
                    refine heldSkip 3 (some 90) rfl rfl (by kernel_rfl) (by kernel_rfl) (by kernel_rfl) (by rfl) hHeld (fun _ _ _ h => h) ?_
                    simp only [Act.put, List.setIfInBounds_toArray, List.set_cons_zero, List.set_cons_succ]
                    refine heldSkip 4 (some 91) rfl rfl (by kernel_rfl) (by kernel_rfl) (by kernel_rfl) (by rfl) hHeld (fun _ _ _ h => h) ?_
                    simp only [Act.put, List.setIfInBounds_toArray, List.set_cons_zero, List.set_cons_succ]
                    refine heldSkip 5 (some 92) rfl rfl (by kernel_rfl) (by kernel_rfl) (by kernel_rfl) (by rfl) hHeld (fun _ _ _ h => h) ?_
                    simp only [Act.put, List.setIfInBounds_toArray, List.set_cons_zero, List.set_cons_succ]
                    refine heldSkip 6 (some 93) rfl rfl (by kernel_rfl) (by kernel_rfl) (by kernel_rfl) (by rfl) hHeld (fun _ _ _ h => h) ?_
                    simp only [Act.put, List.setIfInBounds_toArray, List.set_cons_zero, List.set_cons_succ]
                    refine heldSkip 7 (some 94) rfl rfl (by kernel_rfl) (by kernel_rfl) (by kernel_rfl) (by rfl) hHeld (fun _ _ _ h => h) ?_
                    simp only [Act.put, List.setIfInBounds_toArray, List.set_cons_zero, List.set_cons_succ]
                    refine heldSkip 8 (some 95) rfl rfl (by kernel_rfl) (by kernel_rfl) (by kernel_rfl) (by rfl) hHeld (fun _ _ _ h => h) ?_
                    simp only [Act.put, List.setIfInBounds_toArray, List.set_cons_zero, List.set_cons_succ]
                    refine heldSkip 9 (some 96) rfl rfl (by kernel_rfl) (by kernel_rfl) (by kernel_rfl) (by rfl) hHeld (fun _ _ _ h => h) ?_
                    simp only [Act.put, List.setIfInBounds_toArray, List.set_cons_zero, List.set_cons_succ]
                    refine heldSkip 10 (some 97) rfl rfl (by kernel_rfl) (by kernel_rfl) (by kernel_rfl) (by rfl) hHeld (fun _ _ _ h => h) ?_
                    simp only [Act.put, List.setIfInBounds_toArray, List.set_cons_zero, List.set_cons_succ]
                    refine heldTake 11 (some 98) (v := ?_) rfl rfl (by kernel_rfl) (by kernel_rfl) (by kernel_rfl) (by rfl) hHeld (fun _ _ _ h => h) ?_ ?_
                    rotate_left
                    · intro w' hSw; (try dsimp only at hSw); go_simp <;> with_reducible rfl
                    simp only [Act.put, List.setIfInBounds_toArray, List.set_cons_zero, List.set_cons_succ]
                    refine wpAnyH_done (by kernel_rfl) ?_ _
                    refine NoPanic.normal ?_
                    clear hHeld
                    have hb5 : Below wy.heap.size wy wy.drew := (Below.refl _ _).drew
                    have hO6 : OwnP wy.drew w.heap.size (.slice (some ⟨g, 0, none⟩) (Q.length + 1) cap) (ins Q i (((⟨x1, x2, xA, xn, xc, x3, x4, x5, x6, x7, x8⟩ : RV), x) : VP)) := HOF.out.keep hb5
                    have hP6 : (ins Q i (((⟨x1, x2, xA, xn, xc, x3, x4, x5, x6, x7, x8⟩ : RV), x) : VP)).Perm (allP (ls.take k) ++ ps.take (j + 1)) := by
                      rw [HTK.out, ← List.append_assoc]
                      exact (ins_perm Q i (((⟨x1, x2, xA, xn, xc, x3, x4, x5, x6, x7, x8⟩ : RV), x) : VP)).trans (HP.out.append_right _)
                    have hS6 := ins_sorted (p := (((⟨x1, x2, xA, xn, xc, x3, x4, x5, x6, x7, x8⟩ : RV), x) : VP)) HI2.out HS.out HD.out (fun h => absurd h (by have := H00.out; omega))
                    have hB6 : Below w.heap.size w wy.drew := HBy.out.trans (hb5.mono HBy.out.size)
                    have HO6 := Lib.hid hO6
                    have HP6 := Lib.hid hP6
                    have HS6 := Lib.hid hS6
                    have hl6 := HLTJ.out
                    clear hO6 hP6 hS6
                    go_wp2_with fail
                    go_roundw
                    case rel => exact ⟨j + 1, ins Q i (((⟨x1, x2, xA, xn, xc, x3, x4, x5, x6, x7, x8⟩ : RV), x) : VP), by go_num, by have := HLTJ.out; omega, by first | exact HO6 | (have := HO6; simpa using this), HP6, HS6, hB6⟩
                    case measure => have := HLTJ.out; simp [intOf]; omega
                  case neg =>
                    have hi0 : 0 < i := by omega
                    have hi1 : i - 1 < Q.length := by omega
                    have hpr := ins_prev Q i ((⟨m1, m2, mA, mn, mc, m3, m4, m5, m6, m7, m8⟩ : RV), mz) hi0 hi
                    have hprA : ∀ z : VP, (ins Q i z)[i - 1]? = some (Q[i - 1]'hi1) := fun z => ins_prev Q i z hi0 hi
                    have hqm : Q[i - 1]'hi1 ∈ Q := List.getElem_mem hi1
                    have hqs := ins_shift Q i hi0 hi
                    have hdl : ltVP x (Q[i - 1]'hi1).2 → ∀ q ∈ Q.drop (i - 1), ltVP x q.2 := fun h => drop_lt hi0 hi HD.out h
                    have hqv : VerIs w3 (· < w.heap.size) (Q[i - 1]'hi1).1 (Q[i - 1]'hi1).2 := HVA.out w3 HB3.out _ (by
                      have := HP.out.subset hqm
                      rw [HALL.out]
                      exact List.mem_append_left _ this)
                    have hso : (∀ h : 0 < i, ltVP (Q[i - 1]'hi1).2 x) → ((ins Q i (((⟨x1, x2, xA, xn, xc, x3, x4, x5, x6, x7, x8⟩ : RV), x) : VP)).map (·.2)).Pairwise ltVP := fun h => ins_sorted hi HS.out HD.out h
                    have hilen : i - 1 < (ins Q i ((⟨m1, m2, mA, mn, mc, m3, m4, m5, m6, m7, m8⟩ : RV), mz)).length := by omega
                    have hqc : ∀ t u, t < 9 → (Q[i - 1]'hi1).1.enc[t]? = some u → wz.cell? ⟨g, (i - 1) * 9 + t, none⟩ = some u := fun t u ht hu => (hrd ((i - 1) * 9 + t) u (by
                      rw [cellsP_get hilen ht]
                      rw [List.getElem?_eq_getElem hilen] at hpr
                      rw [Option.some.inj hpr]; exact hu)).1
                    clear hpr hilen hrd
                    generalize Q[i - 1]'hi1 = q at *
                    obtain ⟨⟨y1, y2, yA, yn, yc, y3, y4, y5, y6, y7, y8⟩, y⟩ := q
                    simp only at hqv hqc hqs hdl hso
                    obtain ⟨zz, hzz⟩ : ∃ zz, zz = i - 1 := ⟨_, rfl⟩
                    have HZZ := Lib.hid hzz
                    rw [← hzz] at hqc hqs hdl hprA
                    have HPR := Lib.hid hprA
                    clear hprA
                    have GY : Hid (∀ w', Below wz.heap.size wz w' → w'.cell? ⟨g, zz * 9, none⟩ = some (.int .i64 y1) ∧ w'.cell? ⟨g, zz * 9 + 1, none⟩ = some (.int .i64 y2) ∧ w'.cell? ⟨g, zz * 9 + 2, none⟩ = some (.slice yA yn yc) ∧ w'.cell? ⟨g, zz * 9 + 3, none⟩ = some (.int .i64 y3) ∧ w'.cell? ⟨g, zz * 9 + 4, none⟩ = some (.int .i64 y4) ∧ w'.cell? ⟨g, zz * 9 + 5, none⟩ = some (.int .i64 y5) ∧ w'.cell? ⟨g, zz * 9 + 6, none⟩ = some (.int .i64 y6) ∧ w'.cell? ⟨g, zz * 9 + 7, none⟩ = some (.int .i64 y7) ∧ w'.cell? ⟨g, zz * 9 + 8, none⟩ = some (.int .i64 y8)) := Lib.hid (fun w' h => ⟨(World.cell?_of_block (h.block g hgz)).trans (hqc 0 _ (by decide) rfl), (World.cell?_of_block (h.block g hgz)).trans (hqc 1 _ (by decide) rfl), (World.cell?_of_block (h.block g hgz)).trans (hqc 2 _ (by decide) rfl), (World.cell?_of_block (h.block g hgz)).trans (hqc 3 _ (by decide) rfl), (World.cell?_of_block (h.block g hgz)).trans (hqc 4 _ (by decide) rfl), (World.cell?_of_block (h.block g hgz)).trans (hqc 5 _ (by decide) rfl), (World.cell?_of_block (h.block g hgz)).trans (hqc 6 _ (by decide) rfl), (World.cell?_of_block (h.block g hgz)).trans (hqc 7 _ (by decide) rfl), (World.cell?_of_block (h.block g hgz)).trans (hqc 8 _ (by decide) rfl)⟩)
                    have hyx := VerIs.lt hqv HX.out
                    have hxy := VerIs.lt HX.out hqv
                    obtain ⟨lxy, hlxy⟩ : ∃ l, l = ltV x y := ⟨_, rfl⟩
                    obtain ⟨lyx, hlyx⟩ : ∃ l, l = ltV y x := ⟨_, rfl⟩
                    have KXY : ∀ W, Calls Try.prog 20 #[.agg #[.int .i64 x1, .int .i64 x2, .slice xA xn xc, .int .i64 x3, .int .i64 x4, .int .i64 x5, .int .i64 x6, .int .i64 x7, .int .i64 x8], .agg #[.int .i64 y1, .int .i64 y2, .slice yA yn yc, .int .i64 y3, .int .i64 y4, .int .i64 y5, .int .i64 y6, .int .i64 y7, .int .i64 y8]] W fun e w' => e = .returned (.bool lxy) ∧ Below W.heap.size W w' := fun W => by rw [hlxy, ← hxy]; exact before_any (⟨x1, x2, xA, xn, xc, x3, x4, x5, x6, x7, x8⟩ : RV) (⟨y1, y2, yA, yn, yc, y3, y4, y5, y6, y7, y8⟩ : RV) W
                    have KYX : ∀ W, Calls Try.prog 20 #[.agg #[.int .i64 y1, .int .i64 y2, .slice yA yn yc, .int .i64 y3, .int .i64 y4, .int .i64 y5, .int .i64 y6, .int .i64 y7, .int .i64 y8], .agg #[.int .i64 x1, .int .i64 x2, .slice xA xn xc, .int .i64 x3, .int .i64 x4, .int .i64 x5, .int .i64 x6, .int .i64 x7, .int .i64 x8]] W fun e w' => e = .returned (.bool lyx) ∧ Below W.heap.size W w' := fun W => by rw [hlyx, ← hyx]; exact before_any (⟨y1, y2, yA, yn, yc, y3, y4, y5, y6, y7, y8⟩ : RV) (⟨x1, x2, xA, xn, xc, x3, x4, x5, x6, x7, x8⟩ : RV) W
                    have ew : IntKind.i64.wrap ((i : Int) - 1) = ((zz : Nat) : Int) := by rw [IntKind.wrap_i64]; omega
                    have hil2 : (zz : Int) < ((Q.length : Int) + 1) := by omega
                    have hil4 : (zz : Int) < ((Q.length + 1 : Nat) : Int) := by omega
                    have hil6 : zz < Q.length + 1 := by omega
                    have hip : (0 : Int) < (i : Int) := by omega
                    have HQS := Lib.hid hqs
                    have HDL := Lib.hid hdl
                    have HSO := Lib.hid hso
                    have HLX := Lib.hid hlxy
                    have HLY := Lib.hid hlyx
                    have HQM := Lib.hid hqm
                    clear hqs hdl hso hlxy hlyx hqm hqc hqv hyx hxy hzz
                    cases lxy
                    case true =>
                      go_wp2_with fail
                      refine wp_region_noPanic ?_
                      refine wp_region_held_drew (S := (fun w' => Below wz.heap.size wz w')) (by kernel_rfl) ?_ (fun hHeld => ?_)
                      · exact (Below.refl _ _).drew
                      refine heldTake 0 (some 62) (v := ?_) rfl rfl (by kernel_rfl) (by kernel_rfl) (by kernel_rfl) (by rfl) hHeld (fun _ _ _ h => h) ?_ ?_
                      rotate_left
                      · intro w' hSw; (try dsimp only at hSw); go_simp <;> with_reducible rfl
                      simp only [Act.put, List.setIfInBounds_toArray, List.set_cons_zero, List.set_cons_succ]
                      refine heldTake 1 (some 63) (v := ?_) rfl rfl (by kernel_rfl) (by kernel_rfl) (by kernel_rfl) (by rfl) hHeld (fun _ _ _ h => h) ?_ ?_
                      rotate_left
                      · intro w' hSw; (try dsimp only at hSw); go_simp <;> with_reducible rfl
                      simp only [Act.put, List.setIfInBounds_toArray, List.set_cons_zero, List.set_cons_succ]
                      refine heldTake 2 (some 64) (v := ?_) rfl rfl (by kernel_rfl) (by kernel_rfl) (by kernel_rfl) (by rfl) hHeld (fun _ _ _ h => h) ?_ ?_
                      rotate_left
                      · intro w' hSw; (try dsimp only at hSw); go_simp <;> with_reducible rfl
                      simp only [Act.put, List.setIfInBounds_toArray, List.set_cons_zero, List.set_cons_succ]
                      refine heldTake 3 (some 65) (v := ?_) rfl rfl (by kernel_rfl) (by kernel_rfl) (by kernel_rfl) (by rfl) hHeld (fun _ _ _ h => h) ?_ ?_
                      rotate_left
                      · intro w' hSw; (try dsimp only at hSw); obtain ⟨e0, e1, e2, e3, e4, e5, e6, e7, e8⟩ := HLB.out w' hSw; go_simp <;> with_reducible rfl
                      simp only [Act.put, List.setIfInBounds_toArray, List.set_cons_zero, List.set_cons_succ]
                      refine heldTake 4 (some 66) (v := ?_) rfl rfl (by kernel_rfl) (by kernel_rfl) (by kernel_rfl) (by rfl) hHeld (fun _ _ _ h => h) ?_ ?_
                      rotate_left
                      · intro w' hSw; (try dsimp only at hSw); go_simp <;> with_reducible rfl
                      simp only [Act.put, List.setIfInBounds_toArray, List.set_cons_zero, List.set_cons_succ]
                      refine heldTake 5 (some 67) (v := ?_) rfl rfl (by kernel_rfl) (by kernel_rfl) (by kernel_rfl) (by rfl) hHeld (fun _ _ _ h => h) ?_ ?_
                      rotate_left
                      · intro w' hSw; (try dsimp only at hSw); go_simp <;> with_reducible rfl
                      simp only [Act.put, List.setIfInBounds_toArray, List.set_cons_zero, List.set_cons_succ]
                      refine heldTake 6 (some 68) (v := ?_) rfl rfl (by kernel_rfl) (by kernel_rfl) (by kernel_rfl) (by rfl) hHeld (fun _ _ _ h => h) ?_ ?_
                      rotate_left
                      · intro w' hSw; (try dsimp only at hSw); go_simp <;> with_reducible rfl
                      simp only [Act.put, List.setIfInBounds_toArray, List.set_cons_zero, List.set_cons_succ]
                      refine heldTake 7 (some 69) (v := ?_) rfl rfl (by kernel_rfl) (by kernel_rfl) (by kernel_rfl) (by rfl) hHeld (fun _ _ _ h => h) ?_ ?_
                      rotate_left
                      · intro w' hSw; (try dsimp only at hSw); go_simp <;> with_reducible rfl
                      simp only [Act.put, List.setIfInBounds_toArray, List.set_cons_zero, List.set_cons_succ]
                      refine heldTake 8 (some 70) (v := ?_) rfl rfl (by kernel_rfl) (by kernel_rfl) (by kernel_rfl) (by rfl) hHeld (fun _ _ _ h => h) ?_ ?_
                      rotate_left
                      · intro w' hSw; (try dsimp only at hSw); obtain ⟨e0, e1, e2, e3, e4, e5, e6, e7, e8⟩ := GY.out w' hSw; go_simp <;> with_reducible rfl
                      simp only [Act.put, List.setIfInBounds_toArray, List.set_cons_zero, List.set_cons_succ]
                      refine heldCall 9 (some 71) (f := ?_) (args := ?_) rfl rfl (by kernel_rfl) (by rfl) ?_ ?_
                      rotate_left 2
                      · go_simp <;> first | (constructor <;> with_reducible rfl) | with_reducible rfl
                      (with_reducible refine (KXY _).mono ?_)
                      rintro _ w4 ⟨rfl, hb4'⟩
                      have hb4 : Below wz.heap.size wz w4 := (Below.undrew hb4')
                      refine ⟨_, rfl, keepAnd ?_ (fun hNew => ?_)⟩
                      · exact hb4
                      clear hHeld
                      have hHeld := hNew
                      clear hNew
                      simp only [Act.put, List.setIfInBounds_toArray, List.set_cons_zero, List.set_cons_succ]
                      refine heldTake 10 (some 72) (v := ?_) rfl rfl (by kernel_rfl) (by kernel_rfl) (by kernel_rfl) (by rfl) hHeld (fun _ _ _ h => h) ?_ ?_
                      rotate_left
                      · intro w' hSw; (try dsimp only at hSw); go_simp <;> with_reducible rfl
                      simp only [Act.put, List.setIfInBounds_toArray, List.set_cons_zero, List.set_cons_succ]
                      refine wpAnyH_done (by kernel_rfl) ?_ _
                      refine NoPanic.normal ?_
                      clear hHeld
                      have d0' : w4.cell? ⟨g, i * 9, none⟩ = some (.int .i64 m1) := (World.cell?_of_block (hb4.block g hgz)).trans d0
                      have f0' : w4.frozen? ⟨g, i * 9, none⟩ = false := (World.frozen?_of_block (hb4.block g hgz)).trans f0
                      have d1' : w4.cell? ⟨g, i * 9 + 1, none⟩ = some (.int .i64 m2) := (World.cell?_of_block (hb4.block g hgz)).trans d1
                      have f1' : w4.frozen? ⟨g, i * 9 + 1, none⟩ = false := (World.frozen?_of_block (hb4.block g hgz)).trans f1
                      have d2' : w4.cell? ⟨g, i * 9 + 2, none⟩ = some (.slice mA mn mc) := (World.cell?_of_block (hb4.block g hgz)).trans d2
                      have f2' : w4.frozen? ⟨g, i * 9 + 2, none⟩ = false := (World.frozen?_of_block (hb4.block g hgz)).trans f2
                      have d3' : w4.cell? ⟨g, i * 9 + 3, none⟩ = some (.int .i64 m3) := (World.cell?_of_block (hb4.block g hgz)).trans d3
                      have f3' : w4.frozen? ⟨g, i * 9 + 3, none⟩ = false := (World.frozen?_of_block (hb4.block g hgz)).trans f3
                      have d4' : w4.cell? ⟨g, i * 9 + 4, none⟩ = some (.int .i64 m4) := (World.cell?_of_block (hb4.block g hgz)).trans d4
                      have f4' : w4.frozen? ⟨g, i * 9 + 4, none⟩ = false := (World.frozen?_of_block (hb4.block g hgz)).trans f4
                      have d5' : w4.cell? ⟨g, i * 9 + 5, none⟩ = some (.int .i64 m5) := (World.cell?_of_block (hb4.block g hgz)).trans d5
                      have f5' : w4.frozen? ⟨g, i * 9 + 5, none⟩ = false := (World.frozen?_of_block (hb4.block g hgz)).trans f5
                      have d6' : w4.cell? ⟨g, i * 9 + 6, none⟩ = some (.int .i64 m6) := (World.cell?_of_block (hb4.block g hgz)).trans d6
                      have f6' : w4.frozen? ⟨g, i * 9 + 6, none⟩ = false := (World.frozen?_of_block (hb4.block g hgz)).trans f6
                      have d7' : w4.cell? ⟨g, i * 9 + 7, none⟩ = some (.int .i64 m7) := (World.cell?_of_block (hb4.block g hgz)).trans d7
                      have f7' : w4.frozen? ⟨g, i * 9 + 7, none⟩ = false := (World.frozen?_of_block (hb4.block g hgz)).trans f7
                      have d8' : w4.cell? ⟨g, i * 9 + 8, none⟩ = some (.int .i64 m8) := (World.cell?_of_block (hb4.block g hgz)).trans d8
                      have f8' : w4.frozen? ⟨g, i * 9 + 8, none⟩ = false := (World.frozen?_of_block (hb4.block g hgz)).trans f8
                      clear d0 f0 d1 f1 d2 f2 d3 f3 d4 f4 d5 f5 d6 f6 d7 f7 d8 f8
                      obtain ⟨e0, e1, e2, e3, e4, e5, e6, e7, e8⟩ := GY.out w4 hb4
                      go_wp2_with fail
                      go_roundw
                      case rel => exact ⟨zz, (((⟨y1, y2, yA, yn, yc, y3, y4, y5, y6, y7, y8⟩ : RV), y) : VP), by first | rfl | go_num, by omega, by have h := (HPUT.out w4 hb4 (((⟨y1, y2, yA, yn, yc, y3, y4, y5, y6, y7, y8⟩ : RV), y) : VP) (.int .i64 y1) (.int .i64 y2) (.slice yA yn yc) (.int .i64 y3) (.int .i64 y4) (.int .i64 y5) (.int .i64 y6) (.int .i64 y7) (.int .i64 y8) rfl); rw [HQS.out] at h; exact Lib.hid h, Lib.hid (HDL.out (by unfold ltVP; rw [← HLX.out])), ((hC.then_below hb4).trans (chg_put9 w4 g (i * 9) (.int .i64 y1) (.int .i64 y2) (.slice yA yn yc) (.int .i64 y3) (.int .i64 y4) (.int .i64 y5) (.int .i64 y6) (.int .i64 y7) (.int .i64 y8)) (fun _ _ h => h))⟩
                      case measure => have := HZZ.out; simp [intOf]; omega
                    case false =>
                      go_wp2_with fail
                      refine wp_region_noPanic ?_
                      refine wp_region_held_drew (S := (fun w' => Below wz.heap.size wz w')) (by kernel_rfl) ?_ (fun hHeld => ?_)
                      · exact (Below.refl _ _).drew
                      refine heldTake 0 (some 62) (v := ?_) rfl rfl (by kernel_rfl) (by kernel_rfl) (by kernel_rfl) (by rfl) hHeld (fun _ _ _ h => h) ?_ ?_
                      rotate_left
                      · intro w' hSw; (try dsimp only at hSw); go_simp <;> with_reducible rfl
                      simp only [Act.put, List.setIfInBounds_toArray, List.set_cons_zero, List.set_cons_succ]
                      refine heldTake 1 (some 63) (v := ?_) rfl rfl (by kernel_rfl) (by kernel_rfl) (by kernel_rfl) (by rfl) hHeld (fun _ _ _ h => h) ?_ ?_
                      rotate_left
                      · intro w' hSw; (try dsimp only at hSw); go_simp <;> with_reducible rfl
                      simp only [Act.put, List.setIfInBounds_toArray, List.set_cons_zero, List.set_cons_succ]
                      refine heldTake 2 (some 64) (v := ?_) rfl rfl (by kernel_rfl) (by kernel_rfl) (by kernel_rfl) (by rfl) hHeld (fun _ _ _ h => h) ?_ ?_
                      rotate_left
                      · intro w' hSw; (try dsimp only at hSw); go_simp <;> with_reducible rfl
                      simp only [Act.put, List.setIfInBounds_toArray, List.set_cons_zero, List.set_cons_succ]
                      refine heldTake 3 (some 65) (v := ?_) rfl rfl (by kernel_rfl) (by kernel_rfl) (by kernel_rfl) (by rfl) hHeld (fun _ _ _ h => h) ?_ ?_
                      rotate_left
                      · intro w' hSw; (try dsimp only at hSw); obtain ⟨e0, e1, e2, e3, e4, e5, e6, e7, e8⟩ := HLB.out w' hSw; go_simp <;> with_reducible rfl
                      simp only [Act.put, List.setIfInBounds_toArray, List.set_cons_zero, List.set_cons_succ]
                      refine heldTake 4 (some 66) (v := ?_) rfl rfl (by kernel_rfl) (by kernel_rfl) (by kernel_rfl) (by rfl) hHeld (fun _ _ _ h => h) ?_ ?_
                      rotate_left
                      · intro w' hSw; (try dsimp only at hSw); go_simp <;> with_reducible rfl
                      simp only [Act.put, List.setIfInBounds_toArray, List.set_cons_zero, List.set_cons_succ]
                      refine heldTake 5 (some 67) (v := ?_) rfl rfl (by kernel_rfl) (by kernel_rfl) (by kernel_rfl) (by rfl) hHeld (fun _ _ _ h => h) ?_ ?_
                      rotate_left
                      · intro w' hSw; (try dsimp only at hSw); go_simp <;> with_reducible rfl
                      simp only [Act.put, List.setIfInBounds_toArray, List.set_cons_zero, List.set_cons_succ]
                      refine heldTake 6 (some 68) (v := ?_) rfl rfl (by kernel_rfl) (by kernel_rfl) (by kernel_rfl) (by rfl) hHeld (fun _ _ _ h => h) ?_ ?_
                      rotate_left
                      · intro w' hSw; (try dsimp only at hSw); go_simp <;> with_reducible rfl
                      simp only [Act.put, List.setIfInBounds_toArray, List.set_cons_zero, List.set_cons_succ]
                      refine heldTake 7 (some 69) (v := ?_) rfl rfl (by kernel_rfl) (by kernel_rfl) (by kernel_rfl) (by rfl) hHeld (fun _ _ _ h => h) ?_ ?_
                      rotate_left
                      · intro w' hSw; (try dsimp only at hSw); go_simp <;> with_reducible rfl
                      simp only [Act.put, List.setIfInBounds_toArray, List.set_cons_zero, List.set_cons_succ]
                      refine heldTake 8 (some 70) (v := ?_) rfl rfl (by kernel_rfl) (by kernel_rfl) (by kernel_rfl) (by rfl) hHeld (fun _ _ _ h => h) ?_ ?_
                      rotate_left
                      · intro w' hSw; (try dsimp only at hSw); obtain ⟨e0, e1, e2, e3, e4, e5, e6, e7, e8⟩ := GY.out w' hSw; go_simp <;> with_reducible rfl
                      simp only [Act.put, List.setIfInBounds_toArray, List.set_cons_zero, List.set_cons_succ]
                      refine heldCall 9 (some 71) (f := ?_) (args := ?_) rfl rfl (by kernel_rfl) (by rfl) ?_ ?_
                      rotate_left 2
                      · go_simp <;> first | (constructor <;> with_reducible rfl) | with_reducible rfl
                      (with_reducible refine (KXY _).mono ?_)
                      rintro _ w4 ⟨rfl, hb4'⟩
                      have hb4 : Below wz.heap.size wz w4 := (Below.undrew hb4')
                      refine ⟨_, rfl, keepAnd ?_ (fun hNew => ?_)⟩
                      · exact hb4
                      clear hHeld
                      have hHeld := hNew
                      clear hNew
                      simp only [Act.put, List.setIfInBounds_toArray, List.set_cons_zero, List.set_cons_succ]
                      refine heldTake 10 (some 72) (v := ?_) rfl rfl (by kernel_rfl) (by kernel_rfl) (by kernel_rfl) (by rfl) hHeld (fun _ _ _ h => h) ?_ ?_
                      rotate_left
                      · intro w' hSw; (try dsimp only at hSw); go_simp <;> with_reducible rfl
                      simp only [Act.put, List.setIfInBounds_toArray, List.set_cons_zero, List.set_cons_succ]
                      refine wpAnyH_done (by kernel_rfl) ?_ _
                      refine NoPanic.normal ?_
                      clear hHeld
                      have d0' : w4.cell? ⟨g, i * 9, none⟩ = some (.int .i64 m1) := (World.cell?_of_block (hb4.block g hgz)).trans d0
                      have f0' : w4.frozen? ⟨g, i * 9, none⟩ = false := (World.frozen?_of_block (hb4.block g hgz)).trans f0
                      have d1' : w4.cell? ⟨g, i * 9 + 1, none⟩ = some (.int .i64 m2) := (World.cell?_of_block (hb4.block g hgz)).trans d1
                      have f1' : w4.frozen? ⟨g, i * 9 + 1, none⟩ = false := (World.frozen?_of_block (hb4.block g hgz)).trans f1
                      have d2' : w4.cell? ⟨g, i * 9 + 2, none⟩ = some (.slice mA mn mc) := (World.cell?_of_block (hb4.block g hgz)).trans d2
                      have f2' : w4.frozen? ⟨g, i * 9 + 2, none⟩ = false := (World.frozen?_of_block (hb4.block g hgz)).trans f2
                      have d3' : w4.cell? ⟨g, i * 9 + 3, none⟩ = some (.int .i64 m3) := (World.cell?_of_block (hb4.block g hgz)).trans d3
                      have f3' : w4.frozen? ⟨g, i * 9 + 3, none⟩ = false := (World.frozen?_of_block (hb4.block g hgz)).trans f3
                      have d4' : w4.cell? ⟨g, i * 9 + 4, none⟩ = some (.int .i64 m4) := (World.cell?_of_block (hb4.block g hgz)).trans d4
                      have f4' : w4.frozen? ⟨g, i * 9 + 4, none⟩ = false := (World.frozen?_of_block (hb4.block g hgz)).trans f4
                      have d5' : w4.cell? ⟨g, i * 9 + 5, none⟩ = some (.int .i64 m5) := (World.cell?_of_block (hb4.block g hgz)).trans d5
                      have f5' : w4.frozen? ⟨g, i * 9 + 5, none⟩ = false := (World.frozen?_of_block (hb4.block g hgz)).trans f5
                      have d6' : w4.cell? ⟨g, i * 9 + 6, none⟩ = some (.int .i64 m6) := (World.cell?_of_block (hb4.block g hgz)).trans d6
                      have f6' : w4.frozen? ⟨g, i * 9 + 6, none⟩ = false := (World.frozen?_of_block (hb4.block g hgz)).trans f6
                      have d7' : w4.cell? ⟨g, i * 9 + 7, none⟩ = some (.int .i64 m7) := (World.cell?_of_block (hb4.block g hgz)).trans d7
                      have f7' : w4.frozen? ⟨g, i * 9 + 7, none⟩ = false := (World.frozen?_of_block (hb4.block g hgz)).trans f7
                      have d8' : w4.cell? ⟨g, i * 9 + 8, none⟩ = some (.int .i64 m8) := (World.cell?_of_block (hb4.block g hgz)).trans d8
                      have f8' : w4.frozen? ⟨g, i * 9 + 8, none⟩ = false := (World.frozen?_of_block (hb4.block g hgz)).trans f8
                      clear d0 f0 d1 f1 d2 f2 d3 f3 d4 f4 d5 f5 d6 f6 d7 f7 d8 f8
                      obtain ⟨c0, c1, c2, c3, c4, c5, c6, c7, c8⟩ := HLB.out w4 hb4
                      go_wp2_with fail
                      generalize hwy : (((((((((w4.setCell ⟨g, i * 9, none⟩ (.int .i64 x1)).setCell ⟨g, i * 9 + 1, none⟩ (.int .i64 x2)).setCell ⟨g, i * 9 + 2, none⟩ (.slice xA xn xc)).setCell ⟨g, i * 9 + 3, none⟩ (.int .i64 x3)).setCell ⟨g, i * 9 + 4, none⟩ (.int .i64 x4)).setCell ⟨g, i * 9 + 5, none⟩ (.int .i64 x5)).setCell ⟨g, i * 9 + 6, none⟩ (.int .i64 x6)).setCell ⟨g, i * 9 + 7, none⟩ (.int .i64 x7)).setCell ⟨g, i * 9 + 8, none⟩ (.int .i64 x8)) = wy
                      have hOF : OwnP wy w.heap.size (.slice (some ⟨g, 0, none⟩) (Q.length + 1) cap) (ins Q i (((⟨x1, x2, xA, xn, xc, x3, x4, x5, x6, x7, x8⟩ : RV), x) : VP)) := by rw [← hwy]; exact HPUT.out w4 hb4 (((⟨x1, x2, xA, xn, xc, x3, x4, x5, x6, x7, x8⟩ : RV), x) : VP) (.int .i64 x1) (.int .i64 x2) (.slice xA xn xc) (.int .i64 x3) (.int .i64 x4) (.int .i64 x5) (.int .i64 x6) (.int .i64 x7) (.int .i64 x8) rfl
                      have hCF : Chg (· = g) w3 wy := by rw [← hwy]; exact (hC.then_below hb4).trans (chg_put9 w4 g (i * 9) (.int .i64 x1) (.int .i64 x2) (.slice xA xn xc) (.int .i64 x3) (.int .i64 x4) (.int .i64 x5) (.int .i64 x6) (.int .i64 x7) (.int .i64 x8)) (fun _ _ h => h)
                      have hsy := hCF.size
                      have hBy : Below w.heap.size w wy := HB3.out.trans (hCF.below (by have := HB3.out.size; omega) (fun b hb => by subst hb; exact hBg))
                      have HOF := Lib.hid hOF
                      have HBy := Lib.hid hBy
                      clear hwy hOF hBy
                      have HLB2 : Hid (∀ w', Below wy.heap.size wy w' → w'.cell? ⟨wi.heap.size, 0, none⟩ = some (.int .i64 x1) ∧ w'.cell? ⟨wi.heap.size, 1, none⟩ = some (.int .i64 x2) ∧ w'.cell? ⟨wi.heap.size, 2, none⟩ = some (.slice xA xn xc) ∧ w'.cell? ⟨wi.heap.size, 3, none⟩ = some (.int .i64 x3) ∧ w'.cell? ⟨wi.heap.size, 4, none⟩ = some (.int .i64 x4) ∧ w'.cell? ⟨wi.heap.size, 5, none⟩ = some (.int .i64 x5) ∧ w'.cell? ⟨wi.heap.size, 6, none⟩ = some (.int .i64 x6) ∧ w'.cell? ⟨wi.heap.size, 7, none⟩ = some (.int .i64 x7) ∧ w'.cell? ⟨wi.heap.size, 8, none⟩ = some (.int .i64 x8)) := Lib.hid (fun w' h => ⟨(cell_of_row _ wi.heap.size 0 _ _ _ ((h.block _ (by omega)).trans ((hCF.block _ (by omega) (fun e => hgw e.symm)).trans HBX3.out))).trans rfl, (cell_of_row _ wi.heap.size 1 _ _ _ ((h.block _ (by omega)).trans ((hCF.block _ (by omega) (fun e => hgw e.symm)).trans HBX3.out))).trans rfl, (cell_of_row _ wi.heap.size 2 _ _ _ ((h.block _ (by omega)).trans ((hCF.block _ (by omega) (fun e => hgw e.symm)).trans HBX3.out))).trans rfl, (cell_of_row _ wi.heap.size 3 _ _ _ ((h.block _ (by omega)).trans ((hCF.block _ (by omega) (fun e => hgw e.symm)).trans HBX3.out))).trans rfl, (cell_of_row _ wi.heap.size 4 _ _ _ ((h.block _ (by omega)).trans ((hCF.block _ (by omega) (fun e => hgw e.symm)).trans HBX3.out))).trans rfl, (cell_of_row _ wi.heap.size 5 _ _ _ ((h.block _ (by omega)).trans ((hCF.block _ (by omega) (fun e => hgw e.symm)).trans HBX3.out))).trans rfl, (cell_of_row _ wi.heap.size 6 _ _ _ ((h.block _ (by omega)).trans ((hCF.block _ (by omega) (fun e => hgw e.symm)).trans HBX3.out))).trans rfl, (cell_of_row _ wi.heap.size 7 _ _ _ ((h.block _ (by omega)).trans ((hCF.block _ (by omega) (fun e => hgw e.symm)).trans HBX3.out))).trans rfl, (cell_of_row _ wi.heap.size 8 _ _ _ ((h.block _ (by omega)).trans ((hCF.block _ (by omega) (fun e => hgw e.symm)).trans HBX3.out))).trans rfl⟩)
                      have hrd2 : RdG wy g (ins Q i (((⟨x1, x2, xA, xn, xc, x3, x4, x5, x6, x7, x8⟩ : RV), x) : VP)) := own_rdG (by rw [ins_length Q i _ HI2.out]; exact HOF.out)
                      have hpr2 := HPR.out (((⟨x1, x2, xA, xn, xc, x3, x4, x5, x6, x7, x8⟩ : RV), x) : VP)
                      have hzl2 : zz < (ins Q i (((⟨x1, x2, xA, xn, xc, x3, x4, x5, x6, x7, x8⟩ : RV), x) : VP)).length := by rw [ins_length Q i _ HI2.out]; omega
                      have hyc2 : ∀ t u, t < 9 → (⟨y1, y2, yA, yn, yc, y3, y4, y5, y6, y7, y8⟩ : RV).enc[t]? = some u → wy.cell? ⟨g, zz * 9 + t, none⟩ = some u := fun t u ht hu => (hrd2 (zz * 9 + t) u (by
                        rw [cellsP_get hzl2 ht]
                        rw [List.getElem?_eq_getElem hzl2] at hpr2
                        rw [Option.some.inj hpr2]; exact hu)).1
                      have GY2 : Hid (∀ w', Below wy.heap.size wy w' → w'.cell? ⟨g, zz * 9, none⟩ = some (.int .i64 y1) ∧ w'.cell? ⟨g, zz * 9 + 1, none⟩ = some (.int .i64 y2) ∧ w'.cell? ⟨g, zz * 9 + 2, none⟩ = some (.slice yA yn yc) ∧ w'.cell? ⟨g, zz * 9 + 3, none⟩ = some (.int .i64 y3) ∧ w'.cell? ⟨g, zz * 9 + 4, none⟩ = some (.int .i64 y4) ∧ w'.cell? ⟨g, zz * 9 + 5, none⟩ = some (.int .i64 y5) ∧ w'.cell? ⟨g, zz * 9 + 6, none⟩ = some (.int .i64 y6) ∧ w'.cell? ⟨g, zz * 9 + 7, none⟩ = some (.int .i64 y7) ∧ w'.cell? ⟨g, zz * 9 + 8, none⟩ = some (.int .i64 y8)) := Lib.hid (fun w' h => ⟨(World.cell?_of_block (h.block g (by omega))).trans (hyc2 0 _ (by decide) rfl), (World.cell?_of_block (h.block g (by omega))).trans (hyc2 1 _ (by decide) rfl), (World.cell?_of_block (h.block g (by omega))).trans (hyc2 2 _ (by decide) rfl), (World.cell?_of_block (h.block g (by omega))).trans (hyc2 3 _ (by decide) rfl), (World.cell?_of_block (h.block g (by omega))).trans (hyc2 4 _ (by decide) rfl), (World.cell?_of_block (h.block g (by omega))).trans (hyc2 5 _ (by decide) rfl), (World.cell?_of_block (h.block g (by omega))).trans (hyc2 6 _ (by decide) rfl), (World.cell?_of_block (h.block g (by omega))).trans (hyc2 7 _ (by decide) rfl), (World.cell?_of_block (h.block g (by omega))).trans (hyc2 8 _ (by decide) rfl)⟩)
                      clear hrd2 hpr2 hzl2 hyc2
                      cases lyx
                      case false =>
                        go_wp2_with fail
                        refine wp_region_noPanic ?_
                        refine wp_region_held_drew (S := (fun w' => Below wy.heap.size wy w')) (by kernel_rfl) ?_ (fun hHeld => ?_)
                        · exact (Below.refl _ _).drew
                        refine heldTake 0 (some 87) (v := ?_) rfl rfl (by kernel_rfl) (by kernel_rfl) (by kernel_rfl) (by rfl) hHeld (fun _ _ _ h => h) ?_ ?_
                        rotate_left
                        · intro w' hSw; (try dsimp only at hSw); go_simp <;> with_reducible rfl
                        simp only [Act.put, List.setIfInBounds_toArray, List.set_cons_zero, List.set_cons_succ]
                        refine heldTake 1 (some 88) (v := ?_) rfl rfl (by kernel_rfl) (by kernel_rfl) (by kernel_rfl) (by rfl) hHeld (fun _ _ _ h => h) ?_ ?_
                        rotate_left
                        · intro w' hSw; (try dsimp only at hSw); go_simp <;> with_reducible rfl
                        simp only [Act.put, List.setIfInBounds_toArray, List.set_cons_zero, List.set_cons_succ]
                        refine heldTake 2 (some 89) (v := ?_) rfl rfl (by kernel_rfl) (by kernel_rfl) (by kernel_rfl) (by rfl) hHeld (fun _ _ _ h => h) ?_ ?_
                        rotate_left
                        · intro w' hSw; (try dsimp only at hSw); go_simp <;> with_reducible rfl
                        simp only [Act.put, List.setIfInBounds_toArray, List.set_cons_zero, List.set_cons_succ]
                        refine heldTake 3 (some 90) (v := ?_) rfl rfl (by kernel_rfl) (by kernel_rfl) (by kernel_rfl) (by rfl) hHeld (fun _ _ _ h => h) ?_ ?_
                        rotate_left
                        · intro w' hSw; (try dsimp only at hSw); go_simp <;> with_reducible rfl
                        simp only [Act.put, List.setIfInBounds_toArray, List.set_cons_zero, List.set_cons_succ]
                        refine heldTake 4 (some 91) (v := ?_) rfl rfl (by kernel_rfl) (by kernel_rfl) (by kernel_rfl) (by rfl) hHeld (fun _ _ _ h => h) ?_ ?_
                        rotate_left
                        · intro w' hSw; (try dsimp only at hSw); go_simp <;> with_reducible rfl
                        simp only [Act.put, List.setIfInBounds_toArray, List.set_cons_zero, List.set_cons_succ]
                        refine heldTake 5 (some 92) (v := ?_) rfl rfl (by kernel_rfl) (by kernel_rfl) (by kernel_rfl) (by rfl) hHeld (fun _ _ _ h => h) ?_ ?_
                        rotate_left
                        · intro w' hSw; (try dsimp only at hSw); go_simp <;> with_reducible rfl
                        simp only [Act.put, List.setIfInBounds_toArray, List.set_cons_zero, List.set_cons_succ]
                        refine heldTake 6 (some 93) (v := ?_) rfl rfl (by kernel_rfl) (by kernel_rfl) (by kernel_rfl) (by rfl) hHeld (fun _ _ _ h => h) ?_ ?_
                        rotate_left
                        · intro w' hSw; (try dsimp only at hSw); go_simp <;> with_reducible rfl
                        simp only [Act.put, List.setIfInBounds_toArray, List.set_cons_zero, List.set_cons_succ]
                        refine heldTake 7 (some 94) (v := ?_) rfl rfl (by kernel_rfl) (by kernel_rfl) (by kernel_rfl) (by rfl) hHeld (fun _ _ _ h => h) ?_ ?_
                        rotate_left
                        · intro w' hSw; (try dsimp only at hSw); obtain ⟨e0, e1, e2, e3, e4, e5, e6, e7, e8⟩ := GY2.out w' hSw; go_simp <;> with_reducible rfl
                        simp only [Act.put, List.setIfInBounds_toArray, List.set_cons_zero, List.set_cons_succ]
                        refine heldTake 8 (some 95) (v := ?_) rfl rfl (by kernel_rfl) (by kernel_rfl) (by kernel_rfl) (by rfl) hHeld (fun _ _ _ h => h) ?_ ?_
                        rotate_left
                        · intro w' hSw; (try dsimp only at hSw); obtain ⟨e0, e1, e2, e3, e4, e5, e6, e7, e8⟩ := HLB2.out w' hSw; go_simp <;> with_reducible rfl
                        simp only [Act.put, List.setIfInBounds_toArray, List.set_cons_zero, List.set_cons_succ]
                        refine heldCall 9 (some 96) (f := ?_) (args := ?_) rfl rfl (by kernel_rfl) (by rfl) ?_ ?_
                        rotate_left 2
                        · go_simp <;> first | (constructor <;> with_reducible rfl) | with_reducible rfl
                        (with_reducible refine (KYX _).mono ?_)
                        rintro _ w5 ⟨rfl, hb5'⟩
                        have hb5 : Below wy.heap.size wy w5 := (Below.undrew hb5')
                        refine ⟨_, rfl, keepAnd ?_ (fun hNew => ?_)⟩
                        · exact hb5
                        clear hHeld
                        have hHeld := hNew
                        clear hNew
                        simp only [Act.put, List.setIfInBounds_toArray, List.set_cons_zero, List.set_cons_succ]
                        refine heldTake 10 (some 97) (v := ?_) rfl rfl (by kernel_rfl) (by kernel_rfl) (by kernel_rfl) (by rfl) hHeld (fun _ _ _ h => h) ?_ ?_
                        rotate_left
                        · intro w' hSw; (try dsimp only at hSw); go_simp <;> with_reducible rfl
                        simp only [Act.put, List.setIfInBounds_toArray, List.set_cons_zero, List.set_cons_succ]
                        refine heldTake 11 (some 98) (v := ?_) rfl rfl (by kernel_rfl) (by kernel_rfl) (by kernel_rfl) (by rfl) hHeld (fun _ _ _ h => h) ?_ ?_
                        rotate_left
                        · intro w' hSw; (try dsimp only at hSw); go_simp <;> with_reducible rfl
                        simp only [Act.put, List.setIfInBounds_toArray, List.set_cons_zero, List.set_cons_succ]
                        refine wpAnyH_done (by kernel_rfl) ?_ _
                        refine NoPanic.normal ?_
                        clear hHeld
                        go_wp2_with fail
                        go_ret2
                        refine MergeOut.err (r := 10) rfl (HBy.out.trans (hb5.mono HBy.out.size)) ⟨fun h => absurd H0.out h, fun _ => .inr ⟨rfl, rfl, ?_⟩⟩
                        rw [HFL.out]
                        exact not_cmp HALL.out HP.out HQM.out HLX.out.symm HLY.out.symm
                      case true =>
                        go_wp2_with fail
                        refine wp_region_noPanic ?_
                        refine wp_region_held_drew (S := (fun w' => Below wy.heap.size wy w')) (by kernel_rfl) ?_ (fun hHeld => ?_)
                        · exact (Below.refl _ _).drew
                        refine heldTake 0 (some 87) (v := ?_) rfl rfl (by kernel_rfl) (by kernel_rfl) (by kernel_rfl) (by rfl) hHeld (fun _ _ _ h => h) ?_ ?_
                        rotate_left
                        · intro w' hSw; (try dsimp only at hSw); go_simp <;> with_reducible rfl
                        simp only [Act.put, List.setIfInBounds_toArray, List.set_cons_zero, List.set_cons_succ]
                        refine heldTake 1 (some 88) (v := ?_) rfl rfl (by kernel_rfl) (by kernel_rfl) (by kernel_rfl) (by rfl) hHeld (fun _ _ _ h => h) ?_ ?_
                        rotate_left
                        · intro w' hSw; (try dsimp only at hSw); go_simp <;> with_reducible rfl
                        simp only [Act.put, List.setIfInBounds_toArray, List.set_cons_zero, List.set_cons_succ]
                        refine heldTake 2 (some 89) (v := ?_) rfl rfl (by kernel_rfl) (by kernel_rfl) (by kernel_rfl) (by rfl) hHeld (fun _ _ _ h => h) ?_ ?_
                        rotate_left
                        · intro w' hSw; (try dsimp only at hSw); go_simp <;> with_reducible rfl
                        simp only [Act.put, List.setIfInBounds_toArray, List.set_cons_zero, List.set_cons_succ]
                        refine heldTake 3 (some 90) (v := ?_) rfl rfl (by kernel_rfl) (by kernel_rfl) (by kernel_rfl) (by rfl) hHeld (fun _ _ _ h => h) ?_ ?_
                        rotate_left
                        · intro w' hSw; (try dsimp only at hSw); go_simp <;> with_reducible rfl
                        simp only [Act.put, List.setIfInBounds_toArray, List.set_cons_zero, List.set_cons_succ]
                        refine heldTake 4 (some 91) (v := ?_) rfl rfl (by kernel_rfl) (by kernel_rfl) (by kernel_rfl) (by rfl) hHeld (fun _ _ _ h => h) ?_ ?_
                        rotate_left
                        · intro w' hSw; (try dsimp only at hSw); go_simp <;> with_reducible rfl
                        simp only [Act.put, List.setIfInBounds_toArray, List.set_cons_zero, List.set_cons_succ]
                        refine heldTake 5 (some 92) (v := ?_) rfl rfl (by kernel_rfl) (by kernel_rfl) (by kernel_rfl) (by rfl) hHeld (fun _ _ _ h => h) ?_ ?_
                        rotate_left
                        · intro w' hSw; (try dsimp only at hSw); go_simp <;> with_reducible rfl
                        simp only [Act.put, List.setIfInBounds_toArray, List.set_cons_zero, List.set_cons_succ]
                        refine heldTake 6 (some 93) (v := ?_) rfl rfl (by kernel_rfl) (by kernel_rfl) (by kernel_rfl) (by rfl) hHeld (fun _ _ _ h => h) ?_ ?_
                        rotate_left
                        · intro w' hSw; (try dsimp only at hSw); go_simp <;> with_reducible rfl
                        simp only [Act.put, List.setIfInBounds_toArray, List.set_cons_zero, List.set_cons_succ]
                        refine heldTake 7 (some 94) (v := ?_) rfl rfl (by kernel_rfl) (by kernel_rfl) (by kernel_rfl) (by rfl) hHeld (fun _ _ _ h => h) ?_ ?_
                        rotate_left
                        · intro w' hSw; (try dsimp only at hSw); obtain ⟨e0, e1, e2, e3, e4, e5, e6, e7, e8⟩ := GY2.out w' hSw; go_simp <;> with_reducible rfl
                        simp only [Act.put, List.setIfInBounds_toArray, List.set_cons_zero, List.set_cons_succ]
                        refine heldTake 8 (some 95) (v := ?_) rfl rfl (by kernel_rfl) (by kernel_rfl) (by kernel_rfl) (by rfl) hHeld (fun _ _ _ h => h) ?_ ?_
                        rotate_left
                        · intro w' hSw; (try dsimp only at hSw); obtain ⟨e0, e1, e2, e3, e4, e5, e6, e7, e8⟩ := HLB2.out w' hSw; go_simp <;> with_reducible rfl
                        simp only [Act.put, List.setIfInBounds_toArray, List.set_cons_zero, List.set_cons_succ]
                        refine heldCall 9 (some 96) (f := ?_) (args := ?_) rfl rfl (by kernel_rfl) (by rfl) ?_ ?_
                        rotate_left 2
                        · go_simp <;> first | (constructor <;> with_reducible rfl) | with_reducible rfl
                        (with_reducible refine (KYX _).mono ?_)
                        rintro _ w5 ⟨rfl, hb5'⟩
                        have hb5 : Below wy.heap.size wy w5 := (Below.undrew hb5')
                        refine ⟨_, rfl, keepAnd ?_ (fun hNew => ?_)⟩
                        · exact hb5
                        clear hHeld
                        have hHeld := hNew
                        clear hNew
                        simp only [Act.put, List.setIfInBounds_toArray, List.set_cons_zero, List.set_cons_succ]
                        refine heldTake 10 (some 97) (v := ?_) rfl rfl (by kernel_rfl) (by kernel_rfl) (by kernel_rfl) (by rfl) hHeld (fun _ _ _ h => h) ?_ ?_
                        rotate_left
                        · intro w' hSw; (try dsimp only at hSw); go_simp <;> with_reducible rfl
                        simp only [Act.put, List.setIfInBounds_toArray, List.set_cons_zero, List.set_cons_succ]
                        refine heldTake 11 (some 98) (v := ?_) rfl rfl (by kernel_rfl) (by kernel_rfl) (by kernel_rfl) (by rfl) hHeld (fun _ _ _ h => h) ?_ ?_
                        rotate_left
                        · intro w' hSw; (try dsimp only at hSw); go_simp <;> with_reducible rfl
                        simp only [Act.put, List.setIfInBounds_toArray, List.set_cons_zero, List.set_cons_succ]
                        refine wpAnyH_done (by kernel_rfl) ?_ _
                        refine NoPanic.normal ?_
                        clear hHeld
                        have hO6 : OwnP w5 w.heap.size (.slice (some ⟨g, 0, none⟩) (Q.length + 1) cap) (ins Q i (((⟨x1, x2, xA, xn, xc, x3, x4, x5, x6, x7, x8⟩ : RV), x) : VP)) := HOF.out.keep hb5
                        have hP6 : (ins Q i (((⟨x1, x2, xA, xn, xc, x3, x4, x5, x6, x7, x8⟩ : RV), x) : VP)).Perm (allP (ls.take k) ++ ps.take (j + 1)) := by
                          rw [HTK.out, ← List.append_assoc]
                          exact (ins_perm Q i (((⟨x1, x2, xA, xn, xc, x3, x4, x5, x6, x7, x8⟩ : RV), x) : VP)).trans (HP.out.append_right _)
                        have hS6 := HSO.out (fun _ => by unfold ltVP; rw [← HLY.out])
                        have hB6 : Below w.heap.size w w5 := HBy.out.trans (hb5.mono HBy.out.size)
                        have HO6 := Lib.hid hO6
                        have HP6 := Lib.hid hP6
                        have HS6 := Lib.hid hS6
                        have hl6 := HLTJ.out
                        clear hO6 hP6 hS6
                        go_wp2_with fail
                        go_roundw
                        case rel => exact ⟨j + 1, ins Q i (((⟨x1, x2, xA, xn, xc, x3, x4, x5, x6, x7, x8⟩ : RV), x) : VP), by go_num, by have := HLTJ.out; omega, by first | exact HO6 | (have := HO6; simpa using this), HP6, HS6, hB6⟩
                        case measure => have := HLTJ.out; simp [intOf]; omega
end Go.Proofs.Ytkhmjlahlcighaa
