/-
 SmH
-/
import Derived.Test.YtbfdegkickjbpaaGreatSSmG
namespace Go.Proofs.YtbfdegkickjbpaaGreat
open Go.RowKit Go.Lib Go.IntWalk Go.Sort Go.Shelf
set_option maxRecDepth 1000000 in
set_option maxHeartbeats 16000000 in
theorem refSameRules_any (ppla qpla : Value) (ppol qpol : Value) (phor qhor : Value) (xpla ypla : List Hld) (xpol ypol : List Pol) (xhor yhor : List Hor) (w : World) (hxpla : RdE 6 Hld.enc w (· < w.heap.size) ppla xpla) (hypla : RdE 6 Hld.enc w (· < w.heap.size) qpla ypla) (hxpol : RdE 2 Pol.enc w (· < w.heap.size) ppol xpol) (hypol : RdE 2 Pol.enc w (· < w.heap.size) qpol ypol) (hxhor : RdE 2 Hor.enc w (· < w.heap.size) phor xhor) (hyhor : RdE 2 Hor.enc w (· < w.heap.size) qhor yhor) :
  Calls Tryz.prog 86 #[ppla, qpla, ppol, qpol, phor, qhor] w fun e w' => e = .returned (.bool (sameL sHld xpla ypla && (sameL sPol xpol ypol && sameL sHor xhor yhor))) ∧ Below w.heap.size w w' := by
 obtain ⟨Apla, cpla, rfl, apla, npla, zpla⟩ := Rd.open_ (show Rd w _ 6 ppla xpla.length (xpla.flatMap Hld.enc) from hxpla)
 obtain ⟨Bpla, dpla, rfl, bpla, mpla, y'pla⟩ := Rd.open_ (show Rd w _ 6 qpla ypla.length (ypla.flatMap Hld.enc) from hypla)
 unfold maxLen at npla mpla
 have Hx1 := Lib.hid hxpla
 have Hy1 := Lib.hid hypla
 clear zpla y'pla hxpla hypla
 obtain ⟨Apol, cpol, rfl, apol, npol, zpol⟩ := Rd.open_ (show Rd w _ 2 ppol xpol.length (xpol.flatMap Pol.enc) from hxpol)
 obtain ⟨Bpol, dpol, rfl, bpol, mpol, y'pol⟩ := Rd.open_ (show Rd w _ 2 qpol ypol.length (ypol.flatMap Pol.enc) from hypol)
 unfold maxLen at npol mpol
 have Hx2 := Lib.hid hxpol
 have Hy2 := Lib.hid hypol
 clear zpol y'pol hxpol hypol
 obtain ⟨Ahor, chor, rfl, ahor, nhor, zhor⟩ := Rd.open_ (show Rd w _ 2 phor xhor.length (xhor.flatMap Hor.enc) from hxhor)
 obtain ⟨Bhor, dhor, rfl, bhor, mhor, y'hor⟩ := Rd.open_ (show Rd w _ 2 qhor yhor.length (yhor.flatMap Hor.enc) from hyhor)
 unfold maxLen at nhor mhor
 have Hx3 := Lib.hid hxhor
 have Hy3 := Lib.hid hyhor
 clear zhor y'hor hxhor hyhor
 obtain ⟨rs, hrs⟩ : ∃ r, r = (sameL sHld xpla ypla && (sameL sPol xpol ypol && sameL sHor xhor yhor)) := ⟨_, rfl⟩
 rw [← hrs]
 have HR := Lib.hid hrs
 clear hrs
 have HC0 : Hid (Below w.heap.size w w) := Lib.hid (Below.refl _ _)
 obtain ⟨v1, hv1⟩ : ∃ bo, bo = sameL sHld xpla ypla := ⟨_, rfl⟩
 rw [← hv1] at HR
 have Hv1 := Lib.hid hv1
 clear hv1
 obtain ⟨v2, hv2⟩ : ∃ bo, bo = sameL sPol xpol ypol := ⟨_, rfl⟩
 rw [← hv2] at HR
 have Hv2 := Lib.hid hv2
 clear hv2
 obtain ⟨v3, hv3⟩ : ∃ bo, bo = sameL sHor xhor yhor := ⟨_, rfl⟩
 rw [← hv3] at HR
 have Hv3 := Lib.hid hv3
 clear hv3
 by_cases tt34 : xpla.length = ypla.length
 case neg =>
  have gg34 : v1 = false := by rw [Hv1.out]; exact sameL_len tt34
  have ss34 : ¬ (xpla.length : Int) = (ypla.length : Int) := by omega
  have ff34 : ((xpla.length : Int) != (ypla.length : Int)) = true := by simpa using ss34
  have HF : Hid (rs = false) := Lib.hid (by rw [HR.out, gg34] <;> simp)
  go_enter Tryz.func86, Tryz.ntmps86
  go_wp2_with fail
  go_ret
  exact ⟨by rw [HF.out] <;> first | rfl | (simp; done), HC0.out⟩
 case pos =>
  have HL1 := Lib.hid tt34
  have ss34 : (xpla.length : Int) = (ypla.length : Int) := by omega
  have ff34 : ((xpla.length : Int) != (ypla.length : Int)) = false := by simpa using ss34
  clear tt34 ss34
  by_cases tt35 : xpol.length = ypol.length
  case neg =>
   have gg35 : v2 = false := by rw [Hv2.out]; exact sameL_len tt35
   have ss35 : ¬ (xpol.length : Int) = (ypol.length : Int) := by omega
   have ff35 : ((xpol.length : Int) != (ypol.length : Int)) = true := by simpa using ss35
   have HF : Hid (rs = false) := Lib.hid (by rw [HR.out, gg35] <;> simp)
   go_enter Tryz.func86, Tryz.ntmps86
   go_wp2_with fail
   go_ret
   exact ⟨by rw [HF.out] <;> first | rfl | (simp; done), HC0.out⟩
  case pos =>
   have HL2 := Lib.hid tt35
   have ss35 : (xpol.length : Int) = (ypol.length : Int) := by omega
   have ff35 : ((xpol.length : Int) != (ypol.length : Int)) = false := by simpa using ss35
   clear tt35 ss35
   by_cases tt36 : xhor.length = yhor.length
   case neg =>
    have gg36 : v3 = false := by rw [Hv3.out]; exact sameL_len tt36
    have ss36 : ¬ (xhor.length : Int) = (yhor.length : Int) := by omega
    have ff36 : ((xhor.length : Int) != (yhor.length : Int)) = true := by simpa using ss36
    have HF : Hid (rs = false) := Lib.hid (by rw [HR.out, gg36] <;> simp)
    go_enter Tryz.func86, Tryz.ntmps86
    go_wp2_with fail
    go_ret
    exact ⟨by rw [HF.out] <;> first | rfl | (simp; done), HC0.out⟩
   case pos =>
    have HL3 := Lib.hid tt36
    have ss36 : (xhor.length : Int) = (yhor.length : Int) := by omega
    have ff36 : ((xhor.length : Int) != (yhor.length : Int)) = false := by simpa using ss36
    clear tt36 ss36
    go_enter Tryz.func86, Tryz.ntmps86
    go_wp2_with fail
    go_loopw [37] (fun i wr => ∃ k : Nat, i = .int .i64 (k : Int) ∧ k ≤ xpla.length ∧ Hid (sameL sHld (xpla.drop k) (ypla.drop k) = v1) ∧ Hid (Below w.heap.size w wr)) (fun i _ => xpla.length - (intOf i).toNat)
    case atStart => exact ⟨0, rfl, Nat.zero_le _, Lib.hid Hv1.out.symm, HC0⟩
    case round =>
     obtain ⟨k, rfl, hk, HG, HB37⟩ := hrel
     obtain ⟨wi37, rfl⟩ : ∃ wi : World, wi = wr := ⟨_, rfl⟩
     by_cases hlt : k < xpla.length
     case neg =>
      have hlt3 : ¬ (k : Int) < (xpla.length : Int) := by omega
      have HT37 : Hid (v1 = true) := Lib.hid (by rw [← HG.out]; exact sameL_end (by omega) (by have := HL1.out; omega))
      go_wp2_with fail
      go_loopw [52] (fun i wr => ∃ k : Nat, i = .int .i64 (k : Int) ∧ k ≤ xpol.length ∧ Hid (sameL sPol (xpol.drop k) (ypol.drop k) = v2) ∧ Hid (Below w.heap.size w wr)) (fun i _ => xpol.length - (intOf i).toNat)
      case atStart => exact ⟨0, rfl, Nat.zero_le _, Lib.hid Hv2.out.symm, HB37⟩
      case round =>
       obtain ⟨k, rfl, hk, HG, HB38⟩ := hrel
       obtain ⟨wi38, rfl⟩ : ∃ wi : World, wi = wr := ⟨_, rfl⟩
       by_cases hlt : k < xpol.length
       case neg =>
        have hlt3 : ¬ (k : Int) < (xpol.length : Int) := by omega
        have HT38 : Hid (v2 = true) := Lib.hid (by rw [← HG.out]; exact sameL_end (by omega) (by have := HL2.out; omega))
        go_wp2_with fail
        go_loopw [67] (fun i wr => ∃ k : Nat, i = .int .i64 (k : Int) ∧ k ≤ xhor.length ∧ Hid (sameL sHor (xhor.drop k) (yhor.drop k) = v3) ∧ Hid (Below w.heap.size w wr)) (fun i _ => xhor.length - (intOf i).toNat)
        case atStart => exact ⟨0, rfl, Nat.zero_le _, Lib.hid Hv3.out.symm, HB38⟩
        case round =>
         obtain ⟨k, rfl, hk, HG, HB39⟩ := hrel
         obtain ⟨wi39, rfl⟩ : ∃ wi : World, wi = wr := ⟨_, rfl⟩
         by_cases hlt : k < xhor.length
         case neg =>
          have hlt3 : ¬ (k : Int) < (xhor.length : Int) := by omega
          have HT39 : Hid (v3 = true) := Lib.hid (by rw [← HG.out]; exact sameL_end (by omega) (by have := HL3.out; omega))
          have HF : Hid (rs = true) := Lib.hid (by rw [HR.out, HT37.out, HT38.out, HT39.out] <;> first | rfl | (simp; done))
          go_wp2_with fail
          go_ret
          exact ⟨by rw [HF.out] <;> first | rfl | (simp; done), HB39.out⟩
         case pos =>
          have hlt' : k < yhor.length := by have := HL3.out; omega
          have hlt3 : (k : Int) < (xhor.length : Int) := by omega
          have hlt4 : (k : Int) < (yhor.length : Int) := by omega
          obtain ⟨b, off, rfl, hF, hcl⟩ := RdE.at_ (K := 2) (enc := Hor.enc) (fun _ => rfl) (by omega) Hx3.out hlt
          obtain ⟨b', off', rfl, hF', hcl'⟩ := RdE.at_ (K := 2) (enc := Hor.enc) (fun _ => rfl) (by omega) Hy3.out hlt'
          have HBL := Lib.hid hF
          have HBM := Lib.hid hF'
          have hcx := hcl k hlt
          have hcy := hcl' k hlt'
          have hg := HG.out
          rw [sameL_at hlt hlt'] at hg
          have ha := List.getElem_mem hlt
          have hb := List.getElem_mem hlt'
          obtain ⟨x, hx⟩ : ∃ x, x = xhor[k] := ⟨_, rfl⟩
          obtain ⟨y, hy⟩ : ∃ y, y = yhor[k] := ⟨_, rfl⟩
          rw [← hx] at hcx hg ha
          rw [← hy] at hcy hg hb
          obtain ⟨bo, hbo⟩ : ∃ bo, bo = sHor x y := ⟨_, rfl⟩
          rw [← hbo] at hg
          have HG2 := Lib.hid hg
          clear hx hy hcl hcl' hF hF' hg HG
          obtain ⟨x1, x2⟩ := x
          obtain ⟨y1, y2⟩ := y
          have g0 : w.cell? ⟨b, off + k * 2, none⟩ = some (.string x1) := hcx 0 _ (by decide) rfl
          have g1 : w.cell? ⟨b, off + k * 2 + 1, none⟩ = some (.int .i64 x2) := hcx 1 _ (by decide) rfl
          have h0 : w.cell? ⟨b', off' + k * 2, none⟩ = some (.string y1) := hcy 0 _ (by decide) rfl
          have h1 : w.cell? ⟨b', off' + k * 2 + 1, none⟩ = some (.int .i64 y2) := hcy 1 _ (by decide) rfl
          have HRX : Hid (bo = (eqS x1 y1 && (decide (x2 = y2)))) := Lib.hid hbo
          clear hcx hcy hbo
          clear ha hb
          go_wp2_with fail
          refine wp_region_noPanic ?_
          refine wp_region_held_drew (S := (fun w' => Below w.heap.size w w')) (by kernel_rfl) ?_ (fun hHeld => ?_)
          ·exact HB39.out.drew
          refine heldTake 0 (some 70) (v := ?_) rfl rfl (by kernel_rfl) (by kernel_rfl) (by kernel_rfl) (by rfl) hHeld (fun _ _ _ h => h) ?_ ?_
          rotate_left
          ·intro w' hSw; (try dsimp only at hSw); go_simp <;> with_reducible rfl
          simp only [Act.put, List.setIfInBounds_toArray, List.set_cons_zero, List.set_cons_succ]
          refine heldTake 1 (some 71) (v := ?_) rfl rfl (by kernel_rfl) (by kernel_rfl) (by kernel_rfl) (by rfl) hHeld (fun _ _ _ h => h) ?_ ?_
          rotate_left
          ·intro w' hSw; (try dsimp only at hSw); go_simp <;> with_reducible rfl
          simp only [Act.put, List.setIfInBounds_toArray, List.set_cons_zero, List.set_cons_succ]
          refine heldTake 2 (some 72) (v := ?_) rfl rfl (by kernel_rfl) (by kernel_rfl) (by kernel_rfl) (by rfl) hHeld (fun _ _ _ h => h) ?_ ?_
          rotate_left
          ·intro w' hSw; (try dsimp only at hSw); go_simp <;> with_reducible rfl
          simp only [Act.put, List.setIfInBounds_toArray, List.set_cons_zero, List.set_cons_succ]
          refine heldTake 3 (some 73) (v := ?_) rfl rfl (by kernel_rfl) (by kernel_rfl) (by kernel_rfl) (by rfl) hHeld (fun _ _ _ h => h) ?_ ?_
          rotate_left
          ·intro w' hSw; (try dsimp only at hSw); have q0 : w'.cell? ⟨b, off + k * 2, none⟩ = some (.string x1) := (World.cell?_of_block (hSw.block _ HBL.out)).trans g0; have q1 : w'.cell? ⟨b, off + k * 2 + 1, none⟩ = some (.int .i64 x2) := (World.cell?_of_block (hSw.block _ HBL.out)).trans g1; go_simp <;> with_reducible rfl
          simp only [Act.put, List.setIfInBounds_toArray, List.set_cons_zero, List.set_cons_succ]
          refine heldTake 4 (some 74) (v := ?_) rfl rfl (by kernel_rfl) (by kernel_rfl) (by kernel_rfl) (by rfl) hHeld (fun _ _ _ h => h) ?_ ?_
          rotate_left
          ·intro w' hSw; (try dsimp only at hSw); go_simp <;> with_reducible rfl
          simp only [Act.put, List.setIfInBounds_toArray, List.set_cons_zero, List.set_cons_succ]
          refine heldTake 5 (some 75) (v := ?_) rfl rfl (by kernel_rfl) (by kernel_rfl) (by kernel_rfl) (by rfl) hHeld (fun _ _ _ h => h) ?_ ?_
          rotate_left
          ·intro w' hSw; (try dsimp only at hSw); go_simp <;> with_reducible rfl
          simp only [Act.put, List.setIfInBounds_toArray, List.set_cons_zero, List.set_cons_succ]
          refine heldTake 6 (some 76) (v := ?_) rfl rfl (by kernel_rfl) (by kernel_rfl) (by kernel_rfl) (by rfl) hHeld (fun _ _ _ h => h) ?_ ?_
          rotate_left
          ·intro w' hSw; (try dsimp only at hSw); go_simp <;> with_reducible rfl
          simp only [Act.put, List.setIfInBounds_toArray, List.set_cons_zero, List.set_cons_succ]
          refine heldTake 7 (some 77) (v := ?_) rfl rfl (by kernel_rfl) (by kernel_rfl) (by kernel_rfl) (by rfl) hHeld (fun _ _ _ h => h) ?_ ?_
          rotate_left
          ·intro w' hSw; (try dsimp only at hSw); have q0 : w'.cell? ⟨b', off' + k * 2, none⟩ = some (.string y1) := (World.cell?_of_block (hSw.block _ HBM.out)).trans h0; have q1 : w'.cell? ⟨b', off' + k * 2 + 1, none⟩ = some (.int .i64 y2) := (World.cell?_of_block (hSw.block _ HBM.out)).trans h1; go_simp <;> with_reducible rfl
          simp only [Act.put, List.setIfInBounds_toArray, List.set_cons_zero, List.set_cons_succ]
          cases ee40 : (x1.toList == y1.toList)
          case false =>
           have gg40 : Hid (eqS x1 y1 = false) := Lib.hid ee40
           have ff40 : (x1.toList != y1.toList) = true := by rw [bne, ee40]; rfl
           have HF : Hid (bo = false) := Lib.hid (by rw [HRX.out, gg40.out] <;> first | rfl | (simp; done))
           have HE : Hid (v3 = false) := Lib.hid (by rw [← HG2.out, HF.out]; rfl)
           have HFR : Hid (rs = false) := Lib.hid (by rw [HR.out, HE.out] <;> simp)
           refine heldTake 8 (some 78) (v := ?_) rfl rfl (by kernel_rfl) (by kernel_rfl) (by kernel_rfl) (by rfl) hHeld (fun _ _ _ h => h) ?_ ?_
           rotate_left
           ·intro w' hSw; (try dsimp only at hSw); go_simp <;> with_reducible rfl
           simp only [Act.put, List.setIfInBounds_toArray, List.set_cons_zero, List.set_cons_succ]
           refine wpAnyH_done (by kernel_rfl) ?_ _
           refine NoPanic.normal ?_
           have HZ : Hid (Below w.heap.size w _) := Lib.hid hHeld
           go_wp2_with fail
           go_ret
           exact ⟨by rw [HFR.out] <;> rfl, HZ.out⟩
          case true =>
           have GG40 : Hid (eqS x1 y1 = true) := Lib.hid ee40
           have ff40 : (x1.toList != y1.toList) = false := by rw [bne, ee40]; rfl
           by_cases tt41 : x2 = y2
           case neg =>
            have gg41 : Hid (decide (x2 = y2) = false) := Lib.hid (decide_eq_false tt41)
            have ee41 : (x2 == y2) = false := by simpa using tt41
            have ff41 : (x2 != y2) = true := by simpa using tt41
            have HF : Hid (bo = false) := Lib.hid (by rw [HRX.out, GG40.out, gg41.out] <;> first | rfl | (simp; done))
            have HE : Hid (v3 = false) := Lib.hid (by rw [← HG2.out, HF.out]; rfl)
            have HFR : Hid (rs = false) := Lib.hid (by rw [HR.out, HE.out] <;> simp)
            refine heldTake 8 (some 78) (v := ?_) rfl rfl (by kernel_rfl) (by kernel_rfl) (by kernel_rfl) (by rfl) hHeld (fun _ _ _ h => h) ?_ ?_
            rotate_left
            ·intro w' hSw; (try dsimp only at hSw); go_simp <;> with_reducible rfl
            simp only [Act.put, List.setIfInBounds_toArray, List.set_cons_zero, List.set_cons_succ]
            refine wpAnyH_done (by kernel_rfl) ?_ _
            refine NoPanic.normal ?_
            have HZ : Hid (Below w.heap.size w _) := Lib.hid hHeld
            go_wp2_with fail
            go_ret
            exact ⟨by rw [HFR.out] <;> rfl, HZ.out⟩
           case pos =>
            have GG41 : Hid (decide (x2 = y2) = true) := Lib.hid (decide_eq_true tt41)
            have ee41 : (x2 == y2) = true := by simpa using tt41
            have ff41 : (x2 != y2) = false := by simpa using tt41
            clear tt41
            refine heldTake 8 (some 78) (v := ?_) rfl rfl (by kernel_rfl) (by kernel_rfl) (by kernel_rfl) (by rfl) hHeld (fun _ _ _ h => h) ?_ ?_
            rotate_left
            ·intro w' hSw; (try dsimp only at hSw); go_simp <;> with_reducible rfl
            simp only [Act.put, List.setIfInBounds_toArray, List.set_cons_zero, List.set_cons_succ]
            refine wpAnyH_done (by kernel_rfl) ?_ _
            refine NoPanic.normal ?_
            have HF : Hid (bo = true) := Lib.hid (by rw [HRX.out, GG40.out, GG41.out] <;> first | rfl | (simp; done))
            have HN : Hid (sameL sHor (xhor.drop (k + 1)) (yhor.drop (k + 1)) = v3) := Lib.hid (by rw [← HG2.out, HF.out]; simp)
            have HZ : Hid (Below w.heap.size w _) := Lib.hid hHeld
            go_wp2_with fail
            go_roundw
            case rel => exact ⟨k + 1, by go_num, hlt, HN, HZ⟩
            case measure => simp [intOf]; omega
       case pos =>
        have hlt' : k < ypol.length := by have := HL2.out; omega
        have hlt3 : (k : Int) < (xpol.length : Int) := by omega
        have hlt4 : (k : Int) < (ypol.length : Int) := by omega
        obtain ⟨b, off, rfl, hF, hcl⟩ := RdE.at_ (K := 2) (enc := Pol.enc) (fun _ => rfl) (by omega) Hx2.out hlt
        obtain ⟨b', off', rfl, hF', hcl'⟩ := RdE.at_ (K := 2) (enc := Pol.enc) (fun _ => rfl) (by omega) Hy2.out hlt'
        have HBL := Lib.hid hF
        have HBM := Lib.hid hF'
        have hcx := hcl k hlt
        have hcy := hcl' k hlt'
        have hg := HG.out
        rw [sameL_at hlt hlt'] at hg
        have ha := List.getElem_mem hlt
        have hb := List.getElem_mem hlt'
        obtain ⟨x, hx⟩ : ∃ x, x = xpol[k] := ⟨_, rfl⟩
        obtain ⟨y, hy⟩ : ∃ y, y = ypol[k] := ⟨_, rfl⟩
        rw [← hx] at hcx hg ha
        rw [← hy] at hcy hg hb
        obtain ⟨bo, hbo⟩ : ∃ bo, bo = sPol x y := ⟨_, rfl⟩
        rw [← hbo] at hg
        have HG2 := Lib.hid hg
        clear hx hy hcl hcl' hF hF' hg HG
        obtain ⟨x1, x2⟩ := x
        obtain ⟨y1, y2⟩ := y
        have g0 : w.cell? ⟨b, off + k * 2, none⟩ = some (.string x1) := hcx 0 _ (by decide) rfl
        have g1 : w.cell? ⟨b, off + k * 2 + 1, none⟩ = some (.int .i64 x2) := hcx 1 _ (by decide) rfl
        have h0 : w.cell? ⟨b', off' + k * 2, none⟩ = some (.string y1) := hcy 0 _ (by decide) rfl
        have h1 : w.cell? ⟨b', off' + k * 2 + 1, none⟩ = some (.int .i64 y2) := hcy 1 _ (by decide) rfl
        have HRX : Hid (bo = (eqS x1 y1 && (decide (x2 = y2)))) := Lib.hid hbo
        clear hcx hcy hbo
        clear ha hb
        go_wp2_with fail
        refine wp_region_noPanic ?_
        refine wp_region_held_drew (S := (fun w' => Below w.heap.size w w')) (by kernel_rfl) ?_ (fun hHeld => ?_)
        ·exact HB38.out.drew
        refine heldTake 0 (some 55) (v := ?_) rfl rfl (by kernel_rfl) (by kernel_rfl) (by kernel_rfl) (by rfl) hHeld (fun _ _ _ h => h) ?_ ?_
        rotate_left
        ·intro w' hSw; (try dsimp only at hSw); go_simp <;> with_reducible rfl
        simp only [Act.put, List.setIfInBounds_toArray, List.set_cons_zero, List.set_cons_succ]
        refine heldTake 1 (some 56) (v := ?_) rfl rfl (by kernel_rfl) (by kernel_rfl) (by kernel_rfl) (by rfl) hHeld (fun _ _ _ h => h) ?_ ?_
        rotate_left
        ·intro w' hSw; (try dsimp only at hSw); go_simp <;> with_reducible rfl
        simp only [Act.put, List.setIfInBounds_toArray, List.set_cons_zero, List.set_cons_succ]
        refine heldTake 2 (some 57) (v := ?_) rfl rfl (by kernel_rfl) (by kernel_rfl) (by kernel_rfl) (by rfl) hHeld (fun _ _ _ h => h) ?_ ?_
        rotate_left
        ·intro w' hSw; (try dsimp only at hSw); go_simp <;> with_reducible rfl
        simp only [Act.put, List.setIfInBounds_toArray, List.set_cons_zero, List.set_cons_succ]
        refine heldTake 3 (some 58) (v := ?_) rfl rfl (by kernel_rfl) (by kernel_rfl) (by kernel_rfl) (by rfl) hHeld (fun _ _ _ h => h) ?_ ?_
        rotate_left
        ·intro w' hSw; (try dsimp only at hSw); have q0 : w'.cell? ⟨b, off + k * 2, none⟩ = some (.string x1) := (World.cell?_of_block (hSw.block _ HBL.out)).trans g0; have q1 : w'.cell? ⟨b, off + k * 2 + 1, none⟩ = some (.int .i64 x2) := (World.cell?_of_block (hSw.block _ HBL.out)).trans g1; go_simp <;> with_reducible rfl
        simp only [Act.put, List.setIfInBounds_toArray, List.set_cons_zero, List.set_cons_succ]
        refine heldTake 4 (some 59) (v := ?_) rfl rfl (by kernel_rfl) (by kernel_rfl) (by kernel_rfl) (by rfl) hHeld (fun _ _ _ h => h) ?_ ?_
        rotate_left
        ·intro w' hSw; (try dsimp only at hSw); go_simp <;> with_reducible rfl
        simp only [Act.put, List.setIfInBounds_toArray, List.set_cons_zero, List.set_cons_succ]
        refine heldTake 5 (some 60) (v := ?_) rfl rfl (by kernel_rfl) (by kernel_rfl) (by kernel_rfl) (by rfl) hHeld (fun _ _ _ h => h) ?_ ?_
        rotate_left
        ·intro w' hSw; (try dsimp only at hSw); go_simp <;> with_reducible rfl
        simp only [Act.put, List.setIfInBounds_toArray, List.set_cons_zero, List.set_cons_succ]
        refine heldTake 6 (some 61) (v := ?_) rfl rfl (by kernel_rfl) (by kernel_rfl) (by kernel_rfl) (by rfl) hHeld (fun _ _ _ h => h) ?_ ?_
        rotate_left
        ·intro w' hSw; (try dsimp only at hSw); go_simp <;> with_reducible rfl
        simp only [Act.put, List.setIfInBounds_toArray, List.set_cons_zero, List.set_cons_succ]
        refine heldTake 7 (some 62) (v := ?_) rfl rfl (by kernel_rfl) (by kernel_rfl) (by kernel_rfl) (by rfl) hHeld (fun _ _ _ h => h) ?_ ?_
        rotate_left
        ·intro w' hSw; (try dsimp only at hSw); have q0 : w'.cell? ⟨b', off' + k * 2, none⟩ = some (.string y1) := (World.cell?_of_block (hSw.block _ HBM.out)).trans h0; have q1 : w'.cell? ⟨b', off' + k * 2 + 1, none⟩ = some (.int .i64 y2) := (World.cell?_of_block (hSw.block _ HBM.out)).trans h1; go_simp <;> with_reducible rfl
        simp only [Act.put, List.setIfInBounds_toArray, List.set_cons_zero, List.set_cons_succ]
        cases ee42 : (x1.toList == y1.toList)
        case false =>
         have gg42 : Hid (eqS x1 y1 = false) := Lib.hid ee42
         have ff42 : (x1.toList != y1.toList) = true := by rw [bne, ee42]; rfl
         have HF : Hid (bo = false) := Lib.hid (by rw [HRX.out, gg42.out] <;> first | rfl | (simp; done))
         have HE : Hid (v2 = false) := Lib.hid (by rw [← HG2.out, HF.out]; rfl)
         have HFR : Hid (rs = false) := Lib.hid (by rw [HR.out, HE.out] <;> simp)
         refine heldTake 8 (some 63) (v := ?_) rfl rfl (by kernel_rfl) (by kernel_rfl) (by kernel_rfl) (by rfl) hHeld (fun _ _ _ h => h) ?_ ?_
         rotate_left
         ·intro w' hSw; (try dsimp only at hSw); go_simp <;> with_reducible rfl
         simp only [Act.put, List.setIfInBounds_toArray, List.set_cons_zero, List.set_cons_succ]
         refine wpAnyH_done (by kernel_rfl) ?_ _
         refine NoPanic.normal ?_
         have HZ : Hid (Below w.heap.size w _) := Lib.hid hHeld
         go_wp2_with fail
         go_ret
         exact ⟨by rw [HFR.out] <;> rfl, HZ.out⟩
        case true =>
         have GG42 : Hid (eqS x1 y1 = true) := Lib.hid ee42
         have ff42 : (x1.toList != y1.toList) = false := by rw [bne, ee42]; rfl
         by_cases tt43 : x2 = y2
         case neg =>
          have gg43 : Hid (decide (x2 = y2) = false) := Lib.hid (decide_eq_false tt43)
          have ee43 : (x2 == y2) = false := by simpa using tt43
          have ff43 : (x2 != y2) = true := by simpa using tt43
          have HF : Hid (bo = false) := Lib.hid (by rw [HRX.out, GG42.out, gg43.out] <;> first | rfl | (simp; done))
          have HE : Hid (v2 = false) := Lib.hid (by rw [← HG2.out, HF.out]; rfl)
          have HFR : Hid (rs = false) := Lib.hid (by rw [HR.out, HE.out] <;> simp)
          refine heldTake 8 (some 63) (v := ?_) rfl rfl (by kernel_rfl) (by kernel_rfl) (by kernel_rfl) (by rfl) hHeld (fun _ _ _ h => h) ?_ ?_
          rotate_left
          ·intro w' hSw; (try dsimp only at hSw); go_simp <;> with_reducible rfl
          simp only [Act.put, List.setIfInBounds_toArray, List.set_cons_zero, List.set_cons_succ]
          refine wpAnyH_done (by kernel_rfl) ?_ _
          refine NoPanic.normal ?_
          have HZ : Hid (Below w.heap.size w _) := Lib.hid hHeld
          go_wp2_with fail
          go_ret
          exact ⟨by rw [HFR.out] <;> rfl, HZ.out⟩
         case pos =>
          have GG43 : Hid (decide (x2 = y2) = true) := Lib.hid (decide_eq_true tt43)
          have ee43 : (x2 == y2) = true := by simpa using tt43
          have ff43 : (x2 != y2) = false := by simpa using tt43
          clear tt43
          refine heldTake 8 (some 63) (v := ?_) rfl rfl (by kernel_rfl) (by kernel_rfl) (by kernel_rfl) (by rfl) hHeld (fun _ _ _ h => h) ?_ ?_
          rotate_left
          ·intro w' hSw; (try dsimp only at hSw); go_simp <;> with_reducible rfl
          simp only [Act.put, List.setIfInBounds_toArray, List.set_cons_zero, List.set_cons_succ]
          refine wpAnyH_done (by kernel_rfl) ?_ _
          refine NoPanic.normal ?_
          have HF : Hid (bo = true) := Lib.hid (by rw [HRX.out, GG42.out, GG43.out] <;> first | rfl | (simp; done))
          have HN : Hid (sameL sPol (xpol.drop (k + 1)) (ypol.drop (k + 1)) = v2) := Lib.hid (by rw [← HG2.out, HF.out]; simp)
          have HZ : Hid (Below w.heap.size w _) := Lib.hid hHeld
          go_wp2_with fail
          go_roundw
          case rel => exact ⟨k + 1, by go_num, hlt, HN, HZ⟩
          case measure => simp [intOf]; omega
     case pos =>
      have hlt' : k < ypla.length := by have := HL1.out; omega
      have hlt3 : (k : Int) < (xpla.length : Int) := by omega
      have hlt4 : (k : Int) < (ypla.length : Int) := by omega
      obtain ⟨b, off, rfl, hF, hcl⟩ := RdE.at_ (K := 6) (enc := Hld.enc) (fun _ => rfl) (by omega) Hx1.out hlt
      obtain ⟨b', off', rfl, hF', hcl'⟩ := RdE.at_ (K := 6) (enc := Hld.enc) (fun _ => rfl) (by omega) Hy1.out hlt'
      have HBL := Lib.hid hF
      have HBM := Lib.hid hF'
      have hcx := hcl k hlt
      have hcy := hcl' k hlt'
      have hg := HG.out
      rw [sameL_at hlt hlt'] at hg
      have ha := List.getElem_mem hlt
      have hb := List.getElem_mem hlt'
      obtain ⟨x, hx⟩ : ∃ x, x = xpla[k] := ⟨_, rfl⟩
      obtain ⟨y, hy⟩ : ∃ y, y = ypla[k] := ⟨_, rfl⟩
      rw [← hx] at hcx hg ha
      rw [← hy] at hcy hg hb
      obtain ⟨bo, hbo⟩ : ∃ bo, bo = sHld x y := ⟨_, rfl⟩
      rw [← hbo] at hg
      have HG2 := Lib.hid hg
      clear hx hy hcl hcl' hF hF' hg HG
      obtain ⟨x1, x2, x3, x4, x5, x6⟩ := x
      obtain ⟨y1, y2, y3, y4, y5, y6⟩ := y
      have g0 : w.cell? ⟨b, off + k * 6, none⟩ = some (.string x1) := hcx 0 _ (by decide) rfl
      have g1 : w.cell? ⟨b, off + k * 6 + 1, none⟩ = some (.string x2) := hcx 1 _ (by decide) rfl
      have g2 : w.cell? ⟨b, off + k * 6 + 2, none⟩ = some (.int .i64 x3) := hcx 2 _ (by decide) rfl
      have g3 : w.cell? ⟨b, off + k * 6 + 3, none⟩ = some (.int .i64 x4) := hcx 3 _ (by decide) rfl
      have g4 : w.cell? ⟨b, off + k * 6 + 4, none⟩ = some (.int .i64 x5) := hcx 4 _ (by decide) rfl
      have g5 : w.cell? ⟨b, off + k * 6 + 5, none⟩ = some (.int .i64 x6) := hcx 5 _ (by decide) rfl
      have h0 : w.cell? ⟨b', off' + k * 6, none⟩ = some (.string y1) := hcy 0 _ (by decide) rfl
      have h1 : w.cell? ⟨b', off' + k * 6 + 1, none⟩ = some (.string y2) := hcy 1 _ (by decide) rfl
      have h2 : w.cell? ⟨b', off' + k * 6 + 2, none⟩ = some (.int .i64 y3) := hcy 2 _ (by decide) rfl
      have h3 : w.cell? ⟨b', off' + k * 6 + 3, none⟩ = some (.int .i64 y4) := hcy 3 _ (by decide) rfl
      have h4 : w.cell? ⟨b', off' + k * 6 + 4, none⟩ = some (.int .i64 y5) := hcy 4 _ (by decide) rfl
      have h5 : w.cell? ⟨b', off' + k * 6 + 5, none⟩ = some (.int .i64 y6) := hcy 5 _ (by decide) rfl
      have HRX : Hid (bo = (eqS x1 y1 && (eqS x2 y2 && (decide (x3 = y3) && (decide (x4 = y4) && (decide (x5 = y5) && (decide (x6 = y6)))))))) := Lib.hid hbo
      clear hcx hcy hbo
      clear ha hb
      go_wp2_with fail
      refine wp_region_noPanic ?_
      refine wp_region_held_drew (S := (fun w' => Below w.heap.size w w')) (by kernel_rfl) ?_ (fun hHeld => ?_)
      ·exact HB37.out.drew
      refine heldTake 0 (some 40) (v := ?_) rfl rfl (by kernel_rfl) (by kernel_rfl) (by kernel_rfl) (by rfl) hHeld (fun _ _ _ h => h) ?_ ?_
      rotate_left
      ·intro w' hSw; (try dsimp only at hSw); go_simp <;> with_reducible rfl
      simp only [Act.put, List.setIfInBounds_toArray, List.set_cons_zero, List.set_cons_succ]
      refine heldTake 1 (some 41) (v := ?_) rfl rfl (by kernel_rfl) (by kernel_rfl) (by kernel_rfl) (by rfl) hHeld (fun _ _ _ h => h) ?_ ?_
      rotate_left
      ·intro w' hSw; (try dsimp only at hSw); go_simp <;> with_reducible rfl
      simp only [Act.put, List.setIfInBounds_toArray, List.set_cons_zero, List.set_cons_succ]
      refine heldTake 2 (some 42) (v := ?_) rfl rfl (by kernel_rfl) (by kernel_rfl) (by kernel_rfl) (by rfl) hHeld (fun _ _ _ h => h) ?_ ?_
      rotate_left
      ·intro w' hSw; (try dsimp only at hSw); go_simp <;> with_reducible rfl
      simp only [Act.put, List.setIfInBounds_toArray, List.set_cons_zero, List.set_cons_succ]
      refine heldTake 3 (some 43) (v := ?_) rfl rfl (by kernel_rfl) (by kernel_rfl) (by kernel_rfl) (by rfl) hHeld (fun _ _ _ h => h) ?_ ?_
      rotate_left
      ·intro w' hSw; (try dsimp only at hSw); have q0 : w'.cell? ⟨b, off + k * 6, none⟩ = some (.string x1) := (World.cell?_of_block (hSw.block _ HBL.out)).trans g0; have q1 : w'.cell? ⟨b, off + k * 6 + 1, none⟩ = some (.string x2) := (World.cell?_of_block (hSw.block _ HBL.out)).trans g1; have q2 : w'.cell? ⟨b, off + k * 6 + 2, none⟩ = some (.int .i64 x3) := (World.cell?_of_block (hSw.block _ HBL.out)).trans g2; have q3 : w'.cell? ⟨b, off + k * 6 + 3, none⟩ = some (.int .i64 x4) := (World.cell?_of_block (hSw.block _ HBL.out)).trans g3; have q4 : w'.cell? ⟨b, off + k * 6 + 4, none⟩ = some (.int .i64 x5) := (World.cell?_of_block (hSw.block _ HBL.out)).trans g4; have q5 : w'.cell? ⟨b, off + k * 6 + 5, none⟩ = some (.int .i64 x6) := (World.cell?_of_block (hSw.block _ HBL.out)).trans g5; go_simp <;> with_reducible rfl
      simp only [Act.put, List.setIfInBounds_toArray, List.set_cons_zero, List.set_cons_succ]
      refine heldTake 4 (some 44) (v := ?_) rfl rfl (by kernel_rfl) (by kernel_rfl) (by kernel_rfl) (by rfl) hHeld (fun _ _ _ h => h) ?_ ?_
      rotate_left
      ·intro w' hSw; (try dsimp only at hSw); go_simp <;> with_reducible rfl
      simp only [Act.put, List.setIfInBounds_toArray, List.set_cons_zero, List.set_cons_succ]
      refine heldTake 5 (some 45) (v := ?_) rfl rfl (by kernel_rfl) (by kernel_rfl) (by kernel_rfl) (by rfl) hHeld (fun _ _ _ h => h) ?_ ?_
      rotate_left
      ·intro w' hSw; (try dsimp only at hSw); go_simp <;> with_reducible rfl
      simp only [Act.put, List.setIfInBounds_toArray, List.set_cons_zero, List.set_cons_succ]
      refine heldTake 6 (some 46) (v := ?_) rfl rfl (by kernel_rfl) (by kernel_rfl) (by kernel_rfl) (by rfl) hHeld (fun _ _ _ h => h) ?_ ?_
      rotate_left
      ·intro w' hSw; (try dsimp only at hSw); go_simp <;> with_reducible rfl
      simp only [Act.put, List.setIfInBounds_toArray, List.set_cons_zero, List.set_cons_succ]
      refine heldTake 7 (some 47) (v := ?_) rfl rfl (by kernel_rfl) (by kernel_rfl) (by kernel_rfl) (by rfl) hHeld (fun _ _ _ h => h) ?_ ?_
      rotate_left
      ·intro w' hSw; (try dsimp only at hSw); have q0 : w'.cell? ⟨b', off' + k * 6, none⟩ = some (.string y1) := (World.cell?_of_block (hSw.block _ HBM.out)).trans h0; have q1 : w'.cell? ⟨b', off' + k * 6 + 1, none⟩ = some (.string y2) := (World.cell?_of_block (hSw.block _ HBM.out)).trans h1; have q2 : w'.cell? ⟨b', off' + k * 6 + 2, none⟩ = some (.int .i64 y3) := (World.cell?_of_block (hSw.block _ HBM.out)).trans h2; have q3 : w'.cell? ⟨b', off' + k * 6 + 3, none⟩ = some (.int .i64 y4) := (World.cell?_of_block (hSw.block _ HBM.out)).trans h3; have q4 : w'.cell? ⟨b', off' + k * 6 + 4, none⟩ = some (.int .i64 y5) := (World.cell?_of_block (hSw.block _ HBM.out)).trans h4; have q5 : w'.cell? ⟨b', off' + k * 6 + 5, none⟩ = some (.int .i64 y6) := (World.cell?_of_block (hSw.block _ HBM.out)).trans h5; go_simp <;> with_reducible rfl
      simp only [Act.put, List.setIfInBounds_toArray, List.set_cons_zero, List.set_cons_succ]
      cases ee44 : (x1.toList == y1.toList)
      case false =>
       have gg44 : Hid (eqS x1 y1 = false) := Lib.hid ee44
       have ff44 : (x1.toList != y1.toList) = true := by rw [bne, ee44]; rfl
       have HF : Hid (bo = false) := Lib.hid (by rw [HRX.out, gg44.out] <;> first | rfl | (simp; done))
       have HE : Hid (v1 = false) := Lib.hid (by rw [← HG2.out, HF.out]; rfl)
       have HFR : Hid (rs = false) := Lib.hid (by rw [HR.out, HE.out] <;> simp)
       refine heldTake 8 (some 48) (v := ?_) rfl rfl (by kernel_rfl) (by kernel_rfl) (by kernel_rfl) (by rfl) hHeld (fun _ _ _ h => h) ?_ ?_
       rotate_left
       ·intro w' hSw; (try dsimp only at hSw); go_simp <;> with_reducible rfl
       simp only [Act.put, List.setIfInBounds_toArray, List.set_cons_zero, List.set_cons_succ]
       refine wpAnyH_done (by kernel_rfl) ?_ _
       refine NoPanic.normal ?_
       have HZ : Hid (Below w.heap.size w _) := Lib.hid hHeld
       go_wp2_with fail
       go_ret
       exact ⟨by rw [HFR.out] <;> rfl, HZ.out⟩
      case true =>
       have GG44 : Hid (eqS x1 y1 = true) := Lib.hid ee44
       have ff44 : (x1.toList != y1.toList) = false := by rw [bne, ee44]; rfl
       cases ee45 : (x2.toList == y2.toList)
       case false =>
        have gg45 : Hid (eqS x2 y2 = false) := Lib.hid ee45
        have ff45 : (x2.toList != y2.toList) = true := by rw [bne, ee45]; rfl
        have HF : Hid (bo = false) := Lib.hid (by rw [HRX.out, GG44.out, gg45.out] <;> first | rfl | (simp; done))
        have HE : Hid (v1 = false) := Lib.hid (by rw [← HG2.out, HF.out]; rfl)
        have HFR : Hid (rs = false) := Lib.hid (by rw [HR.out, HE.out] <;> simp)
        refine heldTake 8 (some 48) (v := ?_) rfl rfl (by kernel_rfl) (by kernel_rfl) (by kernel_rfl) (by rfl) hHeld (fun _ _ _ h => h) ?_ ?_
        rotate_left
        ·intro w' hSw; (try dsimp only at hSw); go_simp <;> with_reducible rfl
        simp only [Act.put, List.setIfInBounds_toArray, List.set_cons_zero, List.set_cons_succ]
        refine wpAnyH_done (by kernel_rfl) ?_ _
        refine NoPanic.normal ?_
        have HZ : Hid (Below w.heap.size w _) := Lib.hid hHeld
        go_wp2_with fail
        go_ret
        exact ⟨by rw [HFR.out] <;> rfl, HZ.out⟩
       case true =>
        have GG45 : Hid (eqS x2 y2 = true) := Lib.hid ee45
        have ff45 : (x2.toList != y2.toList) = false := by rw [bne, ee45]; rfl
        by_cases tt46 : x3 = y3
        case neg =>
         have gg46 : Hid (decide (x3 = y3) = false) := Lib.hid (decide_eq_false tt46)
         have ee46 : (x3 == y3) = false := by simpa using tt46
         have ff46 : (x3 != y3) = true := by simpa using tt46
         have HF : Hid (bo = false) := Lib.hid (by rw [HRX.out, GG44.out, GG45.out, gg46.out] <;> first | rfl | (simp; done))
         have HE : Hid (v1 = false) := Lib.hid (by rw [← HG2.out, HF.out]; rfl)
         have HFR : Hid (rs = false) := Lib.hid (by rw [HR.out, HE.out] <;> simp)
         refine heldTake 8 (some 48) (v := ?_) rfl rfl (by kernel_rfl) (by kernel_rfl) (by kernel_rfl) (by rfl) hHeld (fun _ _ _ h => h) ?_ ?_
         rotate_left
         ·intro w' hSw; (try dsimp only at hSw); go_simp <;> with_reducible rfl
         simp only [Act.put, List.setIfInBounds_toArray, List.set_cons_zero, List.set_cons_succ]
         refine wpAnyH_done (by kernel_rfl) ?_ _
         refine NoPanic.normal ?_
         have HZ : Hid (Below w.heap.size w _) := Lib.hid hHeld
         go_wp2_with fail
         go_ret
         exact ⟨by rw [HFR.out] <;> rfl, HZ.out⟩
        case pos =>
         have GG46 : Hid (decide (x3 = y3) = true) := Lib.hid (decide_eq_true tt46)
         have ee46 : (x3 == y3) = true := by simpa using tt46
         have ff46 : (x3 != y3) = false := by simpa using tt46
         clear tt46
         by_cases tt47 : x4 = y4
         case neg =>
          have gg47 : Hid (decide (x4 = y4) = false) := Lib.hid (decide_eq_false tt47)
          have ee47 : (x4 == y4) = false := by simpa using tt47
          have ff47 : (x4 != y4) = true := by simpa using tt47
          have HF : Hid (bo = false) := Lib.hid (by rw [HRX.out, GG44.out, GG45.out, GG46.out, gg47.out] <;> first | rfl | (simp; done))
          have HE : Hid (v1 = false) := Lib.hid (by rw [← HG2.out, HF.out]; rfl)
          have HFR : Hid (rs = false) := Lib.hid (by rw [HR.out, HE.out] <;> simp)
          refine heldTake 8 (some 48) (v := ?_) rfl rfl (by kernel_rfl) (by kernel_rfl) (by kernel_rfl) (by rfl) hHeld (fun _ _ _ h => h) ?_ ?_
          rotate_left
          ·intro w' hSw; (try dsimp only at hSw); go_simp <;> with_reducible rfl
          simp only [Act.put, List.setIfInBounds_toArray, List.set_cons_zero, List.set_cons_succ]
          refine wpAnyH_done (by kernel_rfl) ?_ _
          refine NoPanic.normal ?_
          have HZ : Hid (Below w.heap.size w _) := Lib.hid hHeld
          go_wp2_with fail
          go_ret
          exact ⟨by rw [HFR.out] <;> rfl, HZ.out⟩
         case pos =>
          have GG47 : Hid (decide (x4 = y4) = true) := Lib.hid (decide_eq_true tt47)
          have ee47 : (x4 == y4) = true := by simpa using tt47
          have ff47 : (x4 != y4) = false := by simpa using tt47
          clear tt47
          by_cases tt48 : x5 = y5
          case neg =>
           have gg48 : Hid (decide (x5 = y5) = false) := Lib.hid (decide_eq_false tt48)
           have ee48 : (x5 == y5) = false := by simpa using tt48
           have ff48 : (x5 != y5) = true := by simpa using tt48
           have HF : Hid (bo = false) := Lib.hid (by rw [HRX.out, GG44.out, GG45.out, GG46.out, GG47.out, gg48.out] <;> first | rfl | (simp; done))
           have HE : Hid (v1 = false) := Lib.hid (by rw [← HG2.out, HF.out]; rfl)
           have HFR : Hid (rs = false) := Lib.hid (by rw [HR.out, HE.out] <;> simp)
           refine heldTake 8 (some 48) (v := ?_) rfl rfl (by kernel_rfl) (by kernel_rfl) (by kernel_rfl) (by rfl) hHeld (fun _ _ _ h => h) ?_ ?_
           rotate_left
           ·intro w' hSw; (try dsimp only at hSw); go_simp <;> with_reducible rfl
           simp only [Act.put, List.setIfInBounds_toArray, List.set_cons_zero, List.set_cons_succ]
           refine wpAnyH_done (by kernel_rfl) ?_ _
           refine NoPanic.normal ?_
           have HZ : Hid (Below w.heap.size w _) := Lib.hid hHeld
           go_wp2_with fail
           go_ret
           exact ⟨by rw [HFR.out] <;> rfl, HZ.out⟩
          case pos =>
           have GG48 : Hid (decide (x5 = y5) = true) := Lib.hid (decide_eq_true tt48)
           have ee48 : (x5 == y5) = true := by simpa using tt48
           have ff48 : (x5 != y5) = false := by simpa using tt48
           clear tt48
           by_cases tt49 : x6 = y6
           case neg =>
            have gg49 : Hid (decide (x6 = y6) = false) := Lib.hid (decide_eq_false tt49)
            have ee49 : (x6 == y6) = false := by simpa using tt49
            have ff49 : (x6 != y6) = true := by simpa using tt49
            have HF : Hid (bo = false) := Lib.hid (by rw [HRX.out, GG44.out, GG45.out, GG46.out, GG47.out, GG48.out, gg49.out] <;> first | rfl | (simp; done))
            have HE : Hid (v1 = false) := Lib.hid (by rw [← HG2.out, HF.out]; rfl)
            have HFR : Hid (rs = false) := Lib.hid (by rw [HR.out, HE.out] <;> simp)
            refine heldTake 8 (some 48) (v := ?_) rfl rfl (by kernel_rfl) (by kernel_rfl) (by kernel_rfl) (by rfl) hHeld (fun _ _ _ h => h) ?_ ?_
            rotate_left
            ·intro w' hSw; (try dsimp only at hSw); go_simp <;> with_reducible rfl
            simp only [Act.put, List.setIfInBounds_toArray, List.set_cons_zero, List.set_cons_succ]
            refine wpAnyH_done (by kernel_rfl) ?_ _
            refine NoPanic.normal ?_
            have HZ : Hid (Below w.heap.size w _) := Lib.hid hHeld
            go_wp2_with fail
            go_ret
            exact ⟨by rw [HFR.out] <;> rfl, HZ.out⟩
           case pos =>
            have GG49 : Hid (decide (x6 = y6) = true) := Lib.hid (decide_eq_true tt49)
            have ee49 : (x6 == y6) = true := by simpa using tt49
            have ff49 : (x6 != y6) = false := by simpa using tt49
            clear tt49
            refine heldTake 8 (some 48) (v := ?_) rfl rfl (by kernel_rfl) (by kernel_rfl) (by kernel_rfl) (by rfl) hHeld (fun _ _ _ h => h) ?_ ?_
            rotate_left
            ·intro w' hSw; (try dsimp only at hSw); go_simp <;> with_reducible rfl
            simp only [Act.put, List.setIfInBounds_toArray, List.set_cons_zero, List.set_cons_succ]
            refine wpAnyH_done (by kernel_rfl) ?_ _
            refine NoPanic.normal ?_
            have HF : Hid (bo = true) := Lib.hid (by rw [HRX.out, GG44.out, GG45.out, GG46.out, GG47.out, GG48.out, GG49.out] <;> first | rfl | (simp; done))
            have HN : Hid (sameL sHld (xpla.drop (k + 1)) (ypla.drop (k + 1)) = v1) := Lib.hid (by rw [← HG2.out, HF.out]; simp)
            have HZ : Hid (Below w.heap.size w _) := Lib.hid hHeld
            go_wp2_with fail
            go_roundw
            case rel => exact ⟨k + 1, by go_num, hlt, HN, HZ⟩
            case measure => simp [intOf]; omega
set_option maxRecDepth 1000000 in
set_option maxHeartbeats 16000000 in
theorem refSameDelta_any (x y : RDl) (w : World) (hx : x.is w (· < w.heap.size)) (hy : y.is w (· < w.heap.size)) :
  Calls Tryz.prog 84 #[.agg (RDl.enc x).toArray, .agg (RDl.enc y).toArray] w fun e w' => e = .returned (.bool (sDel x y)) ∧ Below w.heap.size w w' := by
 obtain ⟨xn, xcA, xcc, xcl, xoA, xoc, xops⟩ := x
 obtain ⟨yn, ycA, ycc, ycl, yoA, yoc, yops⟩ := y
 obtain ⟨rs, hrs⟩ : ∃ r, r = sDel ⟨xn, xcA, xcc, xcl, xoA, xoc, xops⟩ ⟨yn, ycA, ycc, ycl, yoA, yoc, yops⟩ := ⟨_, rfl⟩
 rw [← hrs]
 show Calls Tryz.prog 84 #[.agg #[.string xn, .slice xcA xcl.length xcc, .slice xoA xops.length xoc], .agg #[.string yn, .slice ycA ycl.length ycc, .slice yoA yops.length yoc]] w _
 have HR : Hid (rs = (eqS xn yn && (sameL sInt xcl ycl && sameL sFct xops yops))) := Lib.hid (by rw [hrs]; rfl)
 clear hrs
 have f1 : RdE 3 RF.enc w (· < w.heap.size) (.slice xoA xops.length xoc) xops := hx.opens.1
 have g1 : RdE 3 RF.enc w (· < w.heap.size) (.slice yoA yops.length yoc) yops := hy.opens.1
 have q1 := RdE.bd f1
 have r1 := RdE.bd g1
 have Hx1 := Lib.hid f1
 have Hy1 := Lib.hid g1
 have HXI := Lib.hid hx
 have HYI := Lib.hid hy
 obtain ⟨v2, hv2⟩ : ∃ bo, bo = (sameL sInt xcl ycl) := ⟨_, rfl⟩
 have K2 := fun (V : World) (hV : Below w.heap.size w V) => likeInts_any _ _ xcl ycl V (hx.below hV).close (hy.below hV).close
 rw [← hv2] at K2 HR
 clear hv2
 obtain ⟨v1, hv1⟩ : ∃ bo, bo = sameL sFct xops yops := ⟨_, rfl⟩
 rw [← hv1] at HR
 have Hv1 := Lib.hid hv1
 clear hv1
 clear hx hy f1 g1
 obtain ⟨W, hW⟩ : ∃ W, W = (w.alloc (.cells #[.string xn, .slice xcA xcl.length xcc, .slice xoA xops.length xoc] 63)).alloc (.cells #[.string yn, .slice ycA ycl.length ycc, .slice yoA yops.length yoc] 63) := ⟨_, rfl⟩
 have hbW : Below w.heap.size w W := by rw [hW]; exact (Below.of_alloc _).alloc (by simp) _
 have hWs : w.heap.size + 1 < W.heap.size := by rw [hW]; simp
 have hT : W.heap[w.heap.size]? = some (.cells #[.string xn, .slice xcA xcl.length xcc, .slice xoA xops.length xoc] 63 (0, 0)) := by
  rw [hW]
  exact ((Below.of_alloc (w := w.alloc (.cells #[.string xn, .slice xcA xcl.length xcc, .slice xoA xops.length xoc] 63)) (.cells #[.string yn, .slice ycA ycl.length ycc, .slice yoA yops.length yoc] 63)).block _ (by simp)).trans (heap_alloc_new _ _)
 have hU : W.heap[w.heap.size + 1]? = some (.cells #[.string yn, .slice ycA ycl.length ycc, .slice yoA yops.length yoc] 63 (0, 0)) := by
  rw [hW]
  have h := heap_alloc_new (w.alloc (.cells #[.string xn, .slice xcA xcl.length xcc, .slice xoA xops.length xoc] 63)) (.cells #[.string yn, .slice ycA ycl.length ycc, .slice yoA yops.length yoc] 63)
  simpa using h
 have FX : Hid (∀ V, Below W.heap.size W V → V.heap[w.heap.size]? = some (.cells #[.string xn, .slice xcA xcl.length xcc, .slice xoA xops.length xoc] 63 (0, 0))) := Lib.hid (fun V hV => (hV.block _ (by omega)).trans hT)
 have FY : Hid (∀ V, Below W.heap.size W V → V.heap[w.heap.size + 1]? = some (.cells #[.string yn, .slice ycA ycl.length ycc, .slice yoA yops.length yoc] 63 (0, 0))) := Lib.hid (fun V hV => (hV.block _ hWs).trans hU)
 have HBW := Lib.hid hbW
 have HC0 : Hid (Below W.heap.size W W) := Lib.hid (Below.refl _ _)
 have HW := Lib.hid hW
 clear hT hU hbW hWs hW
 have c0 : W.cell? ⟨w.heap.size, 0, none⟩ = some (.string xn) := cell_of_row W _ 0 _ _ _ (FX.out _ HC0.out)
 have c1 : W.cell? ⟨w.heap.size, 1, none⟩ = some (.slice xcA xcl.length xcc) := cell_of_row W _ 1 _ _ _ (FX.out _ HC0.out)
 have c2 : W.cell? ⟨w.heap.size, 2, none⟩ = some (.slice xoA xops.length xoc) := cell_of_row W _ 2 _ _ _ (FX.out _ HC0.out)
 have d0 : W.cell? ⟨w.heap.size + 1, 0, none⟩ = some (.string yn) := cell_of_row W _ 0 _ _ _ (FY.out _ HC0.out)
 have d1 : W.cell? ⟨w.heap.size + 1, 1, none⟩ = some (.slice ycA ycl.length ycc) := cell_of_row W _ 1 _ _ _ (FY.out _ HC0.out)
 have d2 : W.cell? ⟨w.heap.size + 1, 2, none⟩ = some (.slice yoA yops.length yoc) := cell_of_row W _ 2 _ _ _ (FY.out _ HC0.out)
 cases ee50 : (xn.toList == yn.toList)
 case false =>
  have gg50 : eqS xn yn = false := ee50
  have ff50 : (xn.toList != yn.toList) = true := by rw [bne, ee50]; rfl
  have HF : Hid (rs = false) := Lib.hid (by rw [HR.out, gg50] <;> simp)
  go_enter Tryz.func84, Tryz.ntmps84
  go_wp2_with fail
  try rw [← HW.out]
  go_ret
  exact ⟨by rw [HF.out] <;> first | rfl | (simp; done), (HBW.out.trans (HC0.out.mono HBW.out.size))⟩
 case true =>
  have GG50 : Hid (eqS xn yn = true) := Lib.hid ee50
  have ff50 : (xn.toList != yn.toList) = false := by rw [bne, ee50]; rfl
  have KK51 := K2 W (HBW.out.trans (HC0.out.mono HBW.out.size))
  go_enter Tryz.func84, Tryz.ntmps84
  go_wp2_with fail
  try rw [← HW.out]
  (with_reducible refine KK51.mono ?_)
  rintro _ z51 ⟨rfl, hz51⟩
  clear KK51
  have HC51 : Hid (Below W.heap.size W z51) := Lib.hid (HC0.out.trans (hz51.mono HC0.out.size))
  clear hz51
  clear c0 d0 c1 d1 c2 d2
  have c0 : z51.cell? ⟨w.heap.size, 0, none⟩ = some (.string xn) := cell_of_row z51 _ 0 _ _ _ (FX.out _ HC51.out)
  have c1 : z51.cell? ⟨w.heap.size, 1, none⟩ = some (.slice xcA xcl.length xcc) := cell_of_row z51 _ 1 _ _ _ (FX.out _ HC51.out)
  have c2 : z51.cell? ⟨w.heap.size, 2, none⟩ = some (.slice xoA xops.length xoc) := cell_of_row z51 _ 2 _ _ _ (FX.out _ HC51.out)
  have d0 : z51.cell? ⟨w.heap.size + 1, 0, none⟩ = some (.string yn) := cell_of_row z51 _ 0 _ _ _ (FY.out _ HC51.out)
  have d1 : z51.cell? ⟨w.heap.size + 1, 1, none⟩ = some (.slice ycA ycl.length ycc) := cell_of_row z51 _ 1 _ _ _ (FY.out _ HC51.out)
  have d2 : z51.cell? ⟨w.heap.size + 1, 2, none⟩ = some (.slice yoA yops.length yoc) := cell_of_row z51 _ 2 _ _ _ (FY.out _ HC51.out)
  cases v2
  case false =>
   have HF : Hid (rs = false) := Lib.hid (by rw [HR.out] <;> simp)
   go_wp2_with fail
   go_ret
   exact ⟨by rw [HF.out] <;> first | rfl | (simp; done), (HBW.out.trans (HC51.out.mono HBW.out.size))⟩
  case true =>
   by_cases tt52 : xops.length = yops.length
   case neg =>
    have gg52 : v1 = false := by rw [Hv1.out]; exact sameL_len tt52
    have ss52 : ¬ (xops.length : Int) = (yops.length : Int) := by omega
    have ff52 : ((xops.length : Int) != (yops.length : Int)) = true := by simpa using ss52
    have HF : Hid (rs = false) := Lib.hid (by rw [HR.out, gg52] <;> simp)
    go_wp2_with fail
    go_ret
    exact ⟨by rw [HF.out] <;> first | rfl | (simp; done), (HBW.out.trans (HC51.out.mono HBW.out.size))⟩
   case pos =>
    have HL1 := Lib.hid tt52
    have ss52 : (xops.length : Int) = (yops.length : Int) := by omega
    have ff52 : ((xops.length : Int) != (yops.length : Int)) = false := by simpa using ss52
    clear tt52 ss52
    go_wp2_with fail
    clear c0 d0 c1 d1 c2 d2
    go_loopw [31] (fun i wr => ∃ k : Nat, i = .int .i64 (k : Int) ∧ k ≤ xops.length ∧ Hid (sameL sFct (xops.drop k) (yops.drop k) = v1) ∧ Hid (Below W.heap.size W wr)) (fun i _ => xops.length - (intOf i).toNat)
    case atStart => exact ⟨0, rfl, Nat.zero_le _, Lib.hid Hv1.out.symm, HC51⟩
    case round =>
     obtain ⟨k, rfl, hk, HG, HB53⟩ := hrel
     obtain ⟨wi53, rfl⟩ : ∃ wi : World, wi = wr := ⟨_, rfl⟩
     by_cases hlt : k < xops.length
     case neg =>
      have hlt3 : ¬ (k : Int) < (xops.length : Int) := by omega
      have HT53 : Hid (v1 = true) := Lib.hid (by rw [← HG.out]; exact sameL_end (by omega) (by have := HL1.out; omega))
      have c0 : wi53.cell? ⟨w.heap.size, 0, none⟩ = some (.string xn) := cell_of_row wi53 _ 0 _ _ _ (FX.out _ HB53.out)
      have c1 : wi53.cell? ⟨w.heap.size, 1, none⟩ = some (.slice xcA xcl.length xcc) := cell_of_row wi53 _ 1 _ _ _ (FX.out _ HB53.out)
      have c2 : wi53.cell? ⟨w.heap.size, 2, none⟩ = some (.slice xoA xops.length xoc) := cell_of_row wi53 _ 2 _ _ _ (FX.out _ HB53.out)
      have d0 : wi53.cell? ⟨w.heap.size + 1, 0, none⟩ = some (.string yn) := cell_of_row wi53 _ 0 _ _ _ (FY.out _ HB53.out)
      have d1 : wi53.cell? ⟨w.heap.size + 1, 1, none⟩ = some (.slice ycA ycl.length ycc) := cell_of_row wi53 _ 1 _ _ _ (FY.out _ HB53.out)
      have d2 : wi53.cell? ⟨w.heap.size + 1, 2, none⟩ = some (.slice yoA yops.length yoc) := cell_of_row wi53 _ 2 _ _ _ (FY.out _ HB53.out)
      have HF : Hid (rs = true) := Lib.hid (by rw [HR.out, GG50.out, HT53.out] <;> first | rfl | (simp; done))
      go_wp2_with fail
      go_ret
      exact ⟨by rw [HF.out] <;> first | rfl | (simp; done), (HBW.out.trans (HB53.out.mono HBW.out.size))⟩
     case pos =>
      have hlt' : k < yops.length := by have := HL1.out; omega
      have hlt3 : (k : Int) < (xops.length : Int) := by omega
      have hlt4 : (k : Int) < (yops.length : Int) := by omega
      obtain ⟨b, off, rfl, hF, hcl⟩ := RdE.at_ (K := 3) (enc := RF.enc) (fun _ => rfl) (by omega) Hx1.out hlt
      obtain ⟨b', off', rfl, hF', hcl'⟩ := RdE.at_ (K := 3) (enc := RF.enc) (fun _ => rfl) (by omega) Hy1.out hlt'
      have HBL := Lib.hid hF
      have HBM := Lib.hid hF'
      have hcx := hcl k hlt
      have hcy := hcl' k hlt'
      have hg := HG.out
      rw [sameL_at hlt hlt'] at hg
      have ha := List.getElem_mem hlt
      have hb := List.getElem_mem hlt'
      obtain ⟨x, hx⟩ : ∃ x, x = xops[k] := ⟨_, rfl⟩
      obtain ⟨y, hy⟩ : ∃ y, y = yops[k] := ⟨_, rfl⟩
      rw [← hx] at hcx hg ha
      rw [← hy] at hcy hg hb
      obtain ⟨bo, hbo⟩ : ∃ bo, bo = sFct x y := ⟨_, rfl⟩
      rw [← hbo] at hg
      have HG2 := Lib.hid hg
      clear hx hy hcl hcl' hF hF' hg HG
      obtain ⟨xA, xn, xc, xr, x1, x2⟩ := x
      obtain ⟨yA, yn, yc, yr, y1, y2⟩ := y
      have g0 : w.cell? ⟨b, off + k * 3, none⟩ = some (.slice xA xn xc) := hcx 0 _ (by decide) rfl
      have g1 : w.cell? ⟨b, off + k * 3 + 1, none⟩ = some (.int .i64 x1) := hcx 1 _ (by decide) rfl
      have g2 : w.cell? ⟨b, off + k * 3 + 2, none⟩ = some (.int .i64 x2) := hcx 2 _ (by decide) rfl
      have h0 : w.cell? ⟨b', off' + k * 3, none⟩ = some (.slice yA yn yc) := hcy 0 _ (by decide) rfl
      have h1 : w.cell? ⟨b', off' + k * 3 + 1, none⟩ = some (.int .i64 y1) := hcy 1 _ (by decide) rfl
      have h2 : w.cell? ⟨b', off' + k * 3 + 2, none⟩ = some (.int .i64 y2) := hcy 2 _ (by decide) rfl
      have HRX : Hid (bo = (decide (x1 = y1) && (decide (x2 = y2) && sameL sVal xr yr))) := Lib.hid hbo
      clear hcx hcy hbo
      have KC : ∀ (V : World), Below w.heap.size w V → Calls Tryz.prog 179 #[.slice xA xn xc, .slice yA yn yc] V (fun e w' => e = .returned (.bool (sameL sVal xr yr)) ∧ Below V.heap.size V w') := fun V hV => likeRow_any _ _ xr yr V (RdE.below (K := 3) (enc := Val.cells) (HXI.out.opens.2 _ ha).1 hV) (RdE.below (K := 3) (enc := Val.cells) (HYI.out.opens.2 _ hb).1 hV)
      obtain ⟨vc, hvc⟩ : ∃ bo, bo = sameL sVal xr yr := ⟨_, rfl⟩
      rw [← hvc] at HRX
      simp only [← hvc] at KC
      clear hvc
      clear ha hb
      go_wp2_with fail
      refine wp_region_noPanic ?_
      refine wp_region_held_drew (S := (fun w' => Below W.heap.size W w')) (by kernel_rfl) ?_ (fun hHeld => ?_)
      ·exact HB53.out.drew
      refine heldTake 0 (some 34) (v := ?_) rfl rfl (by kernel_rfl) (by kernel_rfl) (by kernel_rfl) (by rfl) hHeld (fun _ _ _ h => h) ?_ ?_
      rotate_left
      ·intro w' hSw; (try dsimp only at hSw); go_simp <;> with_reducible rfl
      simp only [Act.put, List.setIfInBounds_toArray, List.set_cons_zero, List.set_cons_succ]
      refine heldTake 1 (some 35) (v := ?_) rfl rfl (by kernel_rfl) (by kernel_rfl) (by kernel_rfl) (by rfl) hHeld (fun _ _ _ h => h) ?_ ?_
      rotate_left
      ·intro w' hSw; (try dsimp only at hSw); have q0 := cell_of_row w' _ 2 _ _ _ (FX.out _ hSw); go_simp <;> with_reducible rfl
      simp only [Act.put, List.setIfInBounds_toArray, List.set_cons_zero, List.set_cons_succ]
      refine heldTake 2 (some 36) (v := ?_) rfl rfl (by kernel_rfl) (by kernel_rfl) (by kernel_rfl) (by rfl) hHeld (fun _ _ _ h => h) ?_ ?_
      rotate_left
      ·intro w' hSw; (try dsimp only at hSw); go_simp <;> with_reducible rfl
      simp only [Act.put, List.setIfInBounds_toArray, List.set_cons_zero, List.set_cons_succ]
      refine heldTake 3 (some 37) (v := ?_) rfl rfl (by kernel_rfl) (by kernel_rfl) (by kernel_rfl) (by rfl) hHeld (fun _ _ _ h => h) ?_ ?_
      rotate_left
      ·intro w' hSw; (try dsimp only at hSw); go_simp <;> with_reducible rfl
      simp only [Act.put, List.setIfInBounds_toArray, List.set_cons_zero, List.set_cons_succ]
      refine heldTake 4 (some 38) (v := ?_) rfl rfl (by kernel_rfl) (by kernel_rfl) (by kernel_rfl) (by rfl) hHeld (fun _ _ _ h => h) ?_ ?_
      rotate_left
      ·intro w' hSw; (try dsimp only at hSw); go_simp <;> with_reducible rfl
      simp only [Act.put, List.setIfInBounds_toArray, List.set_cons_zero, List.set_cons_succ]
      refine heldTake 5 (some 39) (v := ?_) rfl rfl (by kernel_rfl) (by kernel_rfl) (by kernel_rfl) (by rfl) hHeld (fun _ _ _ h => h) ?_ ?_
      rotate_left
      ·intro w' hSw; (try dsimp only at hSw); have q1 : w'.cell? ⟨b, off + k * 3 + 1, none⟩ = some (.int .i64 x1) := (World.cell?_of_block ((HBW.out.trans (hSw.mono HBW.out.size)).block _ HBL.out)).trans g1; have q2 : w'.cell? ⟨b, off + k * 3 + 2, none⟩ = some (.int .i64 x2) := (World.cell?_of_block ((HBW.out.trans (hSw.mono HBW.out.size)).block _ HBL.out)).trans g2; go_simp <;> with_reducible rfl
      simp only [Act.put, List.setIfInBounds_toArray, List.set_cons_zero, List.set_cons_succ]
      refine heldTake 6 (some 40) (v := ?_) rfl rfl (by kernel_rfl) (by kernel_rfl) (by kernel_rfl) (by rfl) hHeld (fun _ _ _ h => h) ?_ ?_
      rotate_left
      ·intro w' hSw; (try dsimp only at hSw); go_simp <;> with_reducible rfl
      simp only [Act.put, List.setIfInBounds_toArray, List.set_cons_zero, List.set_cons_succ]
      refine heldTake 7 (some 41) (v := ?_) rfl rfl (by kernel_rfl) (by kernel_rfl) (by kernel_rfl) (by rfl) hHeld (fun _ _ _ h => h) ?_ ?_
      rotate_left
      ·intro w' hSw; (try dsimp only at hSw); have q0 := cell_of_row w' _ 2 _ _ _ (FY.out _ hSw); go_simp <;> with_reducible rfl
      simp only [Act.put, List.setIfInBounds_toArray, List.set_cons_zero, List.set_cons_succ]
      refine heldTake 8 (some 42) (v := ?_) rfl rfl (by kernel_rfl) (by kernel_rfl) (by kernel_rfl) (by rfl) hHeld (fun _ _ _ h => h) ?_ ?_
      rotate_left
      ·intro w' hSw; (try dsimp only at hSw); go_simp <;> with_reducible rfl
      simp only [Act.put, List.setIfInBounds_toArray, List.set_cons_zero, List.set_cons_succ]
      refine heldTake 9 (some 43) (v := ?_) rfl rfl (by kernel_rfl) (by kernel_rfl) (by kernel_rfl) (by rfl) hHeld (fun _ _ _ h => h) ?_ ?_
      rotate_left
      ·intro w' hSw; (try dsimp only at hSw); go_simp <;> with_reducible rfl
      simp only [Act.put, List.setIfInBounds_toArray, List.set_cons_zero, List.set_cons_succ]
      refine heldTake 10 (some 44) (v := ?_) rfl rfl (by kernel_rfl) (by kernel_rfl) (by kernel_rfl) (by rfl) hHeld (fun _ _ _ h => h) ?_ ?_
      rotate_left
      ·intro w' hSw; (try dsimp only at hSw); go_simp <;> with_reducible rfl
      simp only [Act.put, List.setIfInBounds_toArray, List.set_cons_zero, List.set_cons_succ]
      refine heldTake 11 (some 45) (v := ?_) rfl rfl (by kernel_rfl) (by kernel_rfl) (by kernel_rfl) (by rfl) hHeld (fun _ _ _ h => h) ?_ ?_
      rotate_left
      ·intro w' hSw; (try dsimp only at hSw); have q1 : w'.cell? ⟨b', off' + k * 3 + 1, none⟩ = some (.int .i64 y1) := (World.cell?_of_block ((HBW.out.trans (hSw.mono HBW.out.size)).block _ HBM.out)).trans h1; have q2 : w'.cell? ⟨b', off' + k * 3 + 2, none⟩ = some (.int .i64 y2) := (World.cell?_of_block ((HBW.out.trans (hSw.mono HBW.out.size)).block _ HBM.out)).trans h2; go_simp <;> with_reducible rfl
      simp only [Act.put, List.setIfInBounds_toArray, List.set_cons_zero, List.set_cons_succ]
      by_cases tt54 : x1 = y1
      case neg =>
       have gg54 : Hid (decide (x1 = y1) = false) := Lib.hid (decide_eq_false tt54)
       have ee54 : (x1 == y1) = false := by simpa using tt54
       have ff54 : (x1 != y1) = true := by simpa using tt54
       have HF : Hid (bo = false) := Lib.hid (by rw [HRX.out, gg54.out] <;> first | rfl | (simp; done))
       have HE : Hid (v1 = false) := Lib.hid (by rw [← HG2.out, HF.out]; rfl)
       have HFR : Hid (rs = false) := Lib.hid (by rw [HR.out, HE.out] <;> simp)
       refine heldTake 12 (some 46) (v := ?_) rfl rfl (by kernel_rfl) (by kernel_rfl) (by kernel_rfl) (by rfl) hHeld (fun _ _ _ h => h) ?_ ?_
       rotate_left
       ·intro w' hSw; (try dsimp only at hSw); go_simp <;> with_reducible rfl
       simp only [Act.put, List.setIfInBounds_toArray, List.set_cons_zero, List.set_cons_succ]
       refine heldTake 13 (some 47) (v := ?_) rfl rfl (by kernel_rfl) (by kernel_rfl) (by kernel_rfl) (by rfl) hHeld (fun _ _ _ h => h) ?_ ?_
       rotate_left
       ·intro w' hSw; (try dsimp only at hSw); go_simp <;> with_reducible rfl
       simp only [Act.put, List.setIfInBounds_toArray, List.set_cons_zero, List.set_cons_succ]
       refine heldSkip 14 (some 48) rfl rfl (by kernel_rfl) (by kernel_rfl) (by kernel_rfl) (by rfl) hHeld (fun _ _ _ h => h) ?_
       simp only [Act.put, List.setIfInBounds_toArray, List.set_cons_zero, List.set_cons_succ]
       refine heldSkip 15 (some 49) rfl rfl (by kernel_rfl) (by kernel_rfl) (by kernel_rfl) (by rfl) hHeld (fun _ _ _ h => h) ?_
       simp only [Act.put, List.setIfInBounds_toArray, List.set_cons_zero, List.set_cons_succ]
       refine heldSkip 16 (some 50) rfl rfl (by kernel_rfl) (by kernel_rfl) (by kernel_rfl) (by rfl) hHeld (fun _ _ _ h => h) ?_
       simp only [Act.put, List.setIfInBounds_toArray, List.set_cons_zero, List.set_cons_succ]
       refine heldSkip 17 (some 51) rfl rfl (by kernel_rfl) (by kernel_rfl) (by kernel_rfl) (by rfl) hHeld (fun _ _ _ h => h) ?_
       simp only [Act.put, List.setIfInBounds_toArray, List.set_cons_zero, List.set_cons_succ]
       refine heldSkip 18 (some 52) rfl rfl (by kernel_rfl) (by kernel_rfl) (by kernel_rfl) (by rfl) hHeld (fun _ _ _ h => h) ?_
       simp only [Act.put, List.setIfInBounds_toArray, List.set_cons_zero, List.set_cons_succ]
       refine heldSkip 19 (some 53) rfl rfl (by kernel_rfl) (by kernel_rfl) (by kernel_rfl) (by rfl) hHeld (fun _ _ _ h => h) ?_
       simp only [Act.put, List.setIfInBounds_toArray, List.set_cons_zero, List.set_cons_succ]
       refine heldSkip 20 (some 54) rfl rfl (by kernel_rfl) (by kernel_rfl) (by kernel_rfl) (by rfl) hHeld (fun _ _ _ h => h) ?_
       simp only [Act.put, List.setIfInBounds_toArray, List.set_cons_zero, List.set_cons_succ]
       refine heldSkip 21 (some 55) rfl rfl (by kernel_rfl) (by kernel_rfl) (by kernel_rfl) (by rfl) hHeld (fun _ _ _ h => h) ?_
       simp only [Act.put, List.setIfInBounds_toArray, List.set_cons_zero, List.set_cons_succ]
       refine heldSkip 22 (some 56) rfl rfl (by kernel_rfl) (by kernel_rfl) (by kernel_rfl) (by rfl) hHeld (fun _ _ _ h => h) ?_
       simp only [Act.put, List.setIfInBounds_toArray, List.set_cons_zero, List.set_cons_succ]
       refine heldSkip 23 (some 57) rfl rfl (by kernel_rfl) (by kernel_rfl) (by kernel_rfl) (by rfl) hHeld (fun _ _ _ h => h) ?_
       simp only [Act.put, List.setIfInBounds_toArray, List.set_cons_zero, List.set_cons_succ]
       refine heldSkip 24 (some 58) rfl rfl (by kernel_rfl) (by kernel_rfl) (by kernel_rfl) (by rfl) hHeld (fun _ _ _ h => h) ?_
       simp only [Act.put, List.setIfInBounds_toArray, List.set_cons_zero, List.set_cons_succ]
       refine heldSkip 25 (some 59) rfl rfl (by kernel_rfl) (by kernel_rfl) (by kernel_rfl) (by rfl) hHeld (fun _ _ _ h => h) ?_
       simp only [Act.put, List.setIfInBounds_toArray, List.set_cons_zero, List.set_cons_succ]
       refine heldSkip 26 (some 60) rfl rfl (by kernel_rfl) (by kernel_rfl) (by kernel_rfl) (by rfl) hHeld (fun _ _ _ h => h) ?_
       simp only [Act.put, List.setIfInBounds_toArray, List.set_cons_zero, List.set_cons_succ]
       refine heldSkip 27 (some 61) rfl rfl (by kernel_rfl) (by kernel_rfl) (by kernel_rfl) (by rfl) hHeld (fun _ _ _ h => h) ?_
       simp only [Act.put, List.setIfInBounds_toArray, List.set_cons_zero, List.set_cons_succ]
       refine heldTake 28 (some 62) (v := ?_) rfl rfl (by kernel_rfl) (by kernel_rfl) (by kernel_rfl) (by rfl) hHeld (fun _ _ _ h => h) ?_ ?_
       rotate_left
       ·intro w' hSw; (try dsimp only at hSw); go_simp <;> with_reducible rfl
       simp only [Act.put, List.setIfInBounds_toArray, List.set_cons_zero, List.set_cons_succ]
       refine wpAnyH_done (by kernel_rfl) ?_ _
       refine NoPanic.normal ?_
       have HZ : Hid (Below W.heap.size W _) := Lib.hid hHeld
       go_wp2_with fail
       go_ret
       exact ⟨by rw [HFR.out] <;> rfl, (HBW.out.trans (HZ.out.mono HBW.out.size))⟩
      case pos =>
       have GG54 : Hid (decide (x1 = y1) = true) := Lib.hid (decide_eq_true tt54)
       have ee54 : (x1 == y1) = true := by simpa using tt54
       have ff54 : (x1 != y1) = false := by simpa using tt54
       clear tt54
       by_cases tt55 : x2 = y2
       case neg =>
        have gg55 : Hid (decide (x2 = y2) = false) := Lib.hid (decide_eq_false tt55)
        have ee55 : (x2 == y2) = false := by simpa using tt55
        have ff55 : (x2 != y2) = true := by simpa using tt55
        have HF : Hid (bo = false) := Lib.hid (by rw [HRX.out, GG54.out, gg55.out] <;> first | rfl | (simp; done))
        have HE : Hid (v1 = false) := Lib.hid (by rw [← HG2.out, HF.out]; rfl)
        have HFR : Hid (rs = false) := Lib.hid (by rw [HR.out, HE.out] <;> simp)
        refine heldTake 12 (some 46) (v := ?_) rfl rfl (by kernel_rfl) (by kernel_rfl) (by kernel_rfl) (by rfl) hHeld (fun _ _ _ h => h) ?_ ?_
        rotate_left
        ·intro w' hSw; (try dsimp only at hSw); go_simp <;> with_reducible rfl
        simp only [Act.put, List.setIfInBounds_toArray, List.set_cons_zero, List.set_cons_succ]
        refine heldTake 13 (some 47) (v := ?_) rfl rfl (by kernel_rfl) (by kernel_rfl) (by kernel_rfl) (by rfl) hHeld (fun _ _ _ h => h) ?_ ?_
        rotate_left
        ·intro w' hSw; (try dsimp only at hSw); go_simp <;> with_reducible rfl
        simp only [Act.put, List.setIfInBounds_toArray, List.set_cons_zero, List.set_cons_succ]
        refine heldSkip 14 (some 48) rfl rfl (by kernel_rfl) (by kernel_rfl) (by kernel_rfl) (by rfl) hHeld (fun _ _ _ h => h) ?_
        simp only [Act.put, List.setIfInBounds_toArray, List.set_cons_zero, List.set_cons_succ]
        refine heldSkip 15 (some 49) rfl rfl (by kernel_rfl) (by kernel_rfl) (by kernel_rfl) (by rfl) hHeld (fun _ _ _ h => h) ?_
        simp only [Act.put, List.setIfInBounds_toArray, List.set_cons_zero, List.set_cons_succ]
        refine heldSkip 16 (some 50) rfl rfl (by kernel_rfl) (by kernel_rfl) (by kernel_rfl) (by rfl) hHeld (fun _ _ _ h => h) ?_
        simp only [Act.put, List.setIfInBounds_toArray, List.set_cons_zero, List.set_cons_succ]
        refine heldSkip 17 (some 51) rfl rfl (by kernel_rfl) (by kernel_rfl) (by kernel_rfl) (by rfl) hHeld (fun _ _ _ h => h) ?_
        simp only [Act.put, List.setIfInBounds_toArray, List.set_cons_zero, List.set_cons_succ]
        refine heldSkip 18 (some 52) rfl rfl (by kernel_rfl) (by kernel_rfl) (by kernel_rfl) (by rfl) hHeld (fun _ _ _ h => h) ?_
        simp only [Act.put, List.setIfInBounds_toArray, List.set_cons_zero, List.set_cons_succ]
        refine heldSkip 19 (some 53) rfl rfl (by kernel_rfl) (by kernel_rfl) (by kernel_rfl) (by rfl) hHeld (fun _ _ _ h => h) ?_
        simp only [Act.put, List.setIfInBounds_toArray, List.set_cons_zero, List.set_cons_succ]
        refine heldSkip 20 (some 54) rfl rfl (by kernel_rfl) (by kernel_rfl) (by kernel_rfl) (by rfl) hHeld (fun _ _ _ h => h) ?_
        simp only [Act.put, List.setIfInBounds_toArray, List.set_cons_zero, List.set_cons_succ]
        refine heldSkip 21 (some 55) rfl rfl (by kernel_rfl) (by kernel_rfl) (by kernel_rfl) (by rfl) hHeld (fun _ _ _ h => h) ?_
        simp only [Act.put, List.setIfInBounds_toArray, List.set_cons_zero, List.set_cons_succ]
        refine heldSkip 22 (some 56) rfl rfl (by kernel_rfl) (by kernel_rfl) (by kernel_rfl) (by rfl) hHeld (fun _ _ _ h => h) ?_
        simp only [Act.put, List.setIfInBounds_toArray, List.set_cons_zero, List.set_cons_succ]
        refine heldSkip 23 (some 57) rfl rfl (by kernel_rfl) (by kernel_rfl) (by kernel_rfl) (by rfl) hHeld (fun _ _ _ h => h) ?_
        simp only [Act.put, List.setIfInBounds_toArray, List.set_cons_zero, List.set_cons_succ]
        refine heldSkip 24 (some 58) rfl rfl (by kernel_rfl) (by kernel_rfl) (by kernel_rfl) (by rfl) hHeld (fun _ _ _ h => h) ?_
        simp only [Act.put, List.setIfInBounds_toArray, List.set_cons_zero, List.set_cons_succ]
        refine heldSkip 25 (some 59) rfl rfl (by kernel_rfl) (by kernel_rfl) (by kernel_rfl) (by rfl) hHeld (fun _ _ _ h => h) ?_
        simp only [Act.put, List.setIfInBounds_toArray, List.set_cons_zero, List.set_cons_succ]
        refine heldSkip 26 (some 60) rfl rfl (by kernel_rfl) (by kernel_rfl) (by kernel_rfl) (by rfl) hHeld (fun _ _ _ h => h) ?_
        simp only [Act.put, List.setIfInBounds_toArray, List.set_cons_zero, List.set_cons_succ]
        refine heldSkip 27 (some 61) rfl rfl (by kernel_rfl) (by kernel_rfl) (by kernel_rfl) (by rfl) hHeld (fun _ _ _ h => h) ?_
        simp only [Act.put, List.setIfInBounds_toArray, List.set_cons_zero, List.set_cons_succ]
        refine heldTake 28 (some 62) (v := ?_) rfl rfl (by kernel_rfl) (by kernel_rfl) (by kernel_rfl) (by rfl) hHeld (fun _ _ _ h => h) ?_ ?_
        rotate_left
        ·intro w' hSw; (try dsimp only at hSw); go_simp <;> with_reducible rfl
        simp only [Act.put, List.setIfInBounds_toArray, List.set_cons_zero, List.set_cons_succ]
        refine wpAnyH_done (by kernel_rfl) ?_ _
        refine NoPanic.normal ?_
        have HZ : Hid (Below W.heap.size W _) := Lib.hid hHeld
        go_wp2_with fail
        go_ret
        exact ⟨by rw [HFR.out] <;> rfl, (HBW.out.trans (HZ.out.mono HBW.out.size))⟩
       case pos =>
        have GG55 : Hid (decide (x2 = y2) = true) := Lib.hid (decide_eq_true tt55)
        have ee55 : (x2 == y2) = true := by simpa using tt55
        have ff55 : (x2 != y2) = false := by simpa using tt55
        clear tt55
        refine heldTake 12 (some 46) (v := ?_) rfl rfl (by kernel_rfl) (by kernel_rfl) (by kernel_rfl) (by rfl) hHeld (fun _ _ _ h => h) ?_ ?_
        rotate_left
        ·intro w' hSw; (try dsimp only at hSw); go_simp <;> with_reducible rfl
        simp only [Act.put, List.setIfInBounds_toArray, List.set_cons_zero, List.set_cons_succ]
        refine heldTake 13 (some 47) (v := ?_) rfl rfl (by kernel_rfl) (by kernel_rfl) (by kernel_rfl) (by rfl) hHeld (fun _ _ _ h => h) ?_ ?_
        rotate_left
        ·intro w' hSw; (try dsimp only at hSw); go_simp <;> with_reducible rfl
        simp only [Act.put, List.setIfInBounds_toArray, List.set_cons_zero, List.set_cons_succ]
        refine heldTake 14 (some 48) (v := ?_) rfl rfl (by kernel_rfl) (by kernel_rfl) (by kernel_rfl) (by rfl) hHeld (fun _ _ _ h => h) ?_ ?_
        rotate_left
        ·intro w' hSw; (try dsimp only at hSw); go_simp <;> with_reducible rfl
        simp only [Act.put, List.setIfInBounds_toArray, List.set_cons_zero, List.set_cons_succ]
        refine heldTake 15 (some 49) (v := ?_) rfl rfl (by kernel_rfl) (by kernel_rfl) (by kernel_rfl) (by rfl) hHeld (fun _ _ _ h => h) ?_ ?_
        rotate_left
        ·intro w' hSw; (try dsimp only at hSw); have q0 := cell_of_row w' _ 2 _ _ _ (FX.out _ hSw); go_simp <;> with_reducible rfl
        simp only [Act.put, List.setIfInBounds_toArray, List.set_cons_zero, List.set_cons_succ]
        refine heldTake 16 (some 50) (v := ?_) rfl rfl (by kernel_rfl) (by kernel_rfl) (by kernel_rfl) (by rfl) hHeld (fun _ _ _ h => h) ?_ ?_
        rotate_left
        ·intro w' hSw; (try dsimp only at hSw); go_simp <;> with_reducible rfl
        simp only [Act.put, List.setIfInBounds_toArray, List.set_cons_zero, List.set_cons_succ]
        refine heldTake 17 (some 51) (v := ?_) rfl rfl (by kernel_rfl) (by kernel_rfl) (by kernel_rfl) (by rfl) hHeld (fun _ _ _ h => h) ?_ ?_
        rotate_left
        ·intro w' hSw; (try dsimp only at hSw); go_simp <;> with_reducible rfl
        simp only [Act.put, List.setIfInBounds_toArray, List.set_cons_zero, List.set_cons_succ]
        refine heldTake 18 (some 52) (v := ?_) rfl rfl (by kernel_rfl) (by kernel_rfl) (by kernel_rfl) (by rfl) hHeld (fun _ _ _ h => h) ?_ ?_
        rotate_left
        ·intro w' hSw; (try dsimp only at hSw); go_simp <;> with_reducible rfl
        simp only [Act.put, List.setIfInBounds_toArray, List.set_cons_zero, List.set_cons_succ]
        refine heldTake 19 (some 53) (v := ?_) rfl rfl (by kernel_rfl) (by kernel_rfl) (by kernel_rfl) (by rfl) hHeld (fun _ _ _ h => h) ?_ ?_
        rotate_left
        ·intro w' hSw; (try dsimp only at hSw); have q0 : w'.cell? ⟨b, off + k * 3, none⟩ = some (.slice xA xn xc) := (World.cell?_of_block ((HBW.out.trans (hSw.mono HBW.out.size)).block _ HBL.out)).trans g0; go_simp <;> with_reducible rfl
        simp only [Act.put, List.setIfInBounds_toArray, List.set_cons_zero, List.set_cons_succ]
        refine heldTake 20 (some 54) (v := ?_) rfl rfl (by kernel_rfl) (by kernel_rfl) (by kernel_rfl) (by rfl) hHeld (fun _ _ _ h => h) ?_ ?_
        rotate_left
        ·intro w' hSw; (try dsimp only at hSw); go_simp <;> with_reducible rfl
        simp only [Act.put, List.setIfInBounds_toArray, List.set_cons_zero, List.set_cons_succ]
        refine heldTake 21 (some 55) (v := ?_) rfl rfl (by kernel_rfl) (by kernel_rfl) (by kernel_rfl) (by rfl) hHeld (fun _ _ _ h => h) ?_ ?_
        rotate_left
        ·intro w' hSw; (try dsimp only at hSw); have q0 := cell_of_row w' _ 2 _ _ _ (FY.out _ hSw); go_simp <;> with_reducible rfl
        simp only [Act.put, List.setIfInBounds_toArray, List.set_cons_zero, List.set_cons_succ]
        refine heldTake 22 (some 56) (v := ?_) rfl rfl (by kernel_rfl) (by kernel_rfl) (by kernel_rfl) (by rfl) hHeld (fun _ _ _ h => h) ?_ ?_
        rotate_left
        ·intro w' hSw; (try dsimp only at hSw); go_simp <;> with_reducible rfl
        simp only [Act.put, List.setIfInBounds_toArray, List.set_cons_zero, List.set_cons_succ]
        refine heldTake 23 (some 57) (v := ?_) rfl rfl (by kernel_rfl) (by kernel_rfl) (by kernel_rfl) (by rfl) hHeld (fun _ _ _ h => h) ?_ ?_
        rotate_left
        ·intro w' hSw; (try dsimp only at hSw); go_simp <;> with_reducible rfl
        simp only [Act.put, List.setIfInBounds_toArray, List.set_cons_zero, List.set_cons_succ]
        refine heldTake 24 (some 58) (v := ?_) rfl rfl (by kernel_rfl) (by kernel_rfl) (by kernel_rfl) (by rfl) hHeld (fun _ _ _ h => h) ?_ ?_
        rotate_left
        ·intro w' hSw; (try dsimp only at hSw); go_simp <;> with_reducible rfl
        simp only [Act.put, List.setIfInBounds_toArray, List.set_cons_zero, List.set_cons_succ]
        refine heldTake 25 (some 59) (v := ?_) rfl rfl (by kernel_rfl) (by kernel_rfl) (by kernel_rfl) (by rfl) hHeld (fun _ _ _ h => h) ?_ ?_
        rotate_left
        ·intro w' hSw; (try dsimp only at hSw); have q0 : w'.cell? ⟨b', off' + k * 3, none⟩ = some (.slice yA yn yc) := (World.cell?_of_block ((HBW.out.trans (hSw.mono HBW.out.size)).block _ HBM.out)).trans h0; go_simp <;> with_reducible rfl
        simp only [Act.put, List.setIfInBounds_toArray, List.set_cons_zero, List.set_cons_succ]
        cases vc
        case false =>
         have HF : Hid (bo = false) := Lib.hid (by rw [HRX.out, GG54.out, GG55.out] <;> first | rfl | (simp; done))
         have HE : Hid (v1 = false) := Lib.hid (by rw [← HG2.out, HF.out]; rfl)
         have HFR : Hid (rs = false) := Lib.hid (by rw [HR.out, HE.out] <;> simp)
         refine heldCall 26 (some 60) (f := ?_) (args := ?_) rfl rfl (by kernel_rfl) (by rfl) ?_ ?_
         rotate_left 2
         ·go_simp <;> first | (constructor <;> with_reducible rfl) | with_reducible rfl
         (with_reducible refine (KC _ (HBW.out.trans (hHeld.mono HBW.out.size))).mono ?_)
         rintro _ z ⟨rfl, hz⟩
         refine ⟨_, rfl, keepAnd ?_ (fun hNew => ?_)⟩
         ·exact Below.trans hHeld (hz.mono hHeld.size)
         clear hHeld
         have hHeld := hNew
         clear hNew
         simp only [Act.put, List.setIfInBounds_toArray, List.set_cons_zero, List.set_cons_succ]
         refine heldTake 27 (some 61) (v := ?_) rfl rfl (by kernel_rfl) (by kernel_rfl) (by kernel_rfl) (by rfl) hHeld (fun _ _ _ h => h) ?_ ?_
         rotate_left
         ·intro w' hSw; (try dsimp only at hSw); go_simp <;> with_reducible rfl
         simp only [Act.put, List.setIfInBounds_toArray, List.set_cons_zero, List.set_cons_succ]
         refine heldTake 28 (some 62) (v := ?_) rfl rfl (by kernel_rfl) (by kernel_rfl) (by kernel_rfl) (by rfl) hHeld (fun _ _ _ h => h) ?_ ?_
         rotate_left
         ·intro w' hSw; (try dsimp only at hSw); go_simp <;> with_reducible rfl
         simp only [Act.put, List.setIfInBounds_toArray, List.set_cons_zero, List.set_cons_succ]
         refine wpAnyH_done (by kernel_rfl) ?_ _
         refine NoPanic.normal ?_
         have HZ : Hid (Below W.heap.size W _) := Lib.hid hHeld
         go_wp2_with fail
         go_ret
         exact ⟨by rw [HFR.out] <;> rfl, (HBW.out.trans (HZ.out.mono HBW.out.size))⟩
        case true =>
         have HF : Hid (bo = true) := Lib.hid (by rw [HRX.out, GG54.out, GG55.out] <;> first | rfl | (simp; done))
         have HN : Hid (sameL sFct (xops.drop (k + 1)) (yops.drop (k + 1)) = v1) := Lib.hid (by rw [← HG2.out, HF.out]; simp)
         refine heldCall 26 (some 60) (f := ?_) (args := ?_) rfl rfl (by kernel_rfl) (by rfl) ?_ ?_
         rotate_left 2
         ·go_simp <;> first | (constructor <;> with_reducible rfl) | with_reducible rfl
         (with_reducible refine (KC _ (HBW.out.trans (hHeld.mono HBW.out.size))).mono ?_)
         rintro _ z ⟨rfl, hz⟩
         refine ⟨_, rfl, keepAnd ?_ (fun hNew => ?_)⟩
         ·exact Below.trans hHeld (hz.mono hHeld.size)
         clear hHeld
         have hHeld := hNew
         clear hNew
         simp only [Act.put, List.setIfInBounds_toArray, List.set_cons_zero, List.set_cons_succ]
         refine heldTake 27 (some 61) (v := ?_) rfl rfl (by kernel_rfl) (by kernel_rfl) (by kernel_rfl) (by rfl) hHeld (fun _ _ _ h => h) ?_ ?_
         rotate_left
         ·intro w' hSw; (try dsimp only at hSw); go_simp <;> with_reducible rfl
         simp only [Act.put, List.setIfInBounds_toArray, List.set_cons_zero, List.set_cons_succ]
         refine heldTake 28 (some 62) (v := ?_) rfl rfl (by kernel_rfl) (by kernel_rfl) (by kernel_rfl) (by rfl) hHeld (fun _ _ _ h => h) ?_ ?_
         rotate_left
         ·intro w' hSw; (try dsimp only at hSw); go_simp <;> with_reducible rfl
         simp only [Act.put, List.setIfInBounds_toArray, List.set_cons_zero, List.set_cons_succ]
         refine wpAnyH_done (by kernel_rfl) ?_ _
         refine NoPanic.normal ?_
         have HZ : Hid (Below W.heap.size W _) := Lib.hid hHeld
         go_wp2_with fail
         go_roundw
         case rel => exact ⟨k + 1, by go_num, hlt, HN, HZ⟩
         case measure => simp [intOf]; omega
end Go.Proofs.YtbfdegkickjbpaaGreat
