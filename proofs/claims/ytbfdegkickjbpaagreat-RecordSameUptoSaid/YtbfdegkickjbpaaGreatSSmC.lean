/-
 SmC
-/
import Derived.Test.YtbfdegkickjbpaaGreatSSmA
namespace Go.Proofs.YtbfdegkickjbpaaGreat
open Go.RowKit Go.Lib Go.IntWalk Go.Sort Go.Shelf
set_option maxRecDepth 1000000 in
set_option maxHeartbeats 8000000 in
theorem eqInt_any (v u : Value) (l m : List Int) (w : World) (hv : RdE 1 intE w (· < w.heap.size) v l) (hu : RdE 1 intE w (· < w.heap.size) u m) :
  Calls Tryz.prog 91 #[v, u] w fun e w' => e = .returned (.bool (sameL sInt l m)) ∧ Below w.heap.size w w' := by
 obtain ⟨A, c, rfl, a1, a2, a3⟩ := Rd.open_ (show Rd w _ 1 v l.length (l.flatMap intE) from hv)
 obtain ⟨A', c', rfl, b1, b2, b3⟩ := Rd.open_ (show Rd w _ 1 u m.length (m.flatMap intE) from hu)
 unfold maxLen at a2 b2
 have HV := Lib.hid hv
 have HU := Lib.hid hu
 obtain ⟨res, hres⟩ : ∃ r, r = sameL sInt l m := ⟨_, rfl⟩
 rw [← hres]
 have HRES := Lib.hid hres
 clear hv hu hres a3 b3
 go_enter Tryz.func91, Tryz.ntmps91
 by_cases hlen : l.length = m.length
 case neg =>
  have HE : Hid (res = false) := Lib.hid (by rw [HRES.out]; exact sameL_len hlen)
  have hlen2 : ¬ (l.length : Int) = (m.length : Int) := by omega
  have hlen3 : ((l.length : Int) != (m.length : Int)) = true := by simpa using hlen2
  go_wp2_with fail
  go_ret
  exact ⟨by rw [HE.out] <;> rfl, Below.refl _ _⟩
 case pos =>
 have hlen2 : (l.length : Int) = (m.length : Int) := by omega
 have hlen3 : ((l.length : Int) != (m.length : Int)) = false := by simpa using hlen2
 go_wp2_with fail
 clear hlen3
 go_loopw [13] (fun i wr => ∃ k : Nat, i = .int .i64 (k : Int) ∧ k ≤ l.length ∧ Hid (sameL sInt (l.drop k) (m.drop k) = res) ∧ Hid (Below w.heap.size w wr)) (fun i _ => l.length - (intOf i).toNat)
 case atStart => exact ⟨0, rfl, Nat.zero_le _, Lib.hid HRES.out.symm, Lib.hid (Below.refl _ _)⟩
 case round =>
  obtain ⟨k, rfl, hk, HG, HB⟩ := hrel
  obtain ⟨wi, rfl⟩ : ∃ wi : World, wi = wr := ⟨_, rfl⟩
  by_cases hlt : k < l.length
  case neg =>
   have hlt3 : ¬ (k : Int) < (l.length : Int) := by omega
   have HE : Hid (res = true) := Lib.hid (by rw [← HG.out]; exact sameL_end (by omega) (by omega))
   go_wp2_with fail
   go_ret
   exact ⟨by rw [HE.out] <;> rfl, HB.out⟩
  case pos =>
   have hlt' : k < m.length := by omega
   have hlt3 : (k : Int) < (l.length : Int) := by omega
   have hlt4 : (k : Int) < (m.length : Int) := by omega
   obtain ⟨b, off, rfl, hF, hcl⟩ := RdE.at_ (K := 1) (enc := intE) (fun _ => rfl) (by omega) (HV.out.below HB.out) hlt
   obtain ⟨b', off', rfl, hF', hcl'⟩ := RdE.at_ (K := 1) (enc := intE) (fun _ => rfl) (by omega) (HU.out.below HB.out) hlt'
   have HBL := Lib.hid hF
   have HBM := Lib.hid hF'
   have hcx := hcl k hlt
   have hcy := hcl' k hlt'
   have hg := HG.out
   rw [sameL_at hlt hlt'] at hg
   obtain ⟨x, hx⟩ : ∃ x, x = l[k] := ⟨_, rfl⟩
   obtain ⟨y, hy⟩ : ∃ y, y = m[k] := ⟨_, rfl⟩
   rw [← hx] at hcx hg
   rw [← hy] at hcy hg
   obtain ⟨bo, hbo⟩ : ∃ bo, bo = sInt x y := ⟨_, rfl⟩
   rw [← hbo] at hg
   have HG2 := Lib.hid hg
   clear hx hy hcl hcl' hF hF' hg HG
   obtain ⟨x1, hx1⟩ : ∃ z, z = x := ⟨_, rfl⟩
   obtain ⟨y1, hy1⟩ : ∃ z, z = y := ⟨_, rfl⟩
   subst hx1; subst hy1
   have g0 : wi.cell? ⟨b, off + k, none⟩ = some (.int .i64 x1) := by have h := hcx 0 (.int .i64 x1) (by decide) rfl; rw [Nat.mul_one, Nat.add_zero] at h; exact h
   have h0 : wi.cell? ⟨b', off' + k, none⟩ = some (.int .i64 y1) := by have h := hcy 0 (.int .i64 y1) (by decide) rfl; rw [Nat.mul_one, Nat.add_zero] at h; exact h
   have HRX : Hid (bo = (decide (x1 = y1))) := Lib.hid hbo
   clear hcx hcy hbo
   go_wp2_with fail
   by_cases tt1 : x1 = y1
   case neg =>
    have gg1 : Hid (decide (x1 = y1) = false) := Lib.hid (decide_eq_false tt1)
    have ee1 : (x1 == y1) = false := by simpa using tt1
    have ff1 : (x1 != y1) = true := by simpa using tt1
    have HF : Hid (bo = false) := Lib.hid (by rw [HRX.out, gg1.out] <;> simp)
    have HE : Hid (res = false) := Lib.hid (by rw [← HG2.out, HF.out]; rfl)
    refine wp_region_noPanic ?_
    refine wp_region_held_drew (S := (fun w' => Below wi.heap.size wi w')) (by kernel_rfl) ?_ (fun hHeld => ?_)
    ·exact (Below.refl _ _).drew
    refine heldTake 0 (some 16) (v := ?_) rfl rfl (by kernel_rfl) (by kernel_rfl) (by kernel_rfl) (by rfl) hHeld (fun _ _ _ h => h) ?_ ?_
    rotate_left
    ·intro w' hSw; (try dsimp only at hSw); go_simp <;> with_reducible rfl
    simp only [Act.put, List.setIfInBounds_toArray, List.set_cons_zero, List.set_cons_succ]
    refine heldTake 1 (some 17) (v := ?_) rfl rfl (by kernel_rfl) (by kernel_rfl) (by kernel_rfl) (by rfl) hHeld (fun _ _ _ h => h) ?_ ?_
    rotate_left
    ·intro w' hSw; (try dsimp only at hSw); go_simp <;> with_reducible rfl
    simp only [Act.put, List.setIfInBounds_toArray, List.set_cons_zero, List.set_cons_succ]
    refine heldTake 2 (some 18) (v := ?_) rfl rfl (by kernel_rfl) (by kernel_rfl) (by kernel_rfl) (by rfl) hHeld (fun _ _ _ h => h) ?_ ?_
    rotate_left
    ·intro w' hSw; (try dsimp only at hSw); go_simp <;> with_reducible rfl
    simp only [Act.put, List.setIfInBounds_toArray, List.set_cons_zero, List.set_cons_succ]
    refine heldTake 3 (some 19) (v := ?_) rfl rfl (by kernel_rfl) (by kernel_rfl) (by kernel_rfl) (by rfl) hHeld (fun _ _ _ h => h) ?_ ?_
    rotate_left
    ·intro w' hSw; (try dsimp only at hSw); have q0 : w'.cell? ⟨b, off + k, none⟩ = some (.int .i64 x1) := (World.cell?_of_block (hSw.block _ HBL.out)).trans g0; go_simp <;> with_reducible rfl
    simp only [Act.put, List.setIfInBounds_toArray, List.set_cons_zero, List.set_cons_succ]
    refine heldTake 4 (some 20) (v := ?_) rfl rfl (by kernel_rfl) (by kernel_rfl) (by kernel_rfl) (by rfl) hHeld (fun _ _ _ h => h) ?_ ?_
    rotate_left
    ·intro w' hSw; (try dsimp only at hSw); go_simp <;> with_reducible rfl
    simp only [Act.put, List.setIfInBounds_toArray, List.set_cons_zero, List.set_cons_succ]
    refine heldTake 5 (some 21) (v := ?_) rfl rfl (by kernel_rfl) (by kernel_rfl) (by kernel_rfl) (by rfl) hHeld (fun _ _ _ h => h) ?_ ?_
    rotate_left
    ·intro w' hSw; (try dsimp only at hSw); go_simp <;> with_reducible rfl
    simp only [Act.put, List.setIfInBounds_toArray, List.set_cons_zero, List.set_cons_succ]
    refine heldTake 6 (some 22) (v := ?_) rfl rfl (by kernel_rfl) (by kernel_rfl) (by kernel_rfl) (by rfl) hHeld (fun _ _ _ h => h) ?_ ?_
    rotate_left
    ·intro w' hSw; (try dsimp only at hSw); go_simp <;> with_reducible rfl
    simp only [Act.put, List.setIfInBounds_toArray, List.set_cons_zero, List.set_cons_succ]
    refine heldTake 7 (some 23) (v := ?_) rfl rfl (by kernel_rfl) (by kernel_rfl) (by kernel_rfl) (by rfl) hHeld (fun _ _ _ h => h) ?_ ?_
    rotate_left
    ·intro w' hSw; (try dsimp only at hSw); have q0 : w'.cell? ⟨b', off' + k, none⟩ = some (.int .i64 y1) := (World.cell?_of_block (hSw.block _ HBM.out)).trans h0; go_simp <;> with_reducible rfl
    simp only [Act.put, List.setIfInBounds_toArray, List.set_cons_zero, List.set_cons_succ]
    refine heldTake 8 (some 24) (v := ?_) rfl rfl (by kernel_rfl) (by kernel_rfl) (by kernel_rfl) (by rfl) hHeld (fun _ _ _ h => h) ?_ ?_
    rotate_left
    ·intro w' hSw; (try dsimp only at hSw); go_simp <;> with_reducible rfl
    simp only [Act.put, List.setIfInBounds_toArray, List.set_cons_zero, List.set_cons_succ]
    refine wpAnyH_done (by kernel_rfl) ?_ _
    refine NoPanic.normal ?_
    go_wp2_with fail
    go_ret
    exact ⟨by rw [HE.out] <;> rfl, HB.out.drew⟩
   case pos =>
    have GG1 : Hid (decide (x1 = y1) = true) := Lib.hid (decide_eq_true tt1)
    have ee1 : (x1 == y1) = true := by simpa using tt1
    have ff1 : (x1 != y1) = false := by simpa using tt1
    clear tt1
    have HF : Hid (bo = true) := Lib.hid (by rw [HRX.out, GG1.out] <;> first | rfl | (simp; done))
    have HN : Hid (sameL sInt (l.drop (k + 1)) (m.drop (k + 1)) = res) := Lib.hid (by rw [← HG2.out, HF.out]; simp)
    refine wp_region_noPanic ?_
    refine wp_region_held_drew (S := (fun w' => Below wi.heap.size wi w')) (by kernel_rfl) ?_ (fun hHeld => ?_)
    ·exact (Below.refl _ _).drew
    refine heldTake 0 (some 16) (v := ?_) rfl rfl (by kernel_rfl) (by kernel_rfl) (by kernel_rfl) (by rfl) hHeld (fun _ _ _ h => h) ?_ ?_
    rotate_left
    ·intro w' hSw; (try dsimp only at hSw); go_simp <;> with_reducible rfl
    simp only [Act.put, List.setIfInBounds_toArray, List.set_cons_zero, List.set_cons_succ]
    refine heldTake 1 (some 17) (v := ?_) rfl rfl (by kernel_rfl) (by kernel_rfl) (by kernel_rfl) (by rfl) hHeld (fun _ _ _ h => h) ?_ ?_
    rotate_left
    ·intro w' hSw; (try dsimp only at hSw); go_simp <;> with_reducible rfl
    simp only [Act.put, List.setIfInBounds_toArray, List.set_cons_zero, List.set_cons_succ]
    refine heldTake 2 (some 18) (v := ?_) rfl rfl (by kernel_rfl) (by kernel_rfl) (by kernel_rfl) (by rfl) hHeld (fun _ _ _ h => h) ?_ ?_
    rotate_left
    ·intro w' hSw; (try dsimp only at hSw); go_simp <;> with_reducible rfl
    simp only [Act.put, List.setIfInBounds_toArray, List.set_cons_zero, List.set_cons_succ]
    refine heldTake 3 (some 19) (v := ?_) rfl rfl (by kernel_rfl) (by kernel_rfl) (by kernel_rfl) (by rfl) hHeld (fun _ _ _ h => h) ?_ ?_
    rotate_left
    ·intro w' hSw; (try dsimp only at hSw); have q0 : w'.cell? ⟨b, off + k, none⟩ = some (.int .i64 x1) := (World.cell?_of_block (hSw.block _ HBL.out)).trans g0; go_simp <;> with_reducible rfl
    simp only [Act.put, List.setIfInBounds_toArray, List.set_cons_zero, List.set_cons_succ]
    refine heldTake 4 (some 20) (v := ?_) rfl rfl (by kernel_rfl) (by kernel_rfl) (by kernel_rfl) (by rfl) hHeld (fun _ _ _ h => h) ?_ ?_
    rotate_left
    ·intro w' hSw; (try dsimp only at hSw); go_simp <;> with_reducible rfl
    simp only [Act.put, List.setIfInBounds_toArray, List.set_cons_zero, List.set_cons_succ]
    refine heldTake 5 (some 21) (v := ?_) rfl rfl (by kernel_rfl) (by kernel_rfl) (by kernel_rfl) (by rfl) hHeld (fun _ _ _ h => h) ?_ ?_
    rotate_left
    ·intro w' hSw; (try dsimp only at hSw); go_simp <;> with_reducible rfl
    simp only [Act.put, List.setIfInBounds_toArray, List.set_cons_zero, List.set_cons_succ]
    refine heldTake 6 (some 22) (v := ?_) rfl rfl (by kernel_rfl) (by kernel_rfl) (by kernel_rfl) (by rfl) hHeld (fun _ _ _ h => h) ?_ ?_
    rotate_left
    ·intro w' hSw; (try dsimp only at hSw); go_simp <;> with_reducible rfl
    simp only [Act.put, List.setIfInBounds_toArray, List.set_cons_zero, List.set_cons_succ]
    refine heldTake 7 (some 23) (v := ?_) rfl rfl (by kernel_rfl) (by kernel_rfl) (by kernel_rfl) (by rfl) hHeld (fun _ _ _ h => h) ?_ ?_
    rotate_left
    ·intro w' hSw; (try dsimp only at hSw); have q0 : w'.cell? ⟨b', off' + k, none⟩ = some (.int .i64 y1) := (World.cell?_of_block (hSw.block _ HBM.out)).trans h0; go_simp <;> with_reducible rfl
    simp only [Act.put, List.setIfInBounds_toArray, List.set_cons_zero, List.set_cons_succ]
    refine heldTake 8 (some 24) (v := ?_) rfl rfl (by kernel_rfl) (by kernel_rfl) (by kernel_rfl) (by rfl) hHeld (fun _ _ _ h => h) ?_ ?_
    rotate_left
    ·intro w' hSw; (try dsimp only at hSw); go_simp <;> with_reducible rfl
    simp only [Act.put, List.setIfInBounds_toArray, List.set_cons_zero, List.set_cons_succ]
    refine wpAnyH_done (by kernel_rfl) ?_ _
    refine NoPanic.normal ?_
    go_wp2_with fail
    go_roundw
    case rel => exact ⟨k + 1, by go_num, hlt, HN, Lib.hid HB.out.drew⟩
    case measure => simp [intOf]; omega
set_option maxRecDepth 1000000 in
set_option maxHeartbeats 8000000 in
theorem eqHld_any (v u : Value) (l m : List Hld) (w : World) (hv : RdE 6 Hld.enc w (· < w.heap.size) v l) (hu : RdE 6 Hld.enc w (· < w.heap.size) u m) :
  Calls Tryz.prog 94 #[v, u] w fun e w' => e = .returned (.bool (sameL sHld l m)) ∧ Below w.heap.size w w' := by
 obtain ⟨A, c, rfl, a1, a2, a3⟩ := Rd.open_ (show Rd w _ 6 v l.length (l.flatMap Hld.enc) from hv)
 obtain ⟨A', c', rfl, b1, b2, b3⟩ := Rd.open_ (show Rd w _ 6 u m.length (m.flatMap Hld.enc) from hu)
 unfold maxLen at a2 b2
 have HV := Lib.hid hv
 have HU := Lib.hid hu
 obtain ⟨res, hres⟩ : ∃ r, r = sameL sHld l m := ⟨_, rfl⟩
 rw [← hres]
 have HRES := Lib.hid hres
 clear hv hu hres a3 b3
 go_enter Tryz.func94, Tryz.ntmps94
 by_cases hlen : l.length = m.length
 case neg =>
  have HE : Hid (res = false) := Lib.hid (by rw [HRES.out]; exact sameL_len hlen)
  have hlen2 : ¬ (l.length : Int) = (m.length : Int) := by omega
  have hlen3 : ((l.length : Int) != (m.length : Int)) = true := by simpa using hlen2
  go_wp2_with fail
  go_ret
  exact ⟨by rw [HE.out] <;> rfl, Below.refl _ _⟩
 case pos =>
 have hlen2 : (l.length : Int) = (m.length : Int) := by omega
 have hlen3 : ((l.length : Int) != (m.length : Int)) = false := by simpa using hlen2
 go_wp2_with fail
 clear hlen3
 go_loopw [13] (fun i wr => ∃ k : Nat, i = .int .i64 (k : Int) ∧ k ≤ l.length ∧ Hid (sameL sHld (l.drop k) (m.drop k) = res) ∧ Hid (Below w.heap.size w wr)) (fun i _ => l.length - (intOf i).toNat)
 case atStart => exact ⟨0, rfl, Nat.zero_le _, Lib.hid HRES.out.symm, Lib.hid (Below.refl _ _)⟩
 case round =>
  obtain ⟨k, rfl, hk, HG, HB⟩ := hrel
  obtain ⟨wi, rfl⟩ : ∃ wi : World, wi = wr := ⟨_, rfl⟩
  by_cases hlt : k < l.length
  case neg =>
   have hlt3 : ¬ (k : Int) < (l.length : Int) := by omega
   have HE : Hid (res = true) := Lib.hid (by rw [← HG.out]; exact sameL_end (by omega) (by omega))
   go_wp2_with fail
   go_ret
   exact ⟨by rw [HE.out] <;> rfl, HB.out⟩
  case pos =>
   have hlt' : k < m.length := by omega
   have hlt3 : (k : Int) < (l.length : Int) := by omega
   have hlt4 : (k : Int) < (m.length : Int) := by omega
   obtain ⟨b, off, rfl, hF, hcl⟩ := RdE.at_ (K := 6) (enc := Hld.enc) (fun _ => rfl) (by omega) (HV.out.below HB.out) hlt
   obtain ⟨b', off', rfl, hF', hcl'⟩ := RdE.at_ (K := 6) (enc := Hld.enc) (fun _ => rfl) (by omega) (HU.out.below HB.out) hlt'
   have HBL := Lib.hid hF
   have HBM := Lib.hid hF'
   have hcx := hcl k hlt
   have hcy := hcl' k hlt'
   have hg := HG.out
   rw [sameL_at hlt hlt'] at hg
   obtain ⟨x, hx⟩ : ∃ x, x = l[k] := ⟨_, rfl⟩
   obtain ⟨y, hy⟩ : ∃ y, y = m[k] := ⟨_, rfl⟩
   rw [← hx] at hcx hg
   rw [← hy] at hcy hg
   obtain ⟨bo, hbo⟩ : ∃ bo, bo = sHld x y := ⟨_, rfl⟩
   rw [← hbo] at hg
   have HG2 := Lib.hid hg
   clear hx hy hcl hcl' hF hF' hg HG
   obtain ⟨x1, x2, x3, x4, x5, x6⟩ := x
   obtain ⟨y1, y2, y3, y4, y5, y6⟩ := y
   
   have g0 : wi.cell? ⟨b, off + k * 6, none⟩ = some (.string x1) := hcx 0 _ (by decide) rfl
   have g1 : wi.cell? ⟨b, off + k * 6 + 1, none⟩ = some (.string x2) := hcx 1 _ (by decide) rfl
   have g2 : wi.cell? ⟨b, off + k * 6 + 2, none⟩ = some (.int .i64 x3) := hcx 2 _ (by decide) rfl
   have g3 : wi.cell? ⟨b, off + k * 6 + 3, none⟩ = some (.int .i64 x4) := hcx 3 _ (by decide) rfl
   have g4 : wi.cell? ⟨b, off + k * 6 + 4, none⟩ = some (.int .i64 x5) := hcx 4 _ (by decide) rfl
   have g5 : wi.cell? ⟨b, off + k * 6 + 5, none⟩ = some (.int .i64 x6) := hcx 5 _ (by decide) rfl
   have h0 : wi.cell? ⟨b', off' + k * 6, none⟩ = some (.string y1) := hcy 0 _ (by decide) rfl
   have h1 : wi.cell? ⟨b', off' + k * 6 + 1, none⟩ = some (.string y2) := hcy 1 _ (by decide) rfl
   have h2 : wi.cell? ⟨b', off' + k * 6 + 2, none⟩ = some (.int .i64 y3) := hcy 2 _ (by decide) rfl
   have h3 : wi.cell? ⟨b', off' + k * 6 + 3, none⟩ = some (.int .i64 y4) := hcy 3 _ (by decide) rfl
   have h4 : wi.cell? ⟨b', off' + k * 6 + 4, none⟩ = some (.int .i64 y5) := hcy 4 _ (by decide) rfl
   have h5 : wi.cell? ⟨b', off' + k * 6 + 5, none⟩ = some (.int .i64 y6) := hcy 5 _ (by decide) rfl
   have HRX : Hid (bo = (eqS x1 y1 && (eqS x2 y2 && (decide (x3 = y3) && (decide (x4 = y4) && (decide (x5 = y5) && (decide (x6 = y6)))))))) := Lib.hid hbo
   clear hcx hcy hbo
   go_wp2_with fail
   cases ee2 : (x1.toList == y1.toList)
   case false =>
    have gg2 : Hid (eqS x1 y1 = false) := Lib.hid ee2
    have ff2 : (x1.toList != y1.toList) = true := by rw [bne, ee2]; rfl
    have HF : Hid (bo = false) := Lib.hid (by rw [HRX.out, gg2.out] <;> simp)
    have HE : Hid (res = false) := Lib.hid (by rw [← HG2.out, HF.out]; rfl)
    refine wp_region_noPanic ?_
    refine wp_region_held_drew (S := (fun w' => Below wi.heap.size wi w')) (by kernel_rfl) ?_ (fun hHeld => ?_)
    ·exact (Below.refl _ _).drew
    refine heldTake 0 (some 16) (v := ?_) rfl rfl (by kernel_rfl) (by kernel_rfl) (by kernel_rfl) (by rfl) hHeld (fun _ _ _ h => h) ?_ ?_
    rotate_left
    ·intro w' hSw; (try dsimp only at hSw); go_simp <;> with_reducible rfl
    simp only [Act.put, List.setIfInBounds_toArray, List.set_cons_zero, List.set_cons_succ]
    refine heldTake 1 (some 17) (v := ?_) rfl rfl (by kernel_rfl) (by kernel_rfl) (by kernel_rfl) (by rfl) hHeld (fun _ _ _ h => h) ?_ ?_
    rotate_left
    ·intro w' hSw; (try dsimp only at hSw); go_simp <;> with_reducible rfl
    simp only [Act.put, List.setIfInBounds_toArray, List.set_cons_zero, List.set_cons_succ]
    refine heldTake 2 (some 18) (v := ?_) rfl rfl (by kernel_rfl) (by kernel_rfl) (by kernel_rfl) (by rfl) hHeld (fun _ _ _ h => h) ?_ ?_
    rotate_left
    ·intro w' hSw; (try dsimp only at hSw); go_simp <;> with_reducible rfl
    simp only [Act.put, List.setIfInBounds_toArray, List.set_cons_zero, List.set_cons_succ]
    refine heldTake 3 (some 19) (v := ?_) rfl rfl (by kernel_rfl) (by kernel_rfl) (by kernel_rfl) (by rfl) hHeld (fun _ _ _ h => h) ?_ ?_
    rotate_left
    ·intro w' hSw; (try dsimp only at hSw); have q0 : w'.cell? ⟨b, off + k * 6, none⟩ = some (.string x1) := (World.cell?_of_block (hSw.block _ HBL.out)).trans g0; have q1 : w'.cell? ⟨b, off + k * 6 + 1, none⟩ = some (.string x2) := (World.cell?_of_block (hSw.block _ HBL.out)).trans g1; have q2 : w'.cell? ⟨b, off + k * 6 + 2, none⟩ = some (.int .i64 x3) := (World.cell?_of_block (hSw.block _ HBL.out)).trans g2; have q3 : w'.cell? ⟨b, off + k * 6 + 3, none⟩ = some (.int .i64 x4) := (World.cell?_of_block (hSw.block _ HBL.out)).trans g3; have q4 : w'.cell? ⟨b, off + k * 6 + 4, none⟩ = some (.int .i64 x5) := (World.cell?_of_block (hSw.block _ HBL.out)).trans g4; have q5 : w'.cell? ⟨b, off + k * 6 + 5, none⟩ = some (.int .i64 x6) := (World.cell?_of_block (hSw.block _ HBL.out)).trans g5; go_simp <;> with_reducible rfl
    simp only [Act.put, List.setIfInBounds_toArray, List.set_cons_zero, List.set_cons_succ]
    refine heldTake 4 (some 20) (v := ?_) rfl rfl (by kernel_rfl) (by kernel_rfl) (by kernel_rfl) (by rfl) hHeld (fun _ _ _ h => h) ?_ ?_
    rotate_left
    ·intro w' hSw; (try dsimp only at hSw); go_simp <;> with_reducible rfl
    simp only [Act.put, List.setIfInBounds_toArray, List.set_cons_zero, List.set_cons_succ]
    refine heldTake 5 (some 21) (v := ?_) rfl rfl (by kernel_rfl) (by kernel_rfl) (by kernel_rfl) (by rfl) hHeld (fun _ _ _ h => h) ?_ ?_
    rotate_left
    ·intro w' hSw; (try dsimp only at hSw); go_simp <;> with_reducible rfl
    simp only [Act.put, List.setIfInBounds_toArray, List.set_cons_zero, List.set_cons_succ]
    refine heldTake 6 (some 22) (v := ?_) rfl rfl (by kernel_rfl) (by kernel_rfl) (by kernel_rfl) (by rfl) hHeld (fun _ _ _ h => h) ?_ ?_
    rotate_left
    ·intro w' hSw; (try dsimp only at hSw); go_simp <;> with_reducible rfl
    simp only [Act.put, List.setIfInBounds_toArray, List.set_cons_zero, List.set_cons_succ]
    refine heldTake 7 (some 23) (v := ?_) rfl rfl (by kernel_rfl) (by kernel_rfl) (by kernel_rfl) (by rfl) hHeld (fun _ _ _ h => h) ?_ ?_
    rotate_left
    ·intro w' hSw; (try dsimp only at hSw); have q0 : w'.cell? ⟨b', off' + k * 6, none⟩ = some (.string y1) := (World.cell?_of_block (hSw.block _ HBM.out)).trans h0; have q1 : w'.cell? ⟨b', off' + k * 6 + 1, none⟩ = some (.string y2) := (World.cell?_of_block (hSw.block _ HBM.out)).trans h1; have q2 : w'.cell? ⟨b', off' + k * 6 + 2, none⟩ = some (.int .i64 y3) := (World.cell?_of_block (hSw.block _ HBM.out)).trans h2; have q3 : w'.cell? ⟨b', off' + k * 6 + 3, none⟩ = some (.int .i64 y4) := (World.cell?_of_block (hSw.block _ HBM.out)).trans h3; have q4 : w'.cell? ⟨b', off' + k * 6 + 4, none⟩ = some (.int .i64 y5) := (World.cell?_of_block (hSw.block _ HBM.out)).trans h4; have q5 : w'.cell? ⟨b', off' + k * 6 + 5, none⟩ = some (.int .i64 y6) := (World.cell?_of_block (hSw.block _ HBM.out)).trans h5; go_simp <;> with_reducible rfl
    simp only [Act.put, List.setIfInBounds_toArray, List.set_cons_zero, List.set_cons_succ]
    refine heldTake 8 (some 24) (v := ?_) rfl rfl (by kernel_rfl) (by kernel_rfl) (by kernel_rfl) (by rfl) hHeld (fun _ _ _ h => h) ?_ ?_
    rotate_left
    ·intro w' hSw; (try dsimp only at hSw); go_simp <;> with_reducible rfl
    simp only [Act.put, List.setIfInBounds_toArray, List.set_cons_zero, List.set_cons_succ]
    refine wpAnyH_done (by kernel_rfl) ?_ _
    refine NoPanic.normal ?_
    go_wp2_with fail
    go_ret
    exact ⟨by rw [HE.out] <;> rfl, HB.out.drew⟩
   case true =>
    have GG2 : Hid (eqS x1 y1 = true) := Lib.hid ee2
    have ff2 : (x1.toList != y1.toList) = false := by rw [bne, ee2]; rfl
    cases ee3 : (x2.toList == y2.toList)
    case false =>
     have gg3 : Hid (eqS x2 y2 = false) := Lib.hid ee3
     have ff3 : (x2.toList != y2.toList) = true := by rw [bne, ee3]; rfl
     have HF : Hid (bo = false) := Lib.hid (by rw [HRX.out, GG2.out, gg3.out] <;> simp)
     have HE : Hid (res = false) := Lib.hid (by rw [← HG2.out, HF.out]; rfl)
     refine wp_region_noPanic ?_
     refine wp_region_held_drew (S := (fun w' => Below wi.heap.size wi w')) (by kernel_rfl) ?_ (fun hHeld => ?_)
     ·exact (Below.refl _ _).drew
     refine heldTake 0 (some 16) (v := ?_) rfl rfl (by kernel_rfl) (by kernel_rfl) (by kernel_rfl) (by rfl) hHeld (fun _ _ _ h => h) ?_ ?_
     rotate_left
     ·intro w' hSw; (try dsimp only at hSw); go_simp <;> with_reducible rfl
     simp only [Act.put, List.setIfInBounds_toArray, List.set_cons_zero, List.set_cons_succ]
     refine heldTake 1 (some 17) (v := ?_) rfl rfl (by kernel_rfl) (by kernel_rfl) (by kernel_rfl) (by rfl) hHeld (fun _ _ _ h => h) ?_ ?_
     rotate_left
     ·intro w' hSw; (try dsimp only at hSw); go_simp <;> with_reducible rfl
     simp only [Act.put, List.setIfInBounds_toArray, List.set_cons_zero, List.set_cons_succ]
     refine heldTake 2 (some 18) (v := ?_) rfl rfl (by kernel_rfl) (by kernel_rfl) (by kernel_rfl) (by rfl) hHeld (fun _ _ _ h => h) ?_ ?_
     rotate_left
     ·intro w' hSw; (try dsimp only at hSw); go_simp <;> with_reducible rfl
     simp only [Act.put, List.setIfInBounds_toArray, List.set_cons_zero, List.set_cons_succ]
     refine heldTake 3 (some 19) (v := ?_) rfl rfl (by kernel_rfl) (by kernel_rfl) (by kernel_rfl) (by rfl) hHeld (fun _ _ _ h => h) ?_ ?_
     rotate_left
     ·intro w' hSw; (try dsimp only at hSw); have q0 : w'.cell? ⟨b, off + k * 6, none⟩ = some (.string x1) := (World.cell?_of_block (hSw.block _ HBL.out)).trans g0; have q1 : w'.cell? ⟨b, off + k * 6 + 1, none⟩ = some (.string x2) := (World.cell?_of_block (hSw.block _ HBL.out)).trans g1; have q2 : w'.cell? ⟨b, off + k * 6 + 2, none⟩ = some (.int .i64 x3) := (World.cell?_of_block (hSw.block _ HBL.out)).trans g2; have q3 : w'.cell? ⟨b, off + k * 6 + 3, none⟩ = some (.int .i64 x4) := (World.cell?_of_block (hSw.block _ HBL.out)).trans g3; have q4 : w'.cell? ⟨b, off + k * 6 + 4, none⟩ = some (.int .i64 x5) := (World.cell?_of_block (hSw.block _ HBL.out)).trans g4; have q5 : w'.cell? ⟨b, off + k * 6 + 5, none⟩ = some (.int .i64 x6) := (World.cell?_of_block (hSw.block _ HBL.out)).trans g5; go_simp <;> with_reducible rfl
     simp only [Act.put, List.setIfInBounds_toArray, List.set_cons_zero, List.set_cons_succ]
     refine heldTake 4 (some 20) (v := ?_) rfl rfl (by kernel_rfl) (by kernel_rfl) (by kernel_rfl) (by rfl) hHeld (fun _ _ _ h => h) ?_ ?_
     rotate_left
     ·intro w' hSw; (try dsimp only at hSw); go_simp <;> with_reducible rfl
     simp only [Act.put, List.setIfInBounds_toArray, List.set_cons_zero, List.set_cons_succ]
     refine heldTake 5 (some 21) (v := ?_) rfl rfl (by kernel_rfl) (by kernel_rfl) (by kernel_rfl) (by rfl) hHeld (fun _ _ _ h => h) ?_ ?_
     rotate_left
     ·intro w' hSw; (try dsimp only at hSw); go_simp <;> with_reducible rfl
     simp only [Act.put, List.setIfInBounds_toArray, List.set_cons_zero, List.set_cons_succ]
     refine heldTake 6 (some 22) (v := ?_) rfl rfl (by kernel_rfl) (by kernel_rfl) (by kernel_rfl) (by rfl) hHeld (fun _ _ _ h => h) ?_ ?_
     rotate_left
     ·intro w' hSw; (try dsimp only at hSw); go_simp <;> with_reducible rfl
     simp only [Act.put, List.setIfInBounds_toArray, List.set_cons_zero, List.set_cons_succ]
     refine heldTake 7 (some 23) (v := ?_) rfl rfl (by kernel_rfl) (by kernel_rfl) (by kernel_rfl) (by rfl) hHeld (fun _ _ _ h => h) ?_ ?_
     rotate_left
     ·intro w' hSw; (try dsimp only at hSw); have q0 : w'.cell? ⟨b', off' + k * 6, none⟩ = some (.string y1) := (World.cell?_of_block (hSw.block _ HBM.out)).trans h0; have q1 : w'.cell? ⟨b', off' + k * 6 + 1, none⟩ = some (.string y2) := (World.cell?_of_block (hSw.block _ HBM.out)).trans h1; have q2 : w'.cell? ⟨b', off' + k * 6 + 2, none⟩ = some (.int .i64 y3) := (World.cell?_of_block (hSw.block _ HBM.out)).trans h2; have q3 : w'.cell? ⟨b', off' + k * 6 + 3, none⟩ = some (.int .i64 y4) := (World.cell?_of_block (hSw.block _ HBM.out)).trans h3; have q4 : w'.cell? ⟨b', off' + k * 6 + 4, none⟩ = some (.int .i64 y5) := (World.cell?_of_block (hSw.block _ HBM.out)).trans h4; have q5 : w'.cell? ⟨b', off' + k * 6 + 5, none⟩ = some (.int .i64 y6) := (World.cell?_of_block (hSw.block _ HBM.out)).trans h5; go_simp <;> with_reducible rfl
     simp only [Act.put, List.setIfInBounds_toArray, List.set_cons_zero, List.set_cons_succ]
     refine heldTake 8 (some 24) (v := ?_) rfl rfl (by kernel_rfl) (by kernel_rfl) (by kernel_rfl) (by rfl) hHeld (fun _ _ _ h => h) ?_ ?_
     rotate_left
     ·intro w' hSw; (try dsimp only at hSw); go_simp <;> with_reducible rfl
     simp only [Act.put, List.setIfInBounds_toArray, List.set_cons_zero, List.set_cons_succ]
     refine wpAnyH_done (by kernel_rfl) ?_ _
     refine NoPanic.normal ?_
     go_wp2_with fail
     go_ret
     exact ⟨by rw [HE.out] <;> rfl, HB.out.drew⟩
    case true =>
     have GG3 : Hid (eqS x2 y2 = true) := Lib.hid ee3
     have ff3 : (x2.toList != y2.toList) = false := by rw [bne, ee3]; rfl
     by_cases tt4 : x3 = y3
     case neg =>
      have gg4 : Hid (decide (x3 = y3) = false) := Lib.hid (decide_eq_false tt4)
      have ee4 : (x3 == y3) = false := by simpa using tt4
      have ff4 : (x3 != y3) = true := by simpa using tt4
      have HF : Hid (bo = false) := Lib.hid (by rw [HRX.out, GG2.out, GG3.out, gg4.out] <;> simp)
      have HE : Hid (res = false) := Lib.hid (by rw [← HG2.out, HF.out]; rfl)
      refine wp_region_noPanic ?_
      refine wp_region_held_drew (S := (fun w' => Below wi.heap.size wi w')) (by kernel_rfl) ?_ (fun hHeld => ?_)
      ·exact (Below.refl _ _).drew
      refine heldTake 0 (some 16) (v := ?_) rfl rfl (by kernel_rfl) (by kernel_rfl) (by kernel_rfl) (by rfl) hHeld (fun _ _ _ h => h) ?_ ?_
      rotate_left
      ·intro w' hSw; (try dsimp only at hSw); go_simp <;> with_reducible rfl
      simp only [Act.put, List.setIfInBounds_toArray, List.set_cons_zero, List.set_cons_succ]
      refine heldTake 1 (some 17) (v := ?_) rfl rfl (by kernel_rfl) (by kernel_rfl) (by kernel_rfl) (by rfl) hHeld (fun _ _ _ h => h) ?_ ?_
      rotate_left
      ·intro w' hSw; (try dsimp only at hSw); go_simp <;> with_reducible rfl
      simp only [Act.put, List.setIfInBounds_toArray, List.set_cons_zero, List.set_cons_succ]
      refine heldTake 2 (some 18) (v := ?_) rfl rfl (by kernel_rfl) (by kernel_rfl) (by kernel_rfl) (by rfl) hHeld (fun _ _ _ h => h) ?_ ?_
      rotate_left
      ·intro w' hSw; (try dsimp only at hSw); go_simp <;> with_reducible rfl
      simp only [Act.put, List.setIfInBounds_toArray, List.set_cons_zero, List.set_cons_succ]
      refine heldTake 3 (some 19) (v := ?_) rfl rfl (by kernel_rfl) (by kernel_rfl) (by kernel_rfl) (by rfl) hHeld (fun _ _ _ h => h) ?_ ?_
      rotate_left
      ·intro w' hSw; (try dsimp only at hSw); have q0 : w'.cell? ⟨b, off + k * 6, none⟩ = some (.string x1) := (World.cell?_of_block (hSw.block _ HBL.out)).trans g0; have q1 : w'.cell? ⟨b, off + k * 6 + 1, none⟩ = some (.string x2) := (World.cell?_of_block (hSw.block _ HBL.out)).trans g1; have q2 : w'.cell? ⟨b, off + k * 6 + 2, none⟩ = some (.int .i64 x3) := (World.cell?_of_block (hSw.block _ HBL.out)).trans g2; have q3 : w'.cell? ⟨b, off + k * 6 + 3, none⟩ = some (.int .i64 x4) := (World.cell?_of_block (hSw.block _ HBL.out)).trans g3; have q4 : w'.cell? ⟨b, off + k * 6 + 4, none⟩ = some (.int .i64 x5) := (World.cell?_of_block (hSw.block _ HBL.out)).trans g4; have q5 : w'.cell? ⟨b, off + k * 6 + 5, none⟩ = some (.int .i64 x6) := (World.cell?_of_block (hSw.block _ HBL.out)).trans g5; go_simp <;> with_reducible rfl
      simp only [Act.put, List.setIfInBounds_toArray, List.set_cons_zero, List.set_cons_succ]
      refine heldTake 4 (some 20) (v := ?_) rfl rfl (by kernel_rfl) (by kernel_rfl) (by kernel_rfl) (by rfl) hHeld (fun _ _ _ h => h) ?_ ?_
      rotate_left
      ·intro w' hSw; (try dsimp only at hSw); go_simp <;> with_reducible rfl
      simp only [Act.put, List.setIfInBounds_toArray, List.set_cons_zero, List.set_cons_succ]
      refine heldTake 5 (some 21) (v := ?_) rfl rfl (by kernel_rfl) (by kernel_rfl) (by kernel_rfl) (by rfl) hHeld (fun _ _ _ h => h) ?_ ?_
      rotate_left
      ·intro w' hSw; (try dsimp only at hSw); go_simp <;> with_reducible rfl
      simp only [Act.put, List.setIfInBounds_toArray, List.set_cons_zero, List.set_cons_succ]
      refine heldTake 6 (some 22) (v := ?_) rfl rfl (by kernel_rfl) (by kernel_rfl) (by kernel_rfl) (by rfl) hHeld (fun _ _ _ h => h) ?_ ?_
      rotate_left
      ·intro w' hSw; (try dsimp only at hSw); go_simp <;> with_reducible rfl
      simp only [Act.put, List.setIfInBounds_toArray, List.set_cons_zero, List.set_cons_succ]
      refine heldTake 7 (some 23) (v := ?_) rfl rfl (by kernel_rfl) (by kernel_rfl) (by kernel_rfl) (by rfl) hHeld (fun _ _ _ h => h) ?_ ?_
      rotate_left
      ·intro w' hSw; (try dsimp only at hSw); have q0 : w'.cell? ⟨b', off' + k * 6, none⟩ = some (.string y1) := (World.cell?_of_block (hSw.block _ HBM.out)).trans h0; have q1 : w'.cell? ⟨b', off' + k * 6 + 1, none⟩ = some (.string y2) := (World.cell?_of_block (hSw.block _ HBM.out)).trans h1; have q2 : w'.cell? ⟨b', off' + k * 6 + 2, none⟩ = some (.int .i64 y3) := (World.cell?_of_block (hSw.block _ HBM.out)).trans h2; have q3 : w'.cell? ⟨b', off' + k * 6 + 3, none⟩ = some (.int .i64 y4) := (World.cell?_of_block (hSw.block _ HBM.out)).trans h3; have q4 : w'.cell? ⟨b', off' + k * 6 + 4, none⟩ = some (.int .i64 y5) := (World.cell?_of_block (hSw.block _ HBM.out)).trans h4; have q5 : w'.cell? ⟨b', off' + k * 6 + 5, none⟩ = some (.int .i64 y6) := (World.cell?_of_block (hSw.block _ HBM.out)).trans h5; go_simp <;> with_reducible rfl
      simp only [Act.put, List.setIfInBounds_toArray, List.set_cons_zero, List.set_cons_succ]
      refine heldTake 8 (some 24) (v := ?_) rfl rfl (by kernel_rfl) (by kernel_rfl) (by kernel_rfl) (by rfl) hHeld (fun _ _ _ h => h) ?_ ?_
      rotate_left
      ·intro w' hSw; (try dsimp only at hSw); go_simp <;> with_reducible rfl
      simp only [Act.put, List.setIfInBounds_toArray, List.set_cons_zero, List.set_cons_succ]
      refine wpAnyH_done (by kernel_rfl) ?_ _
      refine NoPanic.normal ?_
      go_wp2_with fail
      go_ret
      exact ⟨by rw [HE.out] <;> rfl, HB.out.drew⟩
     case pos =>
      have GG4 : Hid (decide (x3 = y3) = true) := Lib.hid (decide_eq_true tt4)
      have ee4 : (x3 == y3) = true := by simpa using tt4
      have ff4 : (x3 != y3) = false := by simpa using tt4
      clear tt4
      by_cases tt5 : x4 = y4
      case neg =>
       have gg5 : Hid (decide (x4 = y4) = false) := Lib.hid (decide_eq_false tt5)
       have ee5 : (x4 == y4) = false := by simpa using tt5
       have ff5 : (x4 != y4) = true := by simpa using tt5
       have HF : Hid (bo = false) := Lib.hid (by rw [HRX.out, GG2.out, GG3.out, GG4.out, gg5.out] <;> simp)
       have HE : Hid (res = false) := Lib.hid (by rw [← HG2.out, HF.out]; rfl)
       refine wp_region_noPanic ?_
       refine wp_region_held_drew (S := (fun w' => Below wi.heap.size wi w')) (by kernel_rfl) ?_ (fun hHeld => ?_)
       ·exact (Below.refl _ _).drew
       refine heldTake 0 (some 16) (v := ?_) rfl rfl (by kernel_rfl) (by kernel_rfl) (by kernel_rfl) (by rfl) hHeld (fun _ _ _ h => h) ?_ ?_
       rotate_left
       ·intro w' hSw; (try dsimp only at hSw); go_simp <;> with_reducible rfl
       simp only [Act.put, List.setIfInBounds_toArray, List.set_cons_zero, List.set_cons_succ]
       refine heldTake 1 (some 17) (v := ?_) rfl rfl (by kernel_rfl) (by kernel_rfl) (by kernel_rfl) (by rfl) hHeld (fun _ _ _ h => h) ?_ ?_
       rotate_left
       ·intro w' hSw; (try dsimp only at hSw); go_simp <;> with_reducible rfl
       simp only [Act.put, List.setIfInBounds_toArray, List.set_cons_zero, List.set_cons_succ]
       refine heldTake 2 (some 18) (v := ?_) rfl rfl (by kernel_rfl) (by kernel_rfl) (by kernel_rfl) (by rfl) hHeld (fun _ _ _ h => h) ?_ ?_
       rotate_left
       ·intro w' hSw; (try dsimp only at hSw); go_simp <;> with_reducible rfl
       simp only [Act.put, List.setIfInBounds_toArray, List.set_cons_zero, List.set_cons_succ]
       refine heldTake 3 (some 19) (v := ?_) rfl rfl (by kernel_rfl) (by kernel_rfl) (by kernel_rfl) (by rfl) hHeld (fun _ _ _ h => h) ?_ ?_
       rotate_left
       ·intro w' hSw; (try dsimp only at hSw); have q0 : w'.cell? ⟨b, off + k * 6, none⟩ = some (.string x1) := (World.cell?_of_block (hSw.block _ HBL.out)).trans g0; have q1 : w'.cell? ⟨b, off + k * 6 + 1, none⟩ = some (.string x2) := (World.cell?_of_block (hSw.block _ HBL.out)).trans g1; have q2 : w'.cell? ⟨b, off + k * 6 + 2, none⟩ = some (.int .i64 x3) := (World.cell?_of_block (hSw.block _ HBL.out)).trans g2; have q3 : w'.cell? ⟨b, off + k * 6 + 3, none⟩ = some (.int .i64 x4) := (World.cell?_of_block (hSw.block _ HBL.out)).trans g3; have q4 : w'.cell? ⟨b, off + k * 6 + 4, none⟩ = some (.int .i64 x5) := (World.cell?_of_block (hSw.block _ HBL.out)).trans g4; have q5 : w'.cell? ⟨b, off + k * 6 + 5, none⟩ = some (.int .i64 x6) := (World.cell?_of_block (hSw.block _ HBL.out)).trans g5; go_simp <;> with_reducible rfl
       simp only [Act.put, List.setIfInBounds_toArray, List.set_cons_zero, List.set_cons_succ]
       refine heldTake 4 (some 20) (v := ?_) rfl rfl (by kernel_rfl) (by kernel_rfl) (by kernel_rfl) (by rfl) hHeld (fun _ _ _ h => h) ?_ ?_
       rotate_left
       ·intro w' hSw; (try dsimp only at hSw); go_simp <;> with_reducible rfl
       simp only [Act.put, List.setIfInBounds_toArray, List.set_cons_zero, List.set_cons_succ]
       refine heldTake 5 (some 21) (v := ?_) rfl rfl (by kernel_rfl) (by kernel_rfl) (by kernel_rfl) (by rfl) hHeld (fun _ _ _ h => h) ?_ ?_
       rotate_left
       ·intro w' hSw; (try dsimp only at hSw); go_simp <;> with_reducible rfl
       simp only [Act.put, List.setIfInBounds_toArray, List.set_cons_zero, List.set_cons_succ]
       refine heldTake 6 (some 22) (v := ?_) rfl rfl (by kernel_rfl) (by kernel_rfl) (by kernel_rfl) (by rfl) hHeld (fun _ _ _ h => h) ?_ ?_
       rotate_left
       ·intro w' hSw; (try dsimp only at hSw); go_simp <;> with_reducible rfl
       simp only [Act.put, List.setIfInBounds_toArray, List.set_cons_zero, List.set_cons_succ]
       refine heldTake 7 (some 23) (v := ?_) rfl rfl (by kernel_rfl) (by kernel_rfl) (by kernel_rfl) (by rfl) hHeld (fun _ _ _ h => h) ?_ ?_
       rotate_left
       ·intro w' hSw; (try dsimp only at hSw); have q0 : w'.cell? ⟨b', off' + k * 6, none⟩ = some (.string y1) := (World.cell?_of_block (hSw.block _ HBM.out)).trans h0; have q1 : w'.cell? ⟨b', off' + k * 6 + 1, none⟩ = some (.string y2) := (World.cell?_of_block (hSw.block _ HBM.out)).trans h1; have q2 : w'.cell? ⟨b', off' + k * 6 + 2, none⟩ = some (.int .i64 y3) := (World.cell?_of_block (hSw.block _ HBM.out)).trans h2; have q3 : w'.cell? ⟨b', off' + k * 6 + 3, none⟩ = some (.int .i64 y4) := (World.cell?_of_block (hSw.block _ HBM.out)).trans h3; have q4 : w'.cell? ⟨b', off' + k * 6 + 4, none⟩ = some (.int .i64 y5) := (World.cell?_of_block (hSw.block _ HBM.out)).trans h4; have q5 : w'.cell? ⟨b', off' + k * 6 + 5, none⟩ = some (.int .i64 y6) := (World.cell?_of_block (hSw.block _ HBM.out)).trans h5; go_simp <;> with_reducible rfl
       simp only [Act.put, List.setIfInBounds_toArray, List.set_cons_zero, List.set_cons_succ]
       refine heldTake 8 (some 24) (v := ?_) rfl rfl (by kernel_rfl) (by kernel_rfl) (by kernel_rfl) (by rfl) hHeld (fun _ _ _ h => h) ?_ ?_
       rotate_left
       ·intro w' hSw; (try dsimp only at hSw); go_simp <;> with_reducible rfl
       simp only [Act.put, List.setIfInBounds_toArray, List.set_cons_zero, List.set_cons_succ]
       refine wpAnyH_done (by kernel_rfl) ?_ _
       refine NoPanic.normal ?_
       go_wp2_with fail
       go_ret
       exact ⟨by rw [HE.out] <;> rfl, HB.out.drew⟩
      case pos =>
       have GG5 : Hid (decide (x4 = y4) = true) := Lib.hid (decide_eq_true tt5)
       have ee5 : (x4 == y4) = true := by simpa using tt5
       have ff5 : (x4 != y4) = false := by simpa using tt5
       clear tt5
       by_cases tt6 : x5 = y5
       case neg =>
        have gg6 : Hid (decide (x5 = y5) = false) := Lib.hid (decide_eq_false tt6)
        have ee6 : (x5 == y5) = false := by simpa using tt6
        have ff6 : (x5 != y5) = true := by simpa using tt6
        have HF : Hid (bo = false) := Lib.hid (by rw [HRX.out, GG2.out, GG3.out, GG4.out, GG5.out, gg6.out] <;> simp)
        have HE : Hid (res = false) := Lib.hid (by rw [← HG2.out, HF.out]; rfl)
        refine wp_region_noPanic ?_
        refine wp_region_held_drew (S := (fun w' => Below wi.heap.size wi w')) (by kernel_rfl) ?_ (fun hHeld => ?_)
        ·exact (Below.refl _ _).drew
        refine heldTake 0 (some 16) (v := ?_) rfl rfl (by kernel_rfl) (by kernel_rfl) (by kernel_rfl) (by rfl) hHeld (fun _ _ _ h => h) ?_ ?_
        rotate_left
        ·intro w' hSw; (try dsimp only at hSw); go_simp <;> with_reducible rfl
        simp only [Act.put, List.setIfInBounds_toArray, List.set_cons_zero, List.set_cons_succ]
        refine heldTake 1 (some 17) (v := ?_) rfl rfl (by kernel_rfl) (by kernel_rfl) (by kernel_rfl) (by rfl) hHeld (fun _ _ _ h => h) ?_ ?_
        rotate_left
        ·intro w' hSw; (try dsimp only at hSw); go_simp <;> with_reducible rfl
        simp only [Act.put, List.setIfInBounds_toArray, List.set_cons_zero, List.set_cons_succ]
        refine heldTake 2 (some 18) (v := ?_) rfl rfl (by kernel_rfl) (by kernel_rfl) (by kernel_rfl) (by rfl) hHeld (fun _ _ _ h => h) ?_ ?_
        rotate_left
        ·intro w' hSw; (try dsimp only at hSw); go_simp <;> with_reducible rfl
        simp only [Act.put, List.setIfInBounds_toArray, List.set_cons_zero, List.set_cons_succ]
        refine heldTake 3 (some 19) (v := ?_) rfl rfl (by kernel_rfl) (by kernel_rfl) (by kernel_rfl) (by rfl) hHeld (fun _ _ _ h => h) ?_ ?_
        rotate_left
        ·intro w' hSw; (try dsimp only at hSw); have q0 : w'.cell? ⟨b, off + k * 6, none⟩ = some (.string x1) := (World.cell?_of_block (hSw.block _ HBL.out)).trans g0; have q1 : w'.cell? ⟨b, off + k * 6 + 1, none⟩ = some (.string x2) := (World.cell?_of_block (hSw.block _ HBL.out)).trans g1; have q2 : w'.cell? ⟨b, off + k * 6 + 2, none⟩ = some (.int .i64 x3) := (World.cell?_of_block (hSw.block _ HBL.out)).trans g2; have q3 : w'.cell? ⟨b, off + k * 6 + 3, none⟩ = some (.int .i64 x4) := (World.cell?_of_block (hSw.block _ HBL.out)).trans g3; have q4 : w'.cell? ⟨b, off + k * 6 + 4, none⟩ = some (.int .i64 x5) := (World.cell?_of_block (hSw.block _ HBL.out)).trans g4; have q5 : w'.cell? ⟨b, off + k * 6 + 5, none⟩ = some (.int .i64 x6) := (World.cell?_of_block (hSw.block _ HBL.out)).trans g5; go_simp <;> with_reducible rfl
        simp only [Act.put, List.setIfInBounds_toArray, List.set_cons_zero, List.set_cons_succ]
        refine heldTake 4 (some 20) (v := ?_) rfl rfl (by kernel_rfl) (by kernel_rfl) (by kernel_rfl) (by rfl) hHeld (fun _ _ _ h => h) ?_ ?_
        rotate_left
        ·intro w' hSw; (try dsimp only at hSw); go_simp <;> with_reducible rfl
        simp only [Act.put, List.setIfInBounds_toArray, List.set_cons_zero, List.set_cons_succ]
        refine heldTake 5 (some 21) (v := ?_) rfl rfl (by kernel_rfl) (by kernel_rfl) (by kernel_rfl) (by rfl) hHeld (fun _ _ _ h => h) ?_ ?_
        rotate_left
        ·intro w' hSw; (try dsimp only at hSw); go_simp <;> with_reducible rfl
        simp only [Act.put, List.setIfInBounds_toArray, List.set_cons_zero, List.set_cons_succ]
        refine heldTake 6 (some 22) (v := ?_) rfl rfl (by kernel_rfl) (by kernel_rfl) (by kernel_rfl) (by rfl) hHeld (fun _ _ _ h => h) ?_ ?_
        rotate_left
        ·intro w' hSw; (try dsimp only at hSw); go_simp <;> with_reducible rfl
        simp only [Act.put, List.setIfInBounds_toArray, List.set_cons_zero, List.set_cons_succ]
        refine heldTake 7 (some 23) (v := ?_) rfl rfl (by kernel_rfl) (by kernel_rfl) (by kernel_rfl) (by rfl) hHeld (fun _ _ _ h => h) ?_ ?_
        rotate_left
        ·intro w' hSw; (try dsimp only at hSw); have q0 : w'.cell? ⟨b', off' + k * 6, none⟩ = some (.string y1) := (World.cell?_of_block (hSw.block _ HBM.out)).trans h0; have q1 : w'.cell? ⟨b', off' + k * 6 + 1, none⟩ = some (.string y2) := (World.cell?_of_block (hSw.block _ HBM.out)).trans h1; have q2 : w'.cell? ⟨b', off' + k * 6 + 2, none⟩ = some (.int .i64 y3) := (World.cell?_of_block (hSw.block _ HBM.out)).trans h2; have q3 : w'.cell? ⟨b', off' + k * 6 + 3, none⟩ = some (.int .i64 y4) := (World.cell?_of_block (hSw.block _ HBM.out)).trans h3; have q4 : w'.cell? ⟨b', off' + k * 6 + 4, none⟩ = some (.int .i64 y5) := (World.cell?_of_block (hSw.block _ HBM.out)).trans h4; have q5 : w'.cell? ⟨b', off' + k * 6 + 5, none⟩ = some (.int .i64 y6) := (World.cell?_of_block (hSw.block _ HBM.out)).trans h5; go_simp <;> with_reducible rfl
        simp only [Act.put, List.setIfInBounds_toArray, List.set_cons_zero, List.set_cons_succ]
        refine heldTake 8 (some 24) (v := ?_) rfl rfl (by kernel_rfl) (by kernel_rfl) (by kernel_rfl) (by rfl) hHeld (fun _ _ _ h => h) ?_ ?_
        rotate_left
        ·intro w' hSw; (try dsimp only at hSw); go_simp <;> with_reducible rfl
        simp only [Act.put, List.setIfInBounds_toArray, List.set_cons_zero, List.set_cons_succ]
        refine wpAnyH_done (by kernel_rfl) ?_ _
        refine NoPanic.normal ?_
        go_wp2_with fail
        go_ret
        exact ⟨by rw [HE.out] <;> rfl, HB.out.drew⟩
       case pos =>
        have GG6 : Hid (decide (x5 = y5) = true) := Lib.hid (decide_eq_true tt6)
        have ee6 : (x5 == y5) = true := by simpa using tt6
        have ff6 : (x5 != y5) = false := by simpa using tt6
        clear tt6
        by_cases tt7 : x6 = y6
        case neg =>
         have gg7 : Hid (decide (x6 = y6) = false) := Lib.hid (decide_eq_false tt7)
         have ee7 : (x6 == y6) = false := by simpa using tt7
         have ff7 : (x6 != y6) = true := by simpa using tt7
         have HF : Hid (bo = false) := Lib.hid (by rw [HRX.out, GG2.out, GG3.out, GG4.out, GG5.out, GG6.out, gg7.out] <;> simp)
         have HE : Hid (res = false) := Lib.hid (by rw [← HG2.out, HF.out]; rfl)
         refine wp_region_noPanic ?_
         refine wp_region_held_drew (S := (fun w' => Below wi.heap.size wi w')) (by kernel_rfl) ?_ (fun hHeld => ?_)
         ·exact (Below.refl _ _).drew
         refine heldTake 0 (some 16) (v := ?_) rfl rfl (by kernel_rfl) (by kernel_rfl) (by kernel_rfl) (by rfl) hHeld (fun _ _ _ h => h) ?_ ?_
         rotate_left
         ·intro w' hSw; (try dsimp only at hSw); go_simp <;> with_reducible rfl
         simp only [Act.put, List.setIfInBounds_toArray, List.set_cons_zero, List.set_cons_succ]
         refine heldTake 1 (some 17) (v := ?_) rfl rfl (by kernel_rfl) (by kernel_rfl) (by kernel_rfl) (by rfl) hHeld (fun _ _ _ h => h) ?_ ?_
         rotate_left
         ·intro w' hSw; (try dsimp only at hSw); go_simp <;> with_reducible rfl
         simp only [Act.put, List.setIfInBounds_toArray, List.set_cons_zero, List.set_cons_succ]
         refine heldTake 2 (some 18) (v := ?_) rfl rfl (by kernel_rfl) (by kernel_rfl) (by kernel_rfl) (by rfl) hHeld (fun _ _ _ h => h) ?_ ?_
         rotate_left
         ·intro w' hSw; (try dsimp only at hSw); go_simp <;> with_reducible rfl
         simp only [Act.put, List.setIfInBounds_toArray, List.set_cons_zero, List.set_cons_succ]
         refine heldTake 3 (some 19) (v := ?_) rfl rfl (by kernel_rfl) (by kernel_rfl) (by kernel_rfl) (by rfl) hHeld (fun _ _ _ h => h) ?_ ?_
         rotate_left
         ·intro w' hSw; (try dsimp only at hSw); have q0 : w'.cell? ⟨b, off + k * 6, none⟩ = some (.string x1) := (World.cell?_of_block (hSw.block _ HBL.out)).trans g0; have q1 : w'.cell? ⟨b, off + k * 6 + 1, none⟩ = some (.string x2) := (World.cell?_of_block (hSw.block _ HBL.out)).trans g1; have q2 : w'.cell? ⟨b, off + k * 6 + 2, none⟩ = some (.int .i64 x3) := (World.cell?_of_block (hSw.block _ HBL.out)).trans g2; have q3 : w'.cell? ⟨b, off + k * 6 + 3, none⟩ = some (.int .i64 x4) := (World.cell?_of_block (hSw.block _ HBL.out)).trans g3; have q4 : w'.cell? ⟨b, off + k * 6 + 4, none⟩ = some (.int .i64 x5) := (World.cell?_of_block (hSw.block _ HBL.out)).trans g4; have q5 : w'.cell? ⟨b, off + k * 6 + 5, none⟩ = some (.int .i64 x6) := (World.cell?_of_block (hSw.block _ HBL.out)).trans g5; go_simp <;> with_reducible rfl
         simp only [Act.put, List.setIfInBounds_toArray, List.set_cons_zero, List.set_cons_succ]
         refine heldTake 4 (some 20) (v := ?_) rfl rfl (by kernel_rfl) (by kernel_rfl) (by kernel_rfl) (by rfl) hHeld (fun _ _ _ h => h) ?_ ?_
         rotate_left
         ·intro w' hSw; (try dsimp only at hSw); go_simp <;> with_reducible rfl
         simp only [Act.put, List.setIfInBounds_toArray, List.set_cons_zero, List.set_cons_succ]
         refine heldTake 5 (some 21) (v := ?_) rfl rfl (by kernel_rfl) (by kernel_rfl) (by kernel_rfl) (by rfl) hHeld (fun _ _ _ h => h) ?_ ?_
         rotate_left
         ·intro w' hSw; (try dsimp only at hSw); go_simp <;> with_reducible rfl
         simp only [Act.put, List.setIfInBounds_toArray, List.set_cons_zero, List.set_cons_succ]
         refine heldTake 6 (some 22) (v := ?_) rfl rfl (by kernel_rfl) (by kernel_rfl) (by kernel_rfl) (by rfl) hHeld (fun _ _ _ h => h) ?_ ?_
         rotate_left
         ·intro w' hSw; (try dsimp only at hSw); go_simp <;> with_reducible rfl
         simp only [Act.put, List.setIfInBounds_toArray, List.set_cons_zero, List.set_cons_succ]
         refine heldTake 7 (some 23) (v := ?_) rfl rfl (by kernel_rfl) (by kernel_rfl) (by kernel_rfl) (by rfl) hHeld (fun _ _ _ h => h) ?_ ?_
         rotate_left
         ·intro w' hSw; (try dsimp only at hSw); have q0 : w'.cell? ⟨b', off' + k * 6, none⟩ = some (.string y1) := (World.cell?_of_block (hSw.block _ HBM.out)).trans h0; have q1 : w'.cell? ⟨b', off' + k * 6 + 1, none⟩ = some (.string y2) := (World.cell?_of_block (hSw.block _ HBM.out)).trans h1; have q2 : w'.cell? ⟨b', off' + k * 6 + 2, none⟩ = some (.int .i64 y3) := (World.cell?_of_block (hSw.block _ HBM.out)).trans h2; have q3 : w'.cell? ⟨b', off' + k * 6 + 3, none⟩ = some (.int .i64 y4) := (World.cell?_of_block (hSw.block _ HBM.out)).trans h3; have q4 : w'.cell? ⟨b', off' + k * 6 + 4, none⟩ = some (.int .i64 y5) := (World.cell?_of_block (hSw.block _ HBM.out)).trans h4; have q5 : w'.cell? ⟨b', off' + k * 6 + 5, none⟩ = some (.int .i64 y6) := (World.cell?_of_block (hSw.block _ HBM.out)).trans h5; go_simp <;> with_reducible rfl
         simp only [Act.put, List.setIfInBounds_toArray, List.set_cons_zero, List.set_cons_succ]
         refine heldTake 8 (some 24) (v := ?_) rfl rfl (by kernel_rfl) (by kernel_rfl) (by kernel_rfl) (by rfl) hHeld (fun _ _ _ h => h) ?_ ?_
         rotate_left
         ·intro w' hSw; (try dsimp only at hSw); go_simp <;> with_reducible rfl
         simp only [Act.put, List.setIfInBounds_toArray, List.set_cons_zero, List.set_cons_succ]
         refine wpAnyH_done (by kernel_rfl) ?_ _
         refine NoPanic.normal ?_
         go_wp2_with fail
         go_ret
         exact ⟨by rw [HE.out] <;> rfl, HB.out.drew⟩
        case pos =>
         have GG7 : Hid (decide (x6 = y6) = true) := Lib.hid (decide_eq_true tt7)
         have ee7 : (x6 == y6) = true := by simpa using tt7
         have ff7 : (x6 != y6) = false := by simpa using tt7
         clear tt7
         have HF : Hid (bo = true) := Lib.hid (by rw [HRX.out, GG2.out, GG3.out, GG4.out, GG5.out, GG6.out, GG7.out] <;> first | rfl | (simp; done))
         have HN : Hid (sameL sHld (l.drop (k + 1)) (m.drop (k + 1)) = res) := Lib.hid (by rw [← HG2.out, HF.out]; simp)
         refine wp_region_noPanic ?_
         refine wp_region_held_drew (S := (fun w' => Below wi.heap.size wi w')) (by kernel_rfl) ?_ (fun hHeld => ?_)
         ·exact (Below.refl _ _).drew
         refine heldTake 0 (some 16) (v := ?_) rfl rfl (by kernel_rfl) (by kernel_rfl) (by kernel_rfl) (by rfl) hHeld (fun _ _ _ h => h) ?_ ?_
         rotate_left
         ·intro w' hSw; (try dsimp only at hSw); go_simp <;> with_reducible rfl
         simp only [Act.put, List.setIfInBounds_toArray, List.set_cons_zero, List.set_cons_succ]
         refine heldTake 1 (some 17) (v := ?_) rfl rfl (by kernel_rfl) (by kernel_rfl) (by kernel_rfl) (by rfl) hHeld (fun _ _ _ h => h) ?_ ?_
         rotate_left
         ·intro w' hSw; (try dsimp only at hSw); go_simp <;> with_reducible rfl
         simp only [Act.put, List.setIfInBounds_toArray, List.set_cons_zero, List.set_cons_succ]
         refine heldTake 2 (some 18) (v := ?_) rfl rfl (by kernel_rfl) (by kernel_rfl) (by kernel_rfl) (by rfl) hHeld (fun _ _ _ h => h) ?_ ?_
         rotate_left
         ·intro w' hSw; (try dsimp only at hSw); go_simp <;> with_reducible rfl
         simp only [Act.put, List.setIfInBounds_toArray, List.set_cons_zero, List.set_cons_succ]
         refine heldTake 3 (some 19) (v := ?_) rfl rfl (by kernel_rfl) (by kernel_rfl) (by kernel_rfl) (by rfl) hHeld (fun _ _ _ h => h) ?_ ?_
         rotate_left
         ·intro w' hSw; (try dsimp only at hSw); have q0 : w'.cell? ⟨b, off + k * 6, none⟩ = some (.string x1) := (World.cell?_of_block (hSw.block _ HBL.out)).trans g0; have q1 : w'.cell? ⟨b, off + k * 6 + 1, none⟩ = some (.string x2) := (World.cell?_of_block (hSw.block _ HBL.out)).trans g1; have q2 : w'.cell? ⟨b, off + k * 6 + 2, none⟩ = some (.int .i64 x3) := (World.cell?_of_block (hSw.block _ HBL.out)).trans g2; have q3 : w'.cell? ⟨b, off + k * 6 + 3, none⟩ = some (.int .i64 x4) := (World.cell?_of_block (hSw.block _ HBL.out)).trans g3; have q4 : w'.cell? ⟨b, off + k * 6 + 4, none⟩ = some (.int .i64 x5) := (World.cell?_of_block (hSw.block _ HBL.out)).trans g4; have q5 : w'.cell? ⟨b, off + k * 6 + 5, none⟩ = some (.int .i64 x6) := (World.cell?_of_block (hSw.block _ HBL.out)).trans g5; go_simp <;> with_reducible rfl
         simp only [Act.put, List.setIfInBounds_toArray, List.set_cons_zero, List.set_cons_succ]
         refine heldTake 4 (some 20) (v := ?_) rfl rfl (by kernel_rfl) (by kernel_rfl) (by kernel_rfl) (by rfl) hHeld (fun _ _ _ h => h) ?_ ?_
         rotate_left
         ·intro w' hSw; (try dsimp only at hSw); go_simp <;> with_reducible rfl
         simp only [Act.put, List.setIfInBounds_toArray, List.set_cons_zero, List.set_cons_succ]
         refine heldTake 5 (some 21) (v := ?_) rfl rfl (by kernel_rfl) (by kernel_rfl) (by kernel_rfl) (by rfl) hHeld (fun _ _ _ h => h) ?_ ?_
         rotate_left
         ·intro w' hSw; (try dsimp only at hSw); go_simp <;> with_reducible rfl
         simp only [Act.put, List.setIfInBounds_toArray, List.set_cons_zero, List.set_cons_succ]
         refine heldTake 6 (some 22) (v := ?_) rfl rfl (by kernel_rfl) (by kernel_rfl) (by kernel_rfl) (by rfl) hHeld (fun _ _ _ h => h) ?_ ?_
         rotate_left
         ·intro w' hSw; (try dsimp only at hSw); go_simp <;> with_reducible rfl
         simp only [Act.put, List.setIfInBounds_toArray, List.set_cons_zero, List.set_cons_succ]
         refine heldTake 7 (some 23) (v := ?_) rfl rfl (by kernel_rfl) (by kernel_rfl) (by kernel_rfl) (by rfl) hHeld (fun _ _ _ h => h) ?_ ?_
         rotate_left
         ·intro w' hSw; (try dsimp only at hSw); have q0 : w'.cell? ⟨b', off' + k * 6, none⟩ = some (.string y1) := (World.cell?_of_block (hSw.block _ HBM.out)).trans h0; have q1 : w'.cell? ⟨b', off' + k * 6 + 1, none⟩ = some (.string y2) := (World.cell?_of_block (hSw.block _ HBM.out)).trans h1; have q2 : w'.cell? ⟨b', off' + k * 6 + 2, none⟩ = some (.int .i64 y3) := (World.cell?_of_block (hSw.block _ HBM.out)).trans h2; have q3 : w'.cell? ⟨b', off' + k * 6 + 3, none⟩ = some (.int .i64 y4) := (World.cell?_of_block (hSw.block _ HBM.out)).trans h3; have q4 : w'.cell? ⟨b', off' + k * 6 + 4, none⟩ = some (.int .i64 y5) := (World.cell?_of_block (hSw.block _ HBM.out)).trans h4; have q5 : w'.cell? ⟨b', off' + k * 6 + 5, none⟩ = some (.int .i64 y6) := (World.cell?_of_block (hSw.block _ HBM.out)).trans h5; go_simp <;> with_reducible rfl
         simp only [Act.put, List.setIfInBounds_toArray, List.set_cons_zero, List.set_cons_succ]
         refine heldTake 8 (some 24) (v := ?_) rfl rfl (by kernel_rfl) (by kernel_rfl) (by kernel_rfl) (by rfl) hHeld (fun _ _ _ h => h) ?_ ?_
         rotate_left
         ·intro w' hSw; (try dsimp only at hSw); go_simp <;> with_reducible rfl
         simp only [Act.put, List.setIfInBounds_toArray, List.set_cons_zero, List.set_cons_succ]
         refine wpAnyH_done (by kernel_rfl) ?_ _
         refine NoPanic.normal ?_
         go_wp2_with fail
         go_roundw
         case rel => exact ⟨k + 1, by go_num, hlt, HN, Lib.hid HB.out.drew⟩
         case measure => simp [intOf]; omega
set_option maxRecDepth 1000000 in
set_option maxHeartbeats 8000000 in
theorem eqStr_any (v u : Value) (l m : List ByteArray) (w : World) (hv : RdE 1 strE w (· < w.heap.size) v l) (hu : RdE 1 strE w (· < w.heap.size) u m) :
  Calls Tryz.prog 95 #[v, u] w fun e w' => e = .returned (.bool (sameL eqS l m)) ∧ Below w.heap.size w w' := by
 obtain ⟨A, c, rfl, a1, a2, a3⟩ := Rd.open_ (show Rd w _ 1 v l.length (l.flatMap strE) from hv)
 obtain ⟨A', c', rfl, b1, b2, b3⟩ := Rd.open_ (show Rd w _ 1 u m.length (m.flatMap strE) from hu)
 unfold maxLen at a2 b2
 have HV := Lib.hid hv
 have HU := Lib.hid hu
 obtain ⟨res, hres⟩ : ∃ r, r = sameL eqS l m := ⟨_, rfl⟩
 rw [← hres]
 have HRES := Lib.hid hres
 clear hv hu hres a3 b3
 go_enter Tryz.func95, Tryz.ntmps95
 by_cases hlen : l.length = m.length
 case neg =>
  have HE : Hid (res = false) := Lib.hid (by rw [HRES.out]; exact sameL_len hlen)
  have hlen2 : ¬ (l.length : Int) = (m.length : Int) := by omega
  have hlen3 : ((l.length : Int) != (m.length : Int)) = true := by simpa using hlen2
  go_wp2_with fail
  go_ret
  exact ⟨by rw [HE.out] <;> rfl, Below.refl _ _⟩
 case pos =>
 have hlen2 : (l.length : Int) = (m.length : Int) := by omega
 have hlen3 : ((l.length : Int) != (m.length : Int)) = false := by simpa using hlen2
 go_wp2_with fail
 clear hlen3
 go_loopw [13] (fun i wr => ∃ k : Nat, i = .int .i64 (k : Int) ∧ k ≤ l.length ∧ Hid (sameL eqS (l.drop k) (m.drop k) = res) ∧ Hid (Below w.heap.size w wr)) (fun i _ => l.length - (intOf i).toNat)
 case atStart => exact ⟨0, rfl, Nat.zero_le _, Lib.hid HRES.out.symm, Lib.hid (Below.refl _ _)⟩
 case round =>
  obtain ⟨k, rfl, hk, HG, HB⟩ := hrel
  obtain ⟨wi, rfl⟩ : ∃ wi : World, wi = wr := ⟨_, rfl⟩
  by_cases hlt : k < l.length
  case neg =>
   have hlt3 : ¬ (k : Int) < (l.length : Int) := by omega
   have HE : Hid (res = true) := Lib.hid (by rw [← HG.out]; exact sameL_end (by omega) (by omega))
   go_wp2_with fail
   go_ret
   exact ⟨by rw [HE.out] <;> rfl, HB.out⟩
  case pos =>
   have hlt' : k < m.length := by omega
   have hlt3 : (k : Int) < (l.length : Int) := by omega
   have hlt4 : (k : Int) < (m.length : Int) := by omega
   obtain ⟨b, off, rfl, hF, hcl⟩ := RdE.at_ (K := 1) (enc := strE) (fun _ => rfl) (by omega) (HV.out.below HB.out) hlt
   obtain ⟨b', off', rfl, hF', hcl'⟩ := RdE.at_ (K := 1) (enc := strE) (fun _ => rfl) (by omega) (HU.out.below HB.out) hlt'
   have HBL := Lib.hid hF
   have HBM := Lib.hid hF'
   have hcx := hcl k hlt
   have hcy := hcl' k hlt'
   have hg := HG.out
   rw [sameL_at hlt hlt'] at hg
   obtain ⟨x, hx⟩ : ∃ x, x = l[k] := ⟨_, rfl⟩
   obtain ⟨y, hy⟩ : ∃ y, y = m[k] := ⟨_, rfl⟩
   rw [← hx] at hcx hg
   rw [← hy] at hcy hg
   obtain ⟨bo, hbo⟩ : ∃ bo, bo = eqS x y := ⟨_, rfl⟩
   rw [← hbo] at hg
   have HG2 := Lib.hid hg
   clear hx hy hcl hcl' hF hF' hg HG
   obtain ⟨x1, hx1⟩ : ∃ z, z = x := ⟨_, rfl⟩
   obtain ⟨y1, hy1⟩ : ∃ z, z = y := ⟨_, rfl⟩
   subst hx1; subst hy1
   have g0 : wi.cell? ⟨b, off + k, none⟩ = some (.string x1) := by have h := hcx 0 (.string x1) (by decide) rfl; rw [Nat.mul_one, Nat.add_zero] at h; exact h
   have h0 : wi.cell? ⟨b', off' + k, none⟩ = some (.string y1) := by have h := hcy 0 (.string y1) (by decide) rfl; rw [Nat.mul_one, Nat.add_zero] at h; exact h
   have HRX : Hid (bo = (eqS x1 y1)) := Lib.hid hbo
   clear hcx hcy hbo
   go_wp2_with fail
   cases ee8 : (x1.toList == y1.toList)
   case false =>
    have gg8 : Hid (eqS x1 y1 = false) := Lib.hid ee8
    have ff8 : (x1.toList != y1.toList) = true := by rw [bne, ee8]; rfl
    have HF : Hid (bo = false) := Lib.hid (by rw [HRX.out, gg8.out] <;> simp)
    have HE : Hid (res = false) := Lib.hid (by rw [← HG2.out, HF.out]; rfl)
    refine wp_region_noPanic ?_
    refine wp_region_held_drew (S := (fun w' => Below wi.heap.size wi w')) (by kernel_rfl) ?_ (fun hHeld => ?_)
    ·exact (Below.refl _ _).drew
    refine heldTake 0 (some 16) (v := ?_) rfl rfl (by kernel_rfl) (by kernel_rfl) (by kernel_rfl) (by rfl) hHeld (fun _ _ _ h => h) ?_ ?_
    rotate_left
    ·intro w' hSw; (try dsimp only at hSw); go_simp <;> with_reducible rfl
    simp only [Act.put, List.setIfInBounds_toArray, List.set_cons_zero, List.set_cons_succ]
    refine heldTake 1 (some 17) (v := ?_) rfl rfl (by kernel_rfl) (by kernel_rfl) (by kernel_rfl) (by rfl) hHeld (fun _ _ _ h => h) ?_ ?_
    rotate_left
    ·intro w' hSw; (try dsimp only at hSw); go_simp <;> with_reducible rfl
    simp only [Act.put, List.setIfInBounds_toArray, List.set_cons_zero, List.set_cons_succ]
    refine heldTake 2 (some 18) (v := ?_) rfl rfl (by kernel_rfl) (by kernel_rfl) (by kernel_rfl) (by rfl) hHeld (fun _ _ _ h => h) ?_ ?_
    rotate_left
    ·intro w' hSw; (try dsimp only at hSw); go_simp <;> with_reducible rfl
    simp only [Act.put, List.setIfInBounds_toArray, List.set_cons_zero, List.set_cons_succ]
    refine heldTake 3 (some 19) (v := ?_) rfl rfl (by kernel_rfl) (by kernel_rfl) (by kernel_rfl) (by rfl) hHeld (fun _ _ _ h => h) ?_ ?_
    rotate_left
    ·intro w' hSw; (try dsimp only at hSw); have q0 : w'.cell? ⟨b, off + k, none⟩ = some (.string x1) := (World.cell?_of_block (hSw.block _ HBL.out)).trans g0; go_simp <;> with_reducible rfl
    simp only [Act.put, List.setIfInBounds_toArray, List.set_cons_zero, List.set_cons_succ]
    refine heldTake 4 (some 20) (v := ?_) rfl rfl (by kernel_rfl) (by kernel_rfl) (by kernel_rfl) (by rfl) hHeld (fun _ _ _ h => h) ?_ ?_
    rotate_left
    ·intro w' hSw; (try dsimp only at hSw); go_simp <;> with_reducible rfl
    simp only [Act.put, List.setIfInBounds_toArray, List.set_cons_zero, List.set_cons_succ]
    refine heldTake 5 (some 21) (v := ?_) rfl rfl (by kernel_rfl) (by kernel_rfl) (by kernel_rfl) (by rfl) hHeld (fun _ _ _ h => h) ?_ ?_
    rotate_left
    ·intro w' hSw; (try dsimp only at hSw); go_simp <;> with_reducible rfl
    simp only [Act.put, List.setIfInBounds_toArray, List.set_cons_zero, List.set_cons_succ]
    refine heldTake 6 (some 22) (v := ?_) rfl rfl (by kernel_rfl) (by kernel_rfl) (by kernel_rfl) (by rfl) hHeld (fun _ _ _ h => h) ?_ ?_
    rotate_left
    ·intro w' hSw; (try dsimp only at hSw); go_simp <;> with_reducible rfl
    simp only [Act.put, List.setIfInBounds_toArray, List.set_cons_zero, List.set_cons_succ]
    refine heldTake 7 (some 23) (v := ?_) rfl rfl (by kernel_rfl) (by kernel_rfl) (by kernel_rfl) (by rfl) hHeld (fun _ _ _ h => h) ?_ ?_
    rotate_left
    ·intro w' hSw; (try dsimp only at hSw); have q0 : w'.cell? ⟨b', off' + k, none⟩ = some (.string y1) := (World.cell?_of_block (hSw.block _ HBM.out)).trans h0; go_simp <;> with_reducible rfl
    simp only [Act.put, List.setIfInBounds_toArray, List.set_cons_zero, List.set_cons_succ]
    refine heldTake 8 (some 24) (v := ?_) rfl rfl (by kernel_rfl) (by kernel_rfl) (by kernel_rfl) (by rfl) hHeld (fun _ _ _ h => h) ?_ ?_
    rotate_left
    ·intro w' hSw; (try dsimp only at hSw); go_simp <;> with_reducible rfl
    simp only [Act.put, List.setIfInBounds_toArray, List.set_cons_zero, List.set_cons_succ]
    refine wpAnyH_done (by kernel_rfl) ?_ _
    refine NoPanic.normal ?_
    go_wp2_with fail
    go_ret
    exact ⟨by rw [HE.out] <;> rfl, HB.out.drew⟩
   case true =>
    have GG8 : Hid (eqS x1 y1 = true) := Lib.hid ee8
    have ff8 : (x1.toList != y1.toList) = false := by rw [bne, ee8]; rfl
    have HF : Hid (bo = true) := Lib.hid (by rw [HRX.out, GG8.out] <;> first | rfl | (simp; done))
    have HN : Hid (sameL eqS (l.drop (k + 1)) (m.drop (k + 1)) = res) := Lib.hid (by rw [← HG2.out, HF.out]; simp)
    refine wp_region_noPanic ?_
    refine wp_region_held_drew (S := (fun w' => Below wi.heap.size wi w')) (by kernel_rfl) ?_ (fun hHeld => ?_)
    ·exact (Below.refl _ _).drew
    refine heldTake 0 (some 16) (v := ?_) rfl rfl (by kernel_rfl) (by kernel_rfl) (by kernel_rfl) (by rfl) hHeld (fun _ _ _ h => h) ?_ ?_
    rotate_left
    ·intro w' hSw; (try dsimp only at hSw); go_simp <;> with_reducible rfl
    simp only [Act.put, List.setIfInBounds_toArray, List.set_cons_zero, List.set_cons_succ]
    refine heldTake 1 (some 17) (v := ?_) rfl rfl (by kernel_rfl) (by kernel_rfl) (by kernel_rfl) (by rfl) hHeld (fun _ _ _ h => h) ?_ ?_
    rotate_left
    ·intro w' hSw; (try dsimp only at hSw); go_simp <;> with_reducible rfl
    simp only [Act.put, List.setIfInBounds_toArray, List.set_cons_zero, List.set_cons_succ]
    refine heldTake 2 (some 18) (v := ?_) rfl rfl (by kernel_rfl) (by kernel_rfl) (by kernel_rfl) (by rfl) hHeld (fun _ _ _ h => h) ?_ ?_
    rotate_left
    ·intro w' hSw; (try dsimp only at hSw); go_simp <;> with_reducible rfl
    simp only [Act.put, List.setIfInBounds_toArray, List.set_cons_zero, List.set_cons_succ]
    refine heldTake 3 (some 19) (v := ?_) rfl rfl (by kernel_rfl) (by kernel_rfl) (by kernel_rfl) (by rfl) hHeld (fun _ _ _ h => h) ?_ ?_
    rotate_left
    ·intro w' hSw; (try dsimp only at hSw); have q0 : w'.cell? ⟨b, off + k, none⟩ = some (.string x1) := (World.cell?_of_block (hSw.block _ HBL.out)).trans g0; go_simp <;> with_reducible rfl
    simp only [Act.put, List.setIfInBounds_toArray, List.set_cons_zero, List.set_cons_succ]
    refine heldTake 4 (some 20) (v := ?_) rfl rfl (by kernel_rfl) (by kernel_rfl) (by kernel_rfl) (by rfl) hHeld (fun _ _ _ h => h) ?_ ?_
    rotate_left
    ·intro w' hSw; (try dsimp only at hSw); go_simp <;> with_reducible rfl
    simp only [Act.put, List.setIfInBounds_toArray, List.set_cons_zero, List.set_cons_succ]
    refine heldTake 5 (some 21) (v := ?_) rfl rfl (by kernel_rfl) (by kernel_rfl) (by kernel_rfl) (by rfl) hHeld (fun _ _ _ h => h) ?_ ?_
    rotate_left
    ·intro w' hSw; (try dsimp only at hSw); go_simp <;> with_reducible rfl
    simp only [Act.put, List.setIfInBounds_toArray, List.set_cons_zero, List.set_cons_succ]
    refine heldTake 6 (some 22) (v := ?_) rfl rfl (by kernel_rfl) (by kernel_rfl) (by kernel_rfl) (by rfl) hHeld (fun _ _ _ h => h) ?_ ?_
    rotate_left
    ·intro w' hSw; (try dsimp only at hSw); go_simp <;> with_reducible rfl
    simp only [Act.put, List.setIfInBounds_toArray, List.set_cons_zero, List.set_cons_succ]
    refine heldTake 7 (some 23) (v := ?_) rfl rfl (by kernel_rfl) (by kernel_rfl) (by kernel_rfl) (by rfl) hHeld (fun _ _ _ h => h) ?_ ?_
    rotate_left
    ·intro w' hSw; (try dsimp only at hSw); have q0 : w'.cell? ⟨b', off' + k, none⟩ = some (.string y1) := (World.cell?_of_block (hSw.block _ HBM.out)).trans h0; go_simp <;> with_reducible rfl
    simp only [Act.put, List.setIfInBounds_toArray, List.set_cons_zero, List.set_cons_succ]
    refine heldTake 8 (some 24) (v := ?_) rfl rfl (by kernel_rfl) (by kernel_rfl) (by kernel_rfl) (by rfl) hHeld (fun _ _ _ h => h) ?_ ?_
    rotate_left
    ·intro w' hSw; (try dsimp only at hSw); go_simp <;> with_reducible rfl
    simp only [Act.put, List.setIfInBounds_toArray, List.set_cons_zero, List.set_cons_succ]
    refine wpAnyH_done (by kernel_rfl) ?_ _
    refine NoPanic.normal ?_
    go_wp2_with fail
    go_roundw
    case rel => exact ⟨k + 1, by go_num, hlt, HN, Lib.hid HB.out.drew⟩
    case measure => simp [intOf]; omega
set_option maxRecDepth 1000000 in
set_option maxHeartbeats 8000000 in
theorem eqPol_any (v u : Value) (l m : List Pol) (w : World) (hv : RdE 2 Pol.enc w (· < w.heap.size) v l) (hu : RdE 2 Pol.enc w (· < w.heap.size) u m) :
  Calls Tryz.prog 96 #[v, u] w fun e w' => e = .returned (.bool (sameL sPol l m)) ∧ Below w.heap.size w w' := by
 obtain ⟨A, c, rfl, a1, a2, a3⟩ := Rd.open_ (show Rd w _ 2 v l.length (l.flatMap Pol.enc) from hv)
 obtain ⟨A', c', rfl, b1, b2, b3⟩ := Rd.open_ (show Rd w _ 2 u m.length (m.flatMap Pol.enc) from hu)
 unfold maxLen at a2 b2
 have HV := Lib.hid hv
 have HU := Lib.hid hu
 obtain ⟨res, hres⟩ : ∃ r, r = sameL sPol l m := ⟨_, rfl⟩
 rw [← hres]
 have HRES := Lib.hid hres
 clear hv hu hres a3 b3
 go_enter Tryz.func96, Tryz.ntmps96
 by_cases hlen : l.length = m.length
 case neg =>
  have HE : Hid (res = false) := Lib.hid (by rw [HRES.out]; exact sameL_len hlen)
  have hlen2 : ¬ (l.length : Int) = (m.length : Int) := by omega
  have hlen3 : ((l.length : Int) != (m.length : Int)) = true := by simpa using hlen2
  go_wp2_with fail
  go_ret
  exact ⟨by rw [HE.out] <;> rfl, Below.refl _ _⟩
 case pos =>
 have hlen2 : (l.length : Int) = (m.length : Int) := by omega
 have hlen3 : ((l.length : Int) != (m.length : Int)) = false := by simpa using hlen2
 go_wp2_with fail
 clear hlen3
 go_loopw [13] (fun i wr => ∃ k : Nat, i = .int .i64 (k : Int) ∧ k ≤ l.length ∧ Hid (sameL sPol (l.drop k) (m.drop k) = res) ∧ Hid (Below w.heap.size w wr)) (fun i _ => l.length - (intOf i).toNat)
 case atStart => exact ⟨0, rfl, Nat.zero_le _, Lib.hid HRES.out.symm, Lib.hid (Below.refl _ _)⟩
 case round =>
  obtain ⟨k, rfl, hk, HG, HB⟩ := hrel
  obtain ⟨wi, rfl⟩ : ∃ wi : World, wi = wr := ⟨_, rfl⟩
  by_cases hlt : k < l.length
  case neg =>
   have hlt3 : ¬ (k : Int) < (l.length : Int) := by omega
   have HE : Hid (res = true) := Lib.hid (by rw [← HG.out]; exact sameL_end (by omega) (by omega))
   go_wp2_with fail
   go_ret
   exact ⟨by rw [HE.out] <;> rfl, HB.out⟩
  case pos =>
   have hlt' : k < m.length := by omega
   have hlt3 : (k : Int) < (l.length : Int) := by omega
   have hlt4 : (k : Int) < (m.length : Int) := by omega
   obtain ⟨b, off, rfl, hF, hcl⟩ := RdE.at_ (K := 2) (enc := Pol.enc) (fun _ => rfl) (by omega) (HV.out.below HB.out) hlt
   obtain ⟨b', off', rfl, hF', hcl'⟩ := RdE.at_ (K := 2) (enc := Pol.enc) (fun _ => rfl) (by omega) (HU.out.below HB.out) hlt'
   have HBL := Lib.hid hF
   have HBM := Lib.hid hF'
   have hcx := hcl k hlt
   have hcy := hcl' k hlt'
   have hg := HG.out
   rw [sameL_at hlt hlt'] at hg
   obtain ⟨x, hx⟩ : ∃ x, x = l[k] := ⟨_, rfl⟩
   obtain ⟨y, hy⟩ : ∃ y, y = m[k] := ⟨_, rfl⟩
   rw [← hx] at hcx hg
   rw [← hy] at hcy hg
   obtain ⟨bo, hbo⟩ : ∃ bo, bo = sPol x y := ⟨_, rfl⟩
   rw [← hbo] at hg
   have HG2 := Lib.hid hg
   clear hx hy hcl hcl' hF hF' hg HG
   obtain ⟨x1, x2⟩ := x
   obtain ⟨y1, y2⟩ := y
   
   have g0 : wi.cell? ⟨b, off + k * 2, none⟩ = some (.string x1) := hcx 0 _ (by decide) rfl
   have g1 : wi.cell? ⟨b, off + k * 2 + 1, none⟩ = some (.int .i64 x2) := hcx 1 _ (by decide) rfl
   have h0 : wi.cell? ⟨b', off' + k * 2, none⟩ = some (.string y1) := hcy 0 _ (by decide) rfl
   have h1 : wi.cell? ⟨b', off' + k * 2 + 1, none⟩ = some (.int .i64 y2) := hcy 1 _ (by decide) rfl
   have HRX : Hid (bo = (eqS x1 y1 && (decide (x2 = y2)))) := Lib.hid hbo
   clear hcx hcy hbo
   go_wp2_with fail
   cases ee9 : (x1.toList == y1.toList)
   case false =>
    have gg9 : Hid (eqS x1 y1 = false) := Lib.hid ee9
    have ff9 : (x1.toList != y1.toList) = true := by rw [bne, ee9]; rfl
    have HF : Hid (bo = false) := Lib.hid (by rw [HRX.out, gg9.out] <;> simp)
    have HE : Hid (res = false) := Lib.hid (by rw [← HG2.out, HF.out]; rfl)
    refine wp_region_noPanic ?_
    refine wp_region_held_drew (S := (fun w' => Below wi.heap.size wi w')) (by kernel_rfl) ?_ (fun hHeld => ?_)
    ·exact (Below.refl _ _).drew
    refine heldTake 0 (some 16) (v := ?_) rfl rfl (by kernel_rfl) (by kernel_rfl) (by kernel_rfl) (by rfl) hHeld (fun _ _ _ h => h) ?_ ?_
    rotate_left
    ·intro w' hSw; (try dsimp only at hSw); go_simp <;> with_reducible rfl
    simp only [Act.put, List.setIfInBounds_toArray, List.set_cons_zero, List.set_cons_succ]
    refine heldTake 1 (some 17) (v := ?_) rfl rfl (by kernel_rfl) (by kernel_rfl) (by kernel_rfl) (by rfl) hHeld (fun _ _ _ h => h) ?_ ?_
    rotate_left
    ·intro w' hSw; (try dsimp only at hSw); go_simp <;> with_reducible rfl
    simp only [Act.put, List.setIfInBounds_toArray, List.set_cons_zero, List.set_cons_succ]
    refine heldTake 2 (some 18) (v := ?_) rfl rfl (by kernel_rfl) (by kernel_rfl) (by kernel_rfl) (by rfl) hHeld (fun _ _ _ h => h) ?_ ?_
    rotate_left
    ·intro w' hSw; (try dsimp only at hSw); go_simp <;> with_reducible rfl
    simp only [Act.put, List.setIfInBounds_toArray, List.set_cons_zero, List.set_cons_succ]
    refine heldTake 3 (some 19) (v := ?_) rfl rfl (by kernel_rfl) (by kernel_rfl) (by kernel_rfl) (by rfl) hHeld (fun _ _ _ h => h) ?_ ?_
    rotate_left
    ·intro w' hSw; (try dsimp only at hSw); have q0 : w'.cell? ⟨b, off + k * 2, none⟩ = some (.string x1) := (World.cell?_of_block (hSw.block _ HBL.out)).trans g0; have q1 : w'.cell? ⟨b, off + k * 2 + 1, none⟩ = some (.int .i64 x2) := (World.cell?_of_block (hSw.block _ HBL.out)).trans g1; go_simp <;> with_reducible rfl
    simp only [Act.put, List.setIfInBounds_toArray, List.set_cons_zero, List.set_cons_succ]
    refine heldTake 4 (some 20) (v := ?_) rfl rfl (by kernel_rfl) (by kernel_rfl) (by kernel_rfl) (by rfl) hHeld (fun _ _ _ h => h) ?_ ?_
    rotate_left
    ·intro w' hSw; (try dsimp only at hSw); go_simp <;> with_reducible rfl
    simp only [Act.put, List.setIfInBounds_toArray, List.set_cons_zero, List.set_cons_succ]
    refine heldTake 5 (some 21) (v := ?_) rfl rfl (by kernel_rfl) (by kernel_rfl) (by kernel_rfl) (by rfl) hHeld (fun _ _ _ h => h) ?_ ?_
    rotate_left
    ·intro w' hSw; (try dsimp only at hSw); go_simp <;> with_reducible rfl
    simp only [Act.put, List.setIfInBounds_toArray, List.set_cons_zero, List.set_cons_succ]
    refine heldTake 6 (some 22) (v := ?_) rfl rfl (by kernel_rfl) (by kernel_rfl) (by kernel_rfl) (by rfl) hHeld (fun _ _ _ h => h) ?_ ?_
    rotate_left
    ·intro w' hSw; (try dsimp only at hSw); go_simp <;> with_reducible rfl
    simp only [Act.put, List.setIfInBounds_toArray, List.set_cons_zero, List.set_cons_succ]
    refine heldTake 7 (some 23) (v := ?_) rfl rfl (by kernel_rfl) (by kernel_rfl) (by kernel_rfl) (by rfl) hHeld (fun _ _ _ h => h) ?_ ?_
    rotate_left
    ·intro w' hSw; (try dsimp only at hSw); have q0 : w'.cell? ⟨b', off' + k * 2, none⟩ = some (.string y1) := (World.cell?_of_block (hSw.block _ HBM.out)).trans h0; have q1 : w'.cell? ⟨b', off' + k * 2 + 1, none⟩ = some (.int .i64 y2) := (World.cell?_of_block (hSw.block _ HBM.out)).trans h1; go_simp <;> with_reducible rfl
    simp only [Act.put, List.setIfInBounds_toArray, List.set_cons_zero, List.set_cons_succ]
    refine heldTake 8 (some 24) (v := ?_) rfl rfl (by kernel_rfl) (by kernel_rfl) (by kernel_rfl) (by rfl) hHeld (fun _ _ _ h => h) ?_ ?_
    rotate_left
    ·intro w' hSw; (try dsimp only at hSw); go_simp <;> with_reducible rfl
    simp only [Act.put, List.setIfInBounds_toArray, List.set_cons_zero, List.set_cons_succ]
    refine wpAnyH_done (by kernel_rfl) ?_ _
    refine NoPanic.normal ?_
    go_wp2_with fail
    go_ret
    exact ⟨by rw [HE.out] <;> rfl, HB.out.drew⟩
   case true =>
    have GG9 : Hid (eqS x1 y1 = true) := Lib.hid ee9
    have ff9 : (x1.toList != y1.toList) = false := by rw [bne, ee9]; rfl
    by_cases tt10 : x2 = y2
    case neg =>
     have gg10 : Hid (decide (x2 = y2) = false) := Lib.hid (decide_eq_false tt10)
     have ee10 : (x2 == y2) = false := by simpa using tt10
     have ff10 : (x2 != y2) = true := by simpa using tt10
     have HF : Hid (bo = false) := Lib.hid (by rw [HRX.out, GG9.out, gg10.out] <;> simp)
     have HE : Hid (res = false) := Lib.hid (by rw [← HG2.out, HF.out]; rfl)
     refine wp_region_noPanic ?_
     refine wp_region_held_drew (S := (fun w' => Below wi.heap.size wi w')) (by kernel_rfl) ?_ (fun hHeld => ?_)
     ·exact (Below.refl _ _).drew
     refine heldTake 0 (some 16) (v := ?_) rfl rfl (by kernel_rfl) (by kernel_rfl) (by kernel_rfl) (by rfl) hHeld (fun _ _ _ h => h) ?_ ?_
     rotate_left
     ·intro w' hSw; (try dsimp only at hSw); go_simp <;> with_reducible rfl
     simp only [Act.put, List.setIfInBounds_toArray, List.set_cons_zero, List.set_cons_succ]
     refine heldTake 1 (some 17) (v := ?_) rfl rfl (by kernel_rfl) (by kernel_rfl) (by kernel_rfl) (by rfl) hHeld (fun _ _ _ h => h) ?_ ?_
     rotate_left
     ·intro w' hSw; (try dsimp only at hSw); go_simp <;> with_reducible rfl
     simp only [Act.put, List.setIfInBounds_toArray, List.set_cons_zero, List.set_cons_succ]
     refine heldTake 2 (some 18) (v := ?_) rfl rfl (by kernel_rfl) (by kernel_rfl) (by kernel_rfl) (by rfl) hHeld (fun _ _ _ h => h) ?_ ?_
     rotate_left
     ·intro w' hSw; (try dsimp only at hSw); go_simp <;> with_reducible rfl
     simp only [Act.put, List.setIfInBounds_toArray, List.set_cons_zero, List.set_cons_succ]
     refine heldTake 3 (some 19) (v := ?_) rfl rfl (by kernel_rfl) (by kernel_rfl) (by kernel_rfl) (by rfl) hHeld (fun _ _ _ h => h) ?_ ?_
     rotate_left
     ·intro w' hSw; (try dsimp only at hSw); have q0 : w'.cell? ⟨b, off + k * 2, none⟩ = some (.string x1) := (World.cell?_of_block (hSw.block _ HBL.out)).trans g0; have q1 : w'.cell? ⟨b, off + k * 2 + 1, none⟩ = some (.int .i64 x2) := (World.cell?_of_block (hSw.block _ HBL.out)).trans g1; go_simp <;> with_reducible rfl
     simp only [Act.put, List.setIfInBounds_toArray, List.set_cons_zero, List.set_cons_succ]
     refine heldTake 4 (some 20) (v := ?_) rfl rfl (by kernel_rfl) (by kernel_rfl) (by kernel_rfl) (by rfl) hHeld (fun _ _ _ h => h) ?_ ?_
     rotate_left
     ·intro w' hSw; (try dsimp only at hSw); go_simp <;> with_reducible rfl
     simp only [Act.put, List.setIfInBounds_toArray, List.set_cons_zero, List.set_cons_succ]
     refine heldTake 5 (some 21) (v := ?_) rfl rfl (by kernel_rfl) (by kernel_rfl) (by kernel_rfl) (by rfl) hHeld (fun _ _ _ h => h) ?_ ?_
     rotate_left
     ·intro w' hSw; (try dsimp only at hSw); go_simp <;> with_reducible rfl
     simp only [Act.put, List.setIfInBounds_toArray, List.set_cons_zero, List.set_cons_succ]
     refine heldTake 6 (some 22) (v := ?_) rfl rfl (by kernel_rfl) (by kernel_rfl) (by kernel_rfl) (by rfl) hHeld (fun _ _ _ h => h) ?_ ?_
     rotate_left
     ·intro w' hSw; (try dsimp only at hSw); go_simp <;> with_reducible rfl
     simp only [Act.put, List.setIfInBounds_toArray, List.set_cons_zero, List.set_cons_succ]
     refine heldTake 7 (some 23) (v := ?_) rfl rfl (by kernel_rfl) (by kernel_rfl) (by kernel_rfl) (by rfl) hHeld (fun _ _ _ h => h) ?_ ?_
     rotate_left
     ·intro w' hSw; (try dsimp only at hSw); have q0 : w'.cell? ⟨b', off' + k * 2, none⟩ = some (.string y1) := (World.cell?_of_block (hSw.block _ HBM.out)).trans h0; have q1 : w'.cell? ⟨b', off' + k * 2 + 1, none⟩ = some (.int .i64 y2) := (World.cell?_of_block (hSw.block _ HBM.out)).trans h1; go_simp <;> with_reducible rfl
     simp only [Act.put, List.setIfInBounds_toArray, List.set_cons_zero, List.set_cons_succ]
     refine heldTake 8 (some 24) (v := ?_) rfl rfl (by kernel_rfl) (by kernel_rfl) (by kernel_rfl) (by rfl) hHeld (fun _ _ _ h => h) ?_ ?_
     rotate_left
     ·intro w' hSw; (try dsimp only at hSw); go_simp <;> with_reducible rfl
     simp only [Act.put, List.setIfInBounds_toArray, List.set_cons_zero, List.set_cons_succ]
     refine wpAnyH_done (by kernel_rfl) ?_ _
     refine NoPanic.normal ?_
     go_wp2_with fail
     go_ret
     exact ⟨by rw [HE.out] <;> rfl, HB.out.drew⟩
    case pos =>
     have GG10 : Hid (decide (x2 = y2) = true) := Lib.hid (decide_eq_true tt10)
     have ee10 : (x2 == y2) = true := by simpa using tt10
     have ff10 : (x2 != y2) = false := by simpa using tt10
     clear tt10
     have HF : Hid (bo = true) := Lib.hid (by rw [HRX.out, GG9.out, GG10.out] <;> first | rfl | (simp; done))
     have HN : Hid (sameL sPol (l.drop (k + 1)) (m.drop (k + 1)) = res) := Lib.hid (by rw [← HG2.out, HF.out]; simp)
     refine wp_region_noPanic ?_
     refine wp_region_held_drew (S := (fun w' => Below wi.heap.size wi w')) (by kernel_rfl) ?_ (fun hHeld => ?_)
     ·exact (Below.refl _ _).drew
     refine heldTake 0 (some 16) (v := ?_) rfl rfl (by kernel_rfl) (by kernel_rfl) (by kernel_rfl) (by rfl) hHeld (fun _ _ _ h => h) ?_ ?_
     rotate_left
     ·intro w' hSw; (try dsimp only at hSw); go_simp <;> with_reducible rfl
     simp only [Act.put, List.setIfInBounds_toArray, List.set_cons_zero, List.set_cons_succ]
     refine heldTake 1 (some 17) (v := ?_) rfl rfl (by kernel_rfl) (by kernel_rfl) (by kernel_rfl) (by rfl) hHeld (fun _ _ _ h => h) ?_ ?_
     rotate_left
     ·intro w' hSw; (try dsimp only at hSw); go_simp <;> with_reducible rfl
     simp only [Act.put, List.setIfInBounds_toArray, List.set_cons_zero, List.set_cons_succ]
     refine heldTake 2 (some 18) (v := ?_) rfl rfl (by kernel_rfl) (by kernel_rfl) (by kernel_rfl) (by rfl) hHeld (fun _ _ _ h => h) ?_ ?_
     rotate_left
     ·intro w' hSw; (try dsimp only at hSw); go_simp <;> with_reducible rfl
     simp only [Act.put, List.setIfInBounds_toArray, List.set_cons_zero, List.set_cons_succ]
     refine heldTake 3 (some 19) (v := ?_) rfl rfl (by kernel_rfl) (by kernel_rfl) (by kernel_rfl) (by rfl) hHeld (fun _ _ _ h => h) ?_ ?_
     rotate_left
     ·intro w' hSw; (try dsimp only at hSw); have q0 : w'.cell? ⟨b, off + k * 2, none⟩ = some (.string x1) := (World.cell?_of_block (hSw.block _ HBL.out)).trans g0; have q1 : w'.cell? ⟨b, off + k * 2 + 1, none⟩ = some (.int .i64 x2) := (World.cell?_of_block (hSw.block _ HBL.out)).trans g1; go_simp <;> with_reducible rfl
     simp only [Act.put, List.setIfInBounds_toArray, List.set_cons_zero, List.set_cons_succ]
     refine heldTake 4 (some 20) (v := ?_) rfl rfl (by kernel_rfl) (by kernel_rfl) (by kernel_rfl) (by rfl) hHeld (fun _ _ _ h => h) ?_ ?_
     rotate_left
     ·intro w' hSw; (try dsimp only at hSw); go_simp <;> with_reducible rfl
     simp only [Act.put, List.setIfInBounds_toArray, List.set_cons_zero, List.set_cons_succ]
     refine heldTake 5 (some 21) (v := ?_) rfl rfl (by kernel_rfl) (by kernel_rfl) (by kernel_rfl) (by rfl) hHeld (fun _ _ _ h => h) ?_ ?_
     rotate_left
     ·intro w' hSw; (try dsimp only at hSw); go_simp <;> with_reducible rfl
     simp only [Act.put, List.setIfInBounds_toArray, List.set_cons_zero, List.set_cons_succ]
     refine heldTake 6 (some 22) (v := ?_) rfl rfl (by kernel_rfl) (by kernel_rfl) (by kernel_rfl) (by rfl) hHeld (fun _ _ _ h => h) ?_ ?_
     rotate_left
     ·intro w' hSw; (try dsimp only at hSw); go_simp <;> with_reducible rfl
     simp only [Act.put, List.setIfInBounds_toArray, List.set_cons_zero, List.set_cons_succ]
     refine heldTake 7 (some 23) (v := ?_) rfl rfl (by kernel_rfl) (by kernel_rfl) (by kernel_rfl) (by rfl) hHeld (fun _ _ _ h => h) ?_ ?_
     rotate_left
     ·intro w' hSw; (try dsimp only at hSw); have q0 : w'.cell? ⟨b', off' + k * 2, none⟩ = some (.string y1) := (World.cell?_of_block (hSw.block _ HBM.out)).trans h0; have q1 : w'.cell? ⟨b', off' + k * 2 + 1, none⟩ = some (.int .i64 y2) := (World.cell?_of_block (hSw.block _ HBM.out)).trans h1; go_simp <;> with_reducible rfl
     simp only [Act.put, List.setIfInBounds_toArray, List.set_cons_zero, List.set_cons_succ]
     refine heldTake 8 (some 24) (v := ?_) rfl rfl (by kernel_rfl) (by kernel_rfl) (by kernel_rfl) (by rfl) hHeld (fun _ _ _ h => h) ?_ ?_
     rotate_left
     ·intro w' hSw; (try dsimp only at hSw); go_simp <;> with_reducible rfl
     simp only [Act.put, List.setIfInBounds_toArray, List.set_cons_zero, List.set_cons_succ]
     refine wpAnyH_done (by kernel_rfl) ?_ _
     refine NoPanic.normal ?_
     go_wp2_with fail
     go_roundw
     case rel => exact ⟨k + 1, by go_num, hlt, HN, Lib.hid HB.out.drew⟩
     case measure => simp [intOf]; omega
set_option maxRecDepth 1000000 in
set_option maxHeartbeats 8000000 in
theorem eqHor_any (v u : Value) (l m : List Hor) (w : World) (hv : RdE 2 Hor.enc w (· < w.heap.size) v l) (hu : RdE 2 Hor.enc w (· < w.heap.size) u m) :
  Calls Tryz.prog 97 #[v, u] w fun e w' => e = .returned (.bool (sameL sHor l m)) ∧ Below w.heap.size w w' := by
 obtain ⟨A, c, rfl, a1, a2, a3⟩ := Rd.open_ (show Rd w _ 2 v l.length (l.flatMap Hor.enc) from hv)
 obtain ⟨A', c', rfl, b1, b2, b3⟩ := Rd.open_ (show Rd w _ 2 u m.length (m.flatMap Hor.enc) from hu)
 unfold maxLen at a2 b2
 have HV := Lib.hid hv
 have HU := Lib.hid hu
 obtain ⟨res, hres⟩ : ∃ r, r = sameL sHor l m := ⟨_, rfl⟩
 rw [← hres]
 have HRES := Lib.hid hres
 clear hv hu hres a3 b3
 go_enter Tryz.func97, Tryz.ntmps97
 by_cases hlen : l.length = m.length
 case neg =>
  have HE : Hid (res = false) := Lib.hid (by rw [HRES.out]; exact sameL_len hlen)
  have hlen2 : ¬ (l.length : Int) = (m.length : Int) := by omega
  have hlen3 : ((l.length : Int) != (m.length : Int)) = true := by simpa using hlen2
  go_wp2_with fail
  go_ret
  exact ⟨by rw [HE.out] <;> rfl, Below.refl _ _⟩
 case pos =>
 have hlen2 : (l.length : Int) = (m.length : Int) := by omega
 have hlen3 : ((l.length : Int) != (m.length : Int)) = false := by simpa using hlen2
 go_wp2_with fail
 clear hlen3
 go_loopw [13] (fun i wr => ∃ k : Nat, i = .int .i64 (k : Int) ∧ k ≤ l.length ∧ Hid (sameL sHor (l.drop k) (m.drop k) = res) ∧ Hid (Below w.heap.size w wr)) (fun i _ => l.length - (intOf i).toNat)
 case atStart => exact ⟨0, rfl, Nat.zero_le _, Lib.hid HRES.out.symm, Lib.hid (Below.refl _ _)⟩
 case round =>
  obtain ⟨k, rfl, hk, HG, HB⟩ := hrel
  obtain ⟨wi, rfl⟩ : ∃ wi : World, wi = wr := ⟨_, rfl⟩
  by_cases hlt : k < l.length
  case neg =>
   have hlt3 : ¬ (k : Int) < (l.length : Int) := by omega
   have HE : Hid (res = true) := Lib.hid (by rw [← HG.out]; exact sameL_end (by omega) (by omega))
   go_wp2_with fail
   go_ret
   exact ⟨by rw [HE.out] <;> rfl, HB.out⟩
  case pos =>
   have hlt' : k < m.length := by omega
   have hlt3 : (k : Int) < (l.length : Int) := by omega
   have hlt4 : (k : Int) < (m.length : Int) := by omega
   obtain ⟨b, off, rfl, hF, hcl⟩ := RdE.at_ (K := 2) (enc := Hor.enc) (fun _ => rfl) (by omega) (HV.out.below HB.out) hlt
   obtain ⟨b', off', rfl, hF', hcl'⟩ := RdE.at_ (K := 2) (enc := Hor.enc) (fun _ => rfl) (by omega) (HU.out.below HB.out) hlt'
   have HBL := Lib.hid hF
   have HBM := Lib.hid hF'
   have hcx := hcl k hlt
   have hcy := hcl' k hlt'
   have hg := HG.out
   rw [sameL_at hlt hlt'] at hg
   obtain ⟨x, hx⟩ : ∃ x, x = l[k] := ⟨_, rfl⟩
   obtain ⟨y, hy⟩ : ∃ y, y = m[k] := ⟨_, rfl⟩
   rw [← hx] at hcx hg
   rw [← hy] at hcy hg
   obtain ⟨bo, hbo⟩ : ∃ bo, bo = sHor x y := ⟨_, rfl⟩
   rw [← hbo] at hg
   have HG2 := Lib.hid hg
   clear hx hy hcl hcl' hF hF' hg HG
   obtain ⟨x1, x2⟩ := x
   obtain ⟨y1, y2⟩ := y
   
   have g0 : wi.cell? ⟨b, off + k * 2, none⟩ = some (.string x1) := hcx 0 _ (by decide) rfl
   have g1 : wi.cell? ⟨b, off + k * 2 + 1, none⟩ = some (.int .i64 x2) := hcx 1 _ (by decide) rfl
   have h0 : wi.cell? ⟨b', off' + k * 2, none⟩ = some (.string y1) := hcy 0 _ (by decide) rfl
   have h1 : wi.cell? ⟨b', off' + k * 2 + 1, none⟩ = some (.int .i64 y2) := hcy 1 _ (by decide) rfl
   have HRX : Hid (bo = (eqS x1 y1 && (decide (x2 = y2)))) := Lib.hid hbo
   clear hcx hcy hbo
   go_wp2_with fail
   cases ee11 : (x1.toList == y1.toList)
   case false =>
    have gg11 : Hid (eqS x1 y1 = false) := Lib.hid ee11
    have ff11 : (x1.toList != y1.toList) = true := by rw [bne, ee11]; rfl
    have HF : Hid (bo = false) := Lib.hid (by rw [HRX.out, gg11.out] <;> simp)
    have HE : Hid (res = false) := Lib.hid (by rw [← HG2.out, HF.out]; rfl)
    refine wp_region_noPanic ?_
    refine wp_region_held_drew (S := (fun w' => Below wi.heap.size wi w')) (by kernel_rfl) ?_ (fun hHeld => ?_)
    ·exact (Below.refl _ _).drew
    refine heldTake 0 (some 16) (v := ?_) rfl rfl (by kernel_rfl) (by kernel_rfl) (by kernel_rfl) (by rfl) hHeld (fun _ _ _ h => h) ?_ ?_
    rotate_left
    ·intro w' hSw; (try dsimp only at hSw); go_simp <;> with_reducible rfl
    simp only [Act.put, List.setIfInBounds_toArray, List.set_cons_zero, List.set_cons_succ]
    refine heldTake 1 (some 17) (v := ?_) rfl rfl (by kernel_rfl) (by kernel_rfl) (by kernel_rfl) (by rfl) hHeld (fun _ _ _ h => h) ?_ ?_
    rotate_left
    ·intro w' hSw; (try dsimp only at hSw); go_simp <;> with_reducible rfl
    simp only [Act.put, List.setIfInBounds_toArray, List.set_cons_zero, List.set_cons_succ]
    refine heldTake 2 (some 18) (v := ?_) rfl rfl (by kernel_rfl) (by kernel_rfl) (by kernel_rfl) (by rfl) hHeld (fun _ _ _ h => h) ?_ ?_
    rotate_left
    ·intro w' hSw; (try dsimp only at hSw); go_simp <;> with_reducible rfl
    simp only [Act.put, List.setIfInBounds_toArray, List.set_cons_zero, List.set_cons_succ]
    refine heldTake 3 (some 19) (v := ?_) rfl rfl (by kernel_rfl) (by kernel_rfl) (by kernel_rfl) (by rfl) hHeld (fun _ _ _ h => h) ?_ ?_
    rotate_left
    ·intro w' hSw; (try dsimp only at hSw); have q0 : w'.cell? ⟨b, off + k * 2, none⟩ = some (.string x1) := (World.cell?_of_block (hSw.block _ HBL.out)).trans g0; have q1 : w'.cell? ⟨b, off + k * 2 + 1, none⟩ = some (.int .i64 x2) := (World.cell?_of_block (hSw.block _ HBL.out)).trans g1; go_simp <;> with_reducible rfl
    simp only [Act.put, List.setIfInBounds_toArray, List.set_cons_zero, List.set_cons_succ]
    refine heldTake 4 (some 20) (v := ?_) rfl rfl (by kernel_rfl) (by kernel_rfl) (by kernel_rfl) (by rfl) hHeld (fun _ _ _ h => h) ?_ ?_
    rotate_left
    ·intro w' hSw; (try dsimp only at hSw); go_simp <;> with_reducible rfl
    simp only [Act.put, List.setIfInBounds_toArray, List.set_cons_zero, List.set_cons_succ]
    refine heldTake 5 (some 21) (v := ?_) rfl rfl (by kernel_rfl) (by kernel_rfl) (by kernel_rfl) (by rfl) hHeld (fun _ _ _ h => h) ?_ ?_
    rotate_left
    ·intro w' hSw; (try dsimp only at hSw); go_simp <;> with_reducible rfl
    simp only [Act.put, List.setIfInBounds_toArray, List.set_cons_zero, List.set_cons_succ]
    refine heldTake 6 (some 22) (v := ?_) rfl rfl (by kernel_rfl) (by kernel_rfl) (by kernel_rfl) (by rfl) hHeld (fun _ _ _ h => h) ?_ ?_
    rotate_left
    ·intro w' hSw; (try dsimp only at hSw); go_simp <;> with_reducible rfl
    simp only [Act.put, List.setIfInBounds_toArray, List.set_cons_zero, List.set_cons_succ]
    refine heldTake 7 (some 23) (v := ?_) rfl rfl (by kernel_rfl) (by kernel_rfl) (by kernel_rfl) (by rfl) hHeld (fun _ _ _ h => h) ?_ ?_
    rotate_left
    ·intro w' hSw; (try dsimp only at hSw); have q0 : w'.cell? ⟨b', off' + k * 2, none⟩ = some (.string y1) := (World.cell?_of_block (hSw.block _ HBM.out)).trans h0; have q1 : w'.cell? ⟨b', off' + k * 2 + 1, none⟩ = some (.int .i64 y2) := (World.cell?_of_block (hSw.block _ HBM.out)).trans h1; go_simp <;> with_reducible rfl
    simp only [Act.put, List.setIfInBounds_toArray, List.set_cons_zero, List.set_cons_succ]
    refine heldTake 8 (some 24) (v := ?_) rfl rfl (by kernel_rfl) (by kernel_rfl) (by kernel_rfl) (by rfl) hHeld (fun _ _ _ h => h) ?_ ?_
    rotate_left
    ·intro w' hSw; (try dsimp only at hSw); go_simp <;> with_reducible rfl
    simp only [Act.put, List.setIfInBounds_toArray, List.set_cons_zero, List.set_cons_succ]
    refine wpAnyH_done (by kernel_rfl) ?_ _
    refine NoPanic.normal ?_
    go_wp2_with fail
    go_ret
    exact ⟨by rw [HE.out] <;> rfl, HB.out.drew⟩
   case true =>
    have GG11 : Hid (eqS x1 y1 = true) := Lib.hid ee11
    have ff11 : (x1.toList != y1.toList) = false := by rw [bne, ee11]; rfl
    by_cases tt12 : x2 = y2
    case neg =>
     have gg12 : Hid (decide (x2 = y2) = false) := Lib.hid (decide_eq_false tt12)
     have ee12 : (x2 == y2) = false := by simpa using tt12
     have ff12 : (x2 != y2) = true := by simpa using tt12
     have HF : Hid (bo = false) := Lib.hid (by rw [HRX.out, GG11.out, gg12.out] <;> simp)
     have HE : Hid (res = false) := Lib.hid (by rw [← HG2.out, HF.out]; rfl)
     refine wp_region_noPanic ?_
     refine wp_region_held_drew (S := (fun w' => Below wi.heap.size wi w')) (by kernel_rfl) ?_ (fun hHeld => ?_)
     ·exact (Below.refl _ _).drew
     refine heldTake 0 (some 16) (v := ?_) rfl rfl (by kernel_rfl) (by kernel_rfl) (by kernel_rfl) (by rfl) hHeld (fun _ _ _ h => h) ?_ ?_
     rotate_left
     ·intro w' hSw; (try dsimp only at hSw); go_simp <;> with_reducible rfl
     simp only [Act.put, List.setIfInBounds_toArray, List.set_cons_zero, List.set_cons_succ]
     refine heldTake 1 (some 17) (v := ?_) rfl rfl (by kernel_rfl) (by kernel_rfl) (by kernel_rfl) (by rfl) hHeld (fun _ _ _ h => h) ?_ ?_
     rotate_left
     ·intro w' hSw; (try dsimp only at hSw); go_simp <;> with_reducible rfl
     simp only [Act.put, List.setIfInBounds_toArray, List.set_cons_zero, List.set_cons_succ]
     refine heldTake 2 (some 18) (v := ?_) rfl rfl (by kernel_rfl) (by kernel_rfl) (by kernel_rfl) (by rfl) hHeld (fun _ _ _ h => h) ?_ ?_
     rotate_left
     ·intro w' hSw; (try dsimp only at hSw); go_simp <;> with_reducible rfl
     simp only [Act.put, List.setIfInBounds_toArray, List.set_cons_zero, List.set_cons_succ]
     refine heldTake 3 (some 19) (v := ?_) rfl rfl (by kernel_rfl) (by kernel_rfl) (by kernel_rfl) (by rfl) hHeld (fun _ _ _ h => h) ?_ ?_
     rotate_left
     ·intro w' hSw; (try dsimp only at hSw); have q0 : w'.cell? ⟨b, off + k * 2, none⟩ = some (.string x1) := (World.cell?_of_block (hSw.block _ HBL.out)).trans g0; have q1 : w'.cell? ⟨b, off + k * 2 + 1, none⟩ = some (.int .i64 x2) := (World.cell?_of_block (hSw.block _ HBL.out)).trans g1; go_simp <;> with_reducible rfl
     simp only [Act.put, List.setIfInBounds_toArray, List.set_cons_zero, List.set_cons_succ]
     refine heldTake 4 (some 20) (v := ?_) rfl rfl (by kernel_rfl) (by kernel_rfl) (by kernel_rfl) (by rfl) hHeld (fun _ _ _ h => h) ?_ ?_
     rotate_left
     ·intro w' hSw; (try dsimp only at hSw); go_simp <;> with_reducible rfl
     simp only [Act.put, List.setIfInBounds_toArray, List.set_cons_zero, List.set_cons_succ]
     refine heldTake 5 (some 21) (v := ?_) rfl rfl (by kernel_rfl) (by kernel_rfl) (by kernel_rfl) (by rfl) hHeld (fun _ _ _ h => h) ?_ ?_
     rotate_left
     ·intro w' hSw; (try dsimp only at hSw); go_simp <;> with_reducible rfl
     simp only [Act.put, List.setIfInBounds_toArray, List.set_cons_zero, List.set_cons_succ]
     refine heldTake 6 (some 22) (v := ?_) rfl rfl (by kernel_rfl) (by kernel_rfl) (by kernel_rfl) (by rfl) hHeld (fun _ _ _ h => h) ?_ ?_
     rotate_left
     ·intro w' hSw; (try dsimp only at hSw); go_simp <;> with_reducible rfl
     simp only [Act.put, List.setIfInBounds_toArray, List.set_cons_zero, List.set_cons_succ]
     refine heldTake 7 (some 23) (v := ?_) rfl rfl (by kernel_rfl) (by kernel_rfl) (by kernel_rfl) (by rfl) hHeld (fun _ _ _ h => h) ?_ ?_
     rotate_left
     ·intro w' hSw; (try dsimp only at hSw); have q0 : w'.cell? ⟨b', off' + k * 2, none⟩ = some (.string y1) := (World.cell?_of_block (hSw.block _ HBM.out)).trans h0; have q1 : w'.cell? ⟨b', off' + k * 2 + 1, none⟩ = some (.int .i64 y2) := (World.cell?_of_block (hSw.block _ HBM.out)).trans h1; go_simp <;> with_reducible rfl
     simp only [Act.put, List.setIfInBounds_toArray, List.set_cons_zero, List.set_cons_succ]
     refine heldTake 8 (some 24) (v := ?_) rfl rfl (by kernel_rfl) (by kernel_rfl) (by kernel_rfl) (by rfl) hHeld (fun _ _ _ h => h) ?_ ?_
     rotate_left
     ·intro w' hSw; (try dsimp only at hSw); go_simp <;> with_reducible rfl
     simp only [Act.put, List.setIfInBounds_toArray, List.set_cons_zero, List.set_cons_succ]
     refine wpAnyH_done (by kernel_rfl) ?_ _
     refine NoPanic.normal ?_
     go_wp2_with fail
     go_ret
     exact ⟨by rw [HE.out] <;> rfl, HB.out.drew⟩
    case pos =>
     have GG12 : Hid (decide (x2 = y2) = true) := Lib.hid (decide_eq_true tt12)
     have ee12 : (x2 == y2) = true := by simpa using tt12
     have ff12 : (x2 != y2) = false := by simpa using tt12
     clear tt12
     have HF : Hid (bo = true) := Lib.hid (by rw [HRX.out, GG11.out, GG12.out] <;> first | rfl | (simp; done))
     have HN : Hid (sameL sHor (l.drop (k + 1)) (m.drop (k + 1)) = res) := Lib.hid (by rw [← HG2.out, HF.out]; simp)
     refine wp_region_noPanic ?_
     refine wp_region_held_drew (S := (fun w' => Below wi.heap.size wi w')) (by kernel_rfl) ?_ (fun hHeld => ?_)
     ·exact (Below.refl _ _).drew
     refine heldTake 0 (some 16) (v := ?_) rfl rfl (by kernel_rfl) (by kernel_rfl) (by kernel_rfl) (by rfl) hHeld (fun _ _ _ h => h) ?_ ?_
     rotate_left
     ·intro w' hSw; (try dsimp only at hSw); go_simp <;> with_reducible rfl
     simp only [Act.put, List.setIfInBounds_toArray, List.set_cons_zero, List.set_cons_succ]
     refine heldTake 1 (some 17) (v := ?_) rfl rfl (by kernel_rfl) (by kernel_rfl) (by kernel_rfl) (by rfl) hHeld (fun _ _ _ h => h) ?_ ?_
     rotate_left
     ·intro w' hSw; (try dsimp only at hSw); go_simp <;> with_reducible rfl
     simp only [Act.put, List.setIfInBounds_toArray, List.set_cons_zero, List.set_cons_succ]
     refine heldTake 2 (some 18) (v := ?_) rfl rfl (by kernel_rfl) (by kernel_rfl) (by kernel_rfl) (by rfl) hHeld (fun _ _ _ h => h) ?_ ?_
     rotate_left
     ·intro w' hSw; (try dsimp only at hSw); go_simp <;> with_reducible rfl
     simp only [Act.put, List.setIfInBounds_toArray, List.set_cons_zero, List.set_cons_succ]
     refine heldTake 3 (some 19) (v := ?_) rfl rfl (by kernel_rfl) (by kernel_rfl) (by kernel_rfl) (by rfl) hHeld (fun _ _ _ h => h) ?_ ?_
     rotate_left
     ·intro w' hSw; (try dsimp only at hSw); have q0 : w'.cell? ⟨b, off + k * 2, none⟩ = some (.string x1) := (World.cell?_of_block (hSw.block _ HBL.out)).trans g0; have q1 : w'.cell? ⟨b, off + k * 2 + 1, none⟩ = some (.int .i64 x2) := (World.cell?_of_block (hSw.block _ HBL.out)).trans g1; go_simp <;> with_reducible rfl
     simp only [Act.put, List.setIfInBounds_toArray, List.set_cons_zero, List.set_cons_succ]
     refine heldTake 4 (some 20) (v := ?_) rfl rfl (by kernel_rfl) (by kernel_rfl) (by kernel_rfl) (by rfl) hHeld (fun _ _ _ h => h) ?_ ?_
     rotate_left
     ·intro w' hSw; (try dsimp only at hSw); go_simp <;> with_reducible rfl
     simp only [Act.put, List.setIfInBounds_toArray, List.set_cons_zero, List.set_cons_succ]
     refine heldTake 5 (some 21) (v := ?_) rfl rfl (by kernel_rfl) (by kernel_rfl) (by kernel_rfl) (by rfl) hHeld (fun _ _ _ h => h) ?_ ?_
     rotate_left
     ·intro w' hSw; (try dsimp only at hSw); go_simp <;> with_reducible rfl
     simp only [Act.put, List.setIfInBounds_toArray, List.set_cons_zero, List.set_cons_succ]
     refine heldTake 6 (some 22) (v := ?_) rfl rfl (by kernel_rfl) (by kernel_rfl) (by kernel_rfl) (by rfl) hHeld (fun _ _ _ h => h) ?_ ?_
     rotate_left
     ·intro w' hSw; (try dsimp only at hSw); go_simp <;> with_reducible rfl
     simp only [Act.put, List.setIfInBounds_toArray, List.set_cons_zero, List.set_cons_succ]
     refine heldTake 7 (some 23) (v := ?_) rfl rfl (by kernel_rfl) (by kernel_rfl) (by kernel_rfl) (by rfl) hHeld (fun _ _ _ h => h) ?_ ?_
     rotate_left
     ·intro w' hSw; (try dsimp only at hSw); have q0 : w'.cell? ⟨b', off' + k * 2, none⟩ = some (.string y1) := (World.cell?_of_block (hSw.block _ HBM.out)).trans h0; have q1 : w'.cell? ⟨b', off' + k * 2 + 1, none⟩ = some (.int .i64 y2) := (World.cell?_of_block (hSw.block _ HBM.out)).trans h1; go_simp <;> with_reducible rfl
     simp only [Act.put, List.setIfInBounds_toArray, List.set_cons_zero, List.set_cons_succ]
     refine heldTake 8 (some 24) (v := ?_) rfl rfl (by kernel_rfl) (by kernel_rfl) (by kernel_rfl) (by rfl) hHeld (fun _ _ _ h => h) ?_ ?_
     rotate_left
     ·intro w' hSw; (try dsimp only at hSw); go_simp <;> with_reducible rfl
     simp only [Act.put, List.setIfInBounds_toArray, List.set_cons_zero, List.set_cons_succ]
     refine wpAnyH_done (by kernel_rfl) ?_ _
     refine NoPanic.normal ?_
     go_wp2_with fail
     go_roundw
     case rel => exact ⟨k + 1, by go_num, hlt, HN, Lib.hid HB.out.drew⟩
     case measure => simp [intOf]; omega
set_option maxRecDepth 1000000 in
set_option maxHeartbeats 8000000 in
theorem eqStm_any (v u : Value) (l m : List Stm) (w : World) (hv : RdE 2 Stm.enc w (· < w.heap.size) v l) (hu : RdE 2 Stm.enc w (· < w.heap.size) u m) :
  Calls Tryz.prog 98 #[v, u] w fun e w' => e = .returned (.bool (sameL sStm l m)) ∧ Below w.heap.size w w' := by
 obtain ⟨A, c, rfl, a1, a2, a3⟩ := Rd.open_ (show Rd w _ 2 v l.length (l.flatMap Stm.enc) from hv)
 obtain ⟨A', c', rfl, b1, b2, b3⟩ := Rd.open_ (show Rd w _ 2 u m.length (m.flatMap Stm.enc) from hu)
 unfold maxLen at a2 b2
 have HV := Lib.hid hv
 have HU := Lib.hid hu
 obtain ⟨res, hres⟩ : ∃ r, r = sameL sStm l m := ⟨_, rfl⟩
 rw [← hres]
 have HRES := Lib.hid hres
 clear hv hu hres a3 b3
 go_enter Tryz.func98, Tryz.ntmps98
 by_cases hlen : l.length = m.length
 case neg =>
  have HE : Hid (res = false) := Lib.hid (by rw [HRES.out]; exact sameL_len hlen)
  have hlen2 : ¬ (l.length : Int) = (m.length : Int) := by omega
  have hlen3 : ((l.length : Int) != (m.length : Int)) = true := by simpa using hlen2
  go_wp2_with fail
  go_ret
  exact ⟨by rw [HE.out] <;> rfl, Below.refl _ _⟩
 case pos =>
 have hlen2 : (l.length : Int) = (m.length : Int) := by omega
 have hlen3 : ((l.length : Int) != (m.length : Int)) = false := by simpa using hlen2
 go_wp2_with fail
 clear hlen3
 go_loopw [13] (fun i wr => ∃ k : Nat, i = .int .i64 (k : Int) ∧ k ≤ l.length ∧ Hid (sameL sStm (l.drop k) (m.drop k) = res) ∧ Hid (Below w.heap.size w wr)) (fun i _ => l.length - (intOf i).toNat)
 case atStart => exact ⟨0, rfl, Nat.zero_le _, Lib.hid HRES.out.symm, Lib.hid (Below.refl _ _)⟩
 case round =>
  obtain ⟨k, rfl, hk, HG, HB⟩ := hrel
  obtain ⟨wi, rfl⟩ : ∃ wi : World, wi = wr := ⟨_, rfl⟩
  by_cases hlt : k < l.length
  case neg =>
   have hlt3 : ¬ (k : Int) < (l.length : Int) := by omega
   have HE : Hid (res = true) := Lib.hid (by rw [← HG.out]; exact sameL_end (by omega) (by omega))
   go_wp2_with fail
   go_ret
   exact ⟨by rw [HE.out] <;> rfl, HB.out⟩
  case pos =>
   have hlt' : k < m.length := by omega
   have hlt3 : (k : Int) < (l.length : Int) := by omega
   have hlt4 : (k : Int) < (m.length : Int) := by omega
   obtain ⟨b, off, rfl, hF, hcl⟩ := RdE.at_ (K := 2) (enc := Stm.enc) (fun _ => rfl) (by omega) (HV.out.below HB.out) hlt
   obtain ⟨b', off', rfl, hF', hcl'⟩ := RdE.at_ (K := 2) (enc := Stm.enc) (fun _ => rfl) (by omega) (HU.out.below HB.out) hlt'
   have HBL := Lib.hid hF
   have HBM := Lib.hid hF'
   have hcx := hcl k hlt
   have hcy := hcl' k hlt'
   have hg := HG.out
   rw [sameL_at hlt hlt'] at hg
   obtain ⟨x, hx⟩ : ∃ x, x = l[k] := ⟨_, rfl⟩
   obtain ⟨y, hy⟩ : ∃ y, y = m[k] := ⟨_, rfl⟩
   rw [← hx] at hcx hg
   rw [← hy] at hcy hg
   obtain ⟨bo, hbo⟩ : ∃ bo, bo = sStm x y := ⟨_, rfl⟩
   rw [← hbo] at hg
   have HG2 := Lib.hid hg
   clear hx hy hcl hcl' hF hF' hg HG
   obtain ⟨x1, x2⟩ := x
   obtain ⟨y1, y2⟩ := y
   
   have g0 : wi.cell? ⟨b, off + k * 2, none⟩ = some (.int .i64 x1) := hcx 0 _ (by decide) rfl
   have g1 : wi.cell? ⟨b, off + k * 2 + 1, none⟩ = some (.int .i64 x2) := hcx 1 _ (by decide) rfl
   have h0 : wi.cell? ⟨b', off' + k * 2, none⟩ = some (.int .i64 y1) := hcy 0 _ (by decide) rfl
   have h1 : wi.cell? ⟨b', off' + k * 2 + 1, none⟩ = some (.int .i64 y2) := hcy 1 _ (by decide) rfl
   have HRX : Hid (bo = (decide (x1 = y1) && (decide (x2 = y2)))) := Lib.hid hbo
   clear hcx hcy hbo
   go_wp2_with fail
   by_cases tt13 : x1 = y1
   case neg =>
    have gg13 : Hid (decide (x1 = y1) = false) := Lib.hid (decide_eq_false tt13)
    have ee13 : (x1 == y1) = false := by simpa using tt13
    have ff13 : (x1 != y1) = true := by simpa using tt13
    have HF : Hid (bo = false) := Lib.hid (by rw [HRX.out, gg13.out] <;> simp)
    have HE : Hid (res = false) := Lib.hid (by rw [← HG2.out, HF.out]; rfl)
    refine wp_region_noPanic ?_
    refine wp_region_held_drew (S := (fun w' => Below wi.heap.size wi w')) (by kernel_rfl) ?_ (fun hHeld => ?_)
    ·exact (Below.refl _ _).drew
    refine heldTake 0 (some 16) (v := ?_) rfl rfl (by kernel_rfl) (by kernel_rfl) (by kernel_rfl) (by rfl) hHeld (fun _ _ _ h => h) ?_ ?_
    rotate_left
    ·intro w' hSw; (try dsimp only at hSw); go_simp <;> with_reducible rfl
    simp only [Act.put, List.setIfInBounds_toArray, List.set_cons_zero, List.set_cons_succ]
    refine heldTake 1 (some 17) (v := ?_) rfl rfl (by kernel_rfl) (by kernel_rfl) (by kernel_rfl) (by rfl) hHeld (fun _ _ _ h => h) ?_ ?_
    rotate_left
    ·intro w' hSw; (try dsimp only at hSw); go_simp <;> with_reducible rfl
    simp only [Act.put, List.setIfInBounds_toArray, List.set_cons_zero, List.set_cons_succ]
    refine heldTake 2 (some 18) (v := ?_) rfl rfl (by kernel_rfl) (by kernel_rfl) (by kernel_rfl) (by rfl) hHeld (fun _ _ _ h => h) ?_ ?_
    rotate_left
    ·intro w' hSw; (try dsimp only at hSw); go_simp <;> with_reducible rfl
    simp only [Act.put, List.setIfInBounds_toArray, List.set_cons_zero, List.set_cons_succ]
    refine heldTake 3 (some 19) (v := ?_) rfl rfl (by kernel_rfl) (by kernel_rfl) (by kernel_rfl) (by rfl) hHeld (fun _ _ _ h => h) ?_ ?_
    rotate_left
    ·intro w' hSw; (try dsimp only at hSw); have q0 : w'.cell? ⟨b, off + k * 2, none⟩ = some (.int .i64 x1) := (World.cell?_of_block (hSw.block _ HBL.out)).trans g0; have q1 : w'.cell? ⟨b, off + k * 2 + 1, none⟩ = some (.int .i64 x2) := (World.cell?_of_block (hSw.block _ HBL.out)).trans g1; go_simp <;> with_reducible rfl
    simp only [Act.put, List.setIfInBounds_toArray, List.set_cons_zero, List.set_cons_succ]
    refine heldTake 4 (some 20) (v := ?_) rfl rfl (by kernel_rfl) (by kernel_rfl) (by kernel_rfl) (by rfl) hHeld (fun _ _ _ h => h) ?_ ?_
    rotate_left
    ·intro w' hSw; (try dsimp only at hSw); go_simp <;> with_reducible rfl
    simp only [Act.put, List.setIfInBounds_toArray, List.set_cons_zero, List.set_cons_succ]
    refine heldTake 5 (some 21) (v := ?_) rfl rfl (by kernel_rfl) (by kernel_rfl) (by kernel_rfl) (by rfl) hHeld (fun _ _ _ h => h) ?_ ?_
    rotate_left
    ·intro w' hSw; (try dsimp only at hSw); go_simp <;> with_reducible rfl
    simp only [Act.put, List.setIfInBounds_toArray, List.set_cons_zero, List.set_cons_succ]
    refine heldTake 6 (some 22) (v := ?_) rfl rfl (by kernel_rfl) (by kernel_rfl) (by kernel_rfl) (by rfl) hHeld (fun _ _ _ h => h) ?_ ?_
    rotate_left
    ·intro w' hSw; (try dsimp only at hSw); go_simp <;> with_reducible rfl
    simp only [Act.put, List.setIfInBounds_toArray, List.set_cons_zero, List.set_cons_succ]
    refine heldTake 7 (some 23) (v := ?_) rfl rfl (by kernel_rfl) (by kernel_rfl) (by kernel_rfl) (by rfl) hHeld (fun _ _ _ h => h) ?_ ?_
    rotate_left
    ·intro w' hSw; (try dsimp only at hSw); have q0 : w'.cell? ⟨b', off' + k * 2, none⟩ = some (.int .i64 y1) := (World.cell?_of_block (hSw.block _ HBM.out)).trans h0; have q1 : w'.cell? ⟨b', off' + k * 2 + 1, none⟩ = some (.int .i64 y2) := (World.cell?_of_block (hSw.block _ HBM.out)).trans h1; go_simp <;> with_reducible rfl
    simp only [Act.put, List.setIfInBounds_toArray, List.set_cons_zero, List.set_cons_succ]
    refine heldTake 8 (some 24) (v := ?_) rfl rfl (by kernel_rfl) (by kernel_rfl) (by kernel_rfl) (by rfl) hHeld (fun _ _ _ h => h) ?_ ?_
    rotate_left
    ·intro w' hSw; (try dsimp only at hSw); go_simp <;> with_reducible rfl
    simp only [Act.put, List.setIfInBounds_toArray, List.set_cons_zero, List.set_cons_succ]
    refine wpAnyH_done (by kernel_rfl) ?_ _
    refine NoPanic.normal ?_
    go_wp2_with fail
    go_ret
    exact ⟨by rw [HE.out] <;> rfl, HB.out.drew⟩
   case pos =>
    have GG13 : Hid (decide (x1 = y1) = true) := Lib.hid (decide_eq_true tt13)
    have ee13 : (x1 == y1) = true := by simpa using tt13
    have ff13 : (x1 != y1) = false := by simpa using tt13
    clear tt13
    by_cases tt14 : x2 = y2
    case neg =>
     have gg14 : Hid (decide (x2 = y2) = false) := Lib.hid (decide_eq_false tt14)
     have ee14 : (x2 == y2) = false := by simpa using tt14
     have ff14 : (x2 != y2) = true := by simpa using tt14
     have HF : Hid (bo = false) := Lib.hid (by rw [HRX.out, GG13.out, gg14.out] <;> simp)
     have HE : Hid (res = false) := Lib.hid (by rw [← HG2.out, HF.out]; rfl)
     refine wp_region_noPanic ?_
     refine wp_region_held_drew (S := (fun w' => Below wi.heap.size wi w')) (by kernel_rfl) ?_ (fun hHeld => ?_)
     ·exact (Below.refl _ _).drew
     refine heldTake 0 (some 16) (v := ?_) rfl rfl (by kernel_rfl) (by kernel_rfl) (by kernel_rfl) (by rfl) hHeld (fun _ _ _ h => h) ?_ ?_
     rotate_left
     ·intro w' hSw; (try dsimp only at hSw); go_simp <;> with_reducible rfl
     simp only [Act.put, List.setIfInBounds_toArray, List.set_cons_zero, List.set_cons_succ]
     refine heldTake 1 (some 17) (v := ?_) rfl rfl (by kernel_rfl) (by kernel_rfl) (by kernel_rfl) (by rfl) hHeld (fun _ _ _ h => h) ?_ ?_
     rotate_left
     ·intro w' hSw; (try dsimp only at hSw); go_simp <;> with_reducible rfl
     simp only [Act.put, List.setIfInBounds_toArray, List.set_cons_zero, List.set_cons_succ]
     refine heldTake 2 (some 18) (v := ?_) rfl rfl (by kernel_rfl) (by kernel_rfl) (by kernel_rfl) (by rfl) hHeld (fun _ _ _ h => h) ?_ ?_
     rotate_left
     ·intro w' hSw; (try dsimp only at hSw); go_simp <;> with_reducible rfl
     simp only [Act.put, List.setIfInBounds_toArray, List.set_cons_zero, List.set_cons_succ]
     refine heldTake 3 (some 19) (v := ?_) rfl rfl (by kernel_rfl) (by kernel_rfl) (by kernel_rfl) (by rfl) hHeld (fun _ _ _ h => h) ?_ ?_
     rotate_left
     ·intro w' hSw; (try dsimp only at hSw); have q0 : w'.cell? ⟨b, off + k * 2, none⟩ = some (.int .i64 x1) := (World.cell?_of_block (hSw.block _ HBL.out)).trans g0; have q1 : w'.cell? ⟨b, off + k * 2 + 1, none⟩ = some (.int .i64 x2) := (World.cell?_of_block (hSw.block _ HBL.out)).trans g1; go_simp <;> with_reducible rfl
     simp only [Act.put, List.setIfInBounds_toArray, List.set_cons_zero, List.set_cons_succ]
     refine heldTake 4 (some 20) (v := ?_) rfl rfl (by kernel_rfl) (by kernel_rfl) (by kernel_rfl) (by rfl) hHeld (fun _ _ _ h => h) ?_ ?_
     rotate_left
     ·intro w' hSw; (try dsimp only at hSw); go_simp <;> with_reducible rfl
     simp only [Act.put, List.setIfInBounds_toArray, List.set_cons_zero, List.set_cons_succ]
     refine heldTake 5 (some 21) (v := ?_) rfl rfl (by kernel_rfl) (by kernel_rfl) (by kernel_rfl) (by rfl) hHeld (fun _ _ _ h => h) ?_ ?_
     rotate_left
     ·intro w' hSw; (try dsimp only at hSw); go_simp <;> with_reducible rfl
     simp only [Act.put, List.setIfInBounds_toArray, List.set_cons_zero, List.set_cons_succ]
     refine heldTake 6 (some 22) (v := ?_) rfl rfl (by kernel_rfl) (by kernel_rfl) (by kernel_rfl) (by rfl) hHeld (fun _ _ _ h => h) ?_ ?_
     rotate_left
     ·intro w' hSw; (try dsimp only at hSw); go_simp <;> with_reducible rfl
     simp only [Act.put, List.setIfInBounds_toArray, List.set_cons_zero, List.set_cons_succ]
     refine heldTake 7 (some 23) (v := ?_) rfl rfl (by kernel_rfl) (by kernel_rfl) (by kernel_rfl) (by rfl) hHeld (fun _ _ _ h => h) ?_ ?_
     rotate_left
     ·intro w' hSw; (try dsimp only at hSw); have q0 : w'.cell? ⟨b', off' + k * 2, none⟩ = some (.int .i64 y1) := (World.cell?_of_block (hSw.block _ HBM.out)).trans h0; have q1 : w'.cell? ⟨b', off' + k * 2 + 1, none⟩ = some (.int .i64 y2) := (World.cell?_of_block (hSw.block _ HBM.out)).trans h1; go_simp <;> with_reducible rfl
     simp only [Act.put, List.setIfInBounds_toArray, List.set_cons_zero, List.set_cons_succ]
     refine heldTake 8 (some 24) (v := ?_) rfl rfl (by kernel_rfl) (by kernel_rfl) (by kernel_rfl) (by rfl) hHeld (fun _ _ _ h => h) ?_ ?_
     rotate_left
     ·intro w' hSw; (try dsimp only at hSw); go_simp <;> with_reducible rfl
     simp only [Act.put, List.setIfInBounds_toArray, List.set_cons_zero, List.set_cons_succ]
     refine wpAnyH_done (by kernel_rfl) ?_ _
     refine NoPanic.normal ?_
     go_wp2_with fail
     go_ret
     exact ⟨by rw [HE.out] <;> rfl, HB.out.drew⟩
    case pos =>
     have GG14 : Hid (decide (x2 = y2) = true) := Lib.hid (decide_eq_true tt14)
     have ee14 : (x2 == y2) = true := by simpa using tt14
     have ff14 : (x2 != y2) = false := by simpa using tt14
     clear tt14
     have HF : Hid (bo = true) := Lib.hid (by rw [HRX.out, GG13.out, GG14.out] <;> first | rfl | (simp; done))
     have HN : Hid (sameL sStm (l.drop (k + 1)) (m.drop (k + 1)) = res) := Lib.hid (by rw [← HG2.out, HF.out]; simp)
     refine wp_region_noPanic ?_
     refine wp_region_held_drew (S := (fun w' => Below wi.heap.size wi w')) (by kernel_rfl) ?_ (fun hHeld => ?_)
     ·exact (Below.refl _ _).drew
     refine heldTake 0 (some 16) (v := ?_) rfl rfl (by kernel_rfl) (by kernel_rfl) (by kernel_rfl) (by rfl) hHeld (fun _ _ _ h => h) ?_ ?_
     rotate_left
     ·intro w' hSw; (try dsimp only at hSw); go_simp <;> with_reducible rfl
     simp only [Act.put, List.setIfInBounds_toArray, List.set_cons_zero, List.set_cons_succ]
     refine heldTake 1 (some 17) (v := ?_) rfl rfl (by kernel_rfl) (by kernel_rfl) (by kernel_rfl) (by rfl) hHeld (fun _ _ _ h => h) ?_ ?_
     rotate_left
     ·intro w' hSw; (try dsimp only at hSw); go_simp <;> with_reducible rfl
     simp only [Act.put, List.setIfInBounds_toArray, List.set_cons_zero, List.set_cons_succ]
     refine heldTake 2 (some 18) (v := ?_) rfl rfl (by kernel_rfl) (by kernel_rfl) (by kernel_rfl) (by rfl) hHeld (fun _ _ _ h => h) ?_ ?_
     rotate_left
     ·intro w' hSw; (try dsimp only at hSw); go_simp <;> with_reducible rfl
     simp only [Act.put, List.setIfInBounds_toArray, List.set_cons_zero, List.set_cons_succ]
     refine heldTake 3 (some 19) (v := ?_) rfl rfl (by kernel_rfl) (by kernel_rfl) (by kernel_rfl) (by rfl) hHeld (fun _ _ _ h => h) ?_ ?_
     rotate_left
     ·intro w' hSw; (try dsimp only at hSw); have q0 : w'.cell? ⟨b, off + k * 2, none⟩ = some (.int .i64 x1) := (World.cell?_of_block (hSw.block _ HBL.out)).trans g0; have q1 : w'.cell? ⟨b, off + k * 2 + 1, none⟩ = some (.int .i64 x2) := (World.cell?_of_block (hSw.block _ HBL.out)).trans g1; go_simp <;> with_reducible rfl
     simp only [Act.put, List.setIfInBounds_toArray, List.set_cons_zero, List.set_cons_succ]
     refine heldTake 4 (some 20) (v := ?_) rfl rfl (by kernel_rfl) (by kernel_rfl) (by kernel_rfl) (by rfl) hHeld (fun _ _ _ h => h) ?_ ?_
     rotate_left
     ·intro w' hSw; (try dsimp only at hSw); go_simp <;> with_reducible rfl
     simp only [Act.put, List.setIfInBounds_toArray, List.set_cons_zero, List.set_cons_succ]
     refine heldTake 5 (some 21) (v := ?_) rfl rfl (by kernel_rfl) (by kernel_rfl) (by kernel_rfl) (by rfl) hHeld (fun _ _ _ h => h) ?_ ?_
     rotate_left
     ·intro w' hSw; (try dsimp only at hSw); go_simp <;> with_reducible rfl
     simp only [Act.put, List.setIfInBounds_toArray, List.set_cons_zero, List.set_cons_succ]
     refine heldTake 6 (some 22) (v := ?_) rfl rfl (by kernel_rfl) (by kernel_rfl) (by kernel_rfl) (by rfl) hHeld (fun _ _ _ h => h) ?_ ?_
     rotate_left
     ·intro w' hSw; (try dsimp only at hSw); go_simp <;> with_reducible rfl
     simp only [Act.put, List.setIfInBounds_toArray, List.set_cons_zero, List.set_cons_succ]
     refine heldTake 7 (some 23) (v := ?_) rfl rfl (by kernel_rfl) (by kernel_rfl) (by kernel_rfl) (by rfl) hHeld (fun _ _ _ h => h) ?_ ?_
     rotate_left
     ·intro w' hSw; (try dsimp only at hSw); have q0 : w'.cell? ⟨b', off' + k * 2, none⟩ = some (.int .i64 y1) := (World.cell?_of_block (hSw.block _ HBM.out)).trans h0; have q1 : w'.cell? ⟨b', off' + k * 2 + 1, none⟩ = some (.int .i64 y2) := (World.cell?_of_block (hSw.block _ HBM.out)).trans h1; go_simp <;> with_reducible rfl
     simp only [Act.put, List.setIfInBounds_toArray, List.set_cons_zero, List.set_cons_succ]
     refine heldTake 8 (some 24) (v := ?_) rfl rfl (by kernel_rfl) (by kernel_rfl) (by kernel_rfl) (by rfl) hHeld (fun _ _ _ h => h) ?_ ?_
     rotate_left
     ·intro w' hSw; (try dsimp only at hSw); go_simp <;> with_reducible rfl
     simp only [Act.put, List.setIfInBounds_toArray, List.set_cons_zero, List.set_cons_succ]
     refine wpAnyH_done (by kernel_rfl) ?_ _
     refine NoPanic.normal ?_
     go_wp2_with fail
     go_roundw
     case rel => exact ⟨k + 1, by go_num, hlt, HN, Lib.hid HB.out.drew⟩
     case measure => simp [intOf]; omega
set_option maxRecDepth 1000000 in
set_option maxHeartbeats 8000000 in
theorem eqCol_any (v u : Value) (l m : List RCol) (w : World) (hv : RdE 3 RCol.enc w (· < w.heap.size) v l) (hu : RdE 3 RCol.enc w (· < w.heap.size) u m) :
  Calls Tryz.prog 227 #[v, u] w fun e w' => e = .returned (.bool (sameL sCol l m)) ∧ Below w.heap.size w w' := by
 obtain ⟨A, c, rfl, a1, a2, a3⟩ := Rd.open_ (show Rd w _ 3 v l.length (l.flatMap RCol.enc) from hv)
 obtain ⟨A', c', rfl, b1, b2, b3⟩ := Rd.open_ (show Rd w _ 3 u m.length (m.flatMap RCol.enc) from hu)
 unfold maxLen at a2 b2
 have HV := Lib.hid hv
 have HU := Lib.hid hu
 obtain ⟨res, hres⟩ : ∃ r, r = sameL sCol l m := ⟨_, rfl⟩
 rw [← hres]
 have HRES := Lib.hid hres
 clear hv hu hres a3 b3
 go_enter Tryz.func227, Tryz.ntmps227
 by_cases hlen : l.length = m.length
 case neg =>
  have HE : Hid (res = false) := Lib.hid (by rw [HRES.out]; exact sameL_len hlen)
  have hlen2 : ¬ (l.length : Int) = (m.length : Int) := by omega
  have hlen3 : ((l.length : Int) != (m.length : Int)) = true := by simpa using hlen2
  go_wp2_with fail
  go_ret
  exact ⟨by rw [HE.out] <;> rfl, Below.refl _ _⟩
 case pos =>
 have hlen2 : (l.length : Int) = (m.length : Int) := by omega
 have hlen3 : ((l.length : Int) != (m.length : Int)) = false := by simpa using hlen2
 go_wp2_with fail
 clear hlen3
 go_loopw [13] (fun i wr => ∃ k : Nat, i = .int .i64 (k : Int) ∧ k ≤ l.length ∧ Hid (sameL sCol (l.drop k) (m.drop k) = res) ∧ Hid (Below w.heap.size w wr)) (fun i _ => l.length - (intOf i).toNat)
 case atStart => exact ⟨0, rfl, Nat.zero_le _, Lib.hid HRES.out.symm, Lib.hid (Below.refl _ _)⟩
 case round =>
  obtain ⟨k, rfl, hk, HG, HB⟩ := hrel
  obtain ⟨wi, rfl⟩ : ∃ wi : World, wi = wr := ⟨_, rfl⟩
  by_cases hlt : k < l.length
  case neg =>
   have hlt3 : ¬ (k : Int) < (l.length : Int) := by omega
   have HE : Hid (res = true) := Lib.hid (by rw [← HG.out]; exact sameL_end (by omega) (by omega))
   go_wp2_with fail
   go_ret
   exact ⟨by rw [HE.out] <;> rfl, HB.out⟩
  case pos =>
   have hlt' : k < m.length := by omega
   have hlt3 : (k : Int) < (l.length : Int) := by omega
   have hlt4 : (k : Int) < (m.length : Int) := by omega
   obtain ⟨b, off, rfl, hF, hcl⟩ := RdE.at_ (K := 3) (enc := RCol.enc) (fun _ => rfl) (by omega) (HV.out.below HB.out) hlt
   obtain ⟨b', off', rfl, hF', hcl'⟩ := RdE.at_ (K := 3) (enc := RCol.enc) (fun _ => rfl) (by omega) (HU.out.below HB.out) hlt'
   have HBL := Lib.hid hF
   have HBM := Lib.hid hF'
   have hcx := hcl k hlt
   have hcy := hcl' k hlt'
   have hg := HG.out
   rw [sameL_at hlt hlt'] at hg
   obtain ⟨x, hx⟩ : ∃ x, x = l[k] := ⟨_, rfl⟩
   obtain ⟨y, hy⟩ : ∃ y, y = m[k] := ⟨_, rfl⟩
   rw [← hx] at hcx hg
   rw [← hy] at hcy hg
   obtain ⟨bo, hbo⟩ : ∃ bo, bo = sCol x y := ⟨_, rfl⟩
   rw [← hbo] at hg
   have HG2 := Lib.hid hg
   clear hx hy hcl hcl' hF hF' hg HG
   obtain ⟨x1, x2, x3⟩ := x
   obtain ⟨y1, y2, y3⟩ := y
   
   have g0 : wi.cell? ⟨b, off + k * 3, none⟩ = some (.string x1) := hcx 0 _ (by decide) rfl
   have g1 : wi.cell? ⟨b, off + k * 3 + 1, none⟩ = some (.int .i64 x2) := hcx 1 _ (by decide) rfl
   have g2 : wi.cell? ⟨b, off + k * 3 + 2, none⟩ = some (.bool x3) := hcx 2 _ (by decide) rfl
   have h0 : wi.cell? ⟨b', off' + k * 3, none⟩ = some (.string y1) := hcy 0 _ (by decide) rfl
   have h1 : wi.cell? ⟨b', off' + k * 3 + 1, none⟩ = some (.int .i64 y2) := hcy 1 _ (by decide) rfl
   have h2 : wi.cell? ⟨b', off' + k * 3 + 2, none⟩ = some (.bool y3) := hcy 2 _ (by decide) rfl
   have HRX : Hid (bo = (eqS x1 y1 && (decide (x2 = y2) && ((x3 == y3))))) := Lib.hid hbo
   clear hcx hcy hbo
   go_wp2_with fail
   cases ee15 : (x1.toList == y1.toList)
   case false =>
    have gg15 : Hid (eqS x1 y1 = false) := Lib.hid ee15
    have ff15 : (x1.toList != y1.toList) = true := by rw [bne, ee15]; rfl
    have HF : Hid (bo = false) := Lib.hid (by rw [HRX.out, gg15.out] <;> simp)
    have HE : Hid (res = false) := Lib.hid (by rw [← HG2.out, HF.out]; rfl)
    refine wp_region_noPanic ?_
    refine wp_region_held_drew (S := (fun w' => Below wi.heap.size wi w')) (by kernel_rfl) ?_ (fun hHeld => ?_)
    ·exact (Below.refl _ _).drew
    refine heldTake 0 (some 16) (v := ?_) rfl rfl (by kernel_rfl) (by kernel_rfl) (by kernel_rfl) (by rfl) hHeld (fun _ _ _ h => h) ?_ ?_
    rotate_left
    ·intro w' hSw; (try dsimp only at hSw); go_simp <;> with_reducible rfl
    simp only [Act.put, List.setIfInBounds_toArray, List.set_cons_zero, List.set_cons_succ]
    refine heldTake 1 (some 17) (v := ?_) rfl rfl (by kernel_rfl) (by kernel_rfl) (by kernel_rfl) (by rfl) hHeld (fun _ _ _ h => h) ?_ ?_
    rotate_left
    ·intro w' hSw; (try dsimp only at hSw); go_simp <;> with_reducible rfl
    simp only [Act.put, List.setIfInBounds_toArray, List.set_cons_zero, List.set_cons_succ]
    refine heldTake 2 (some 18) (v := ?_) rfl rfl (by kernel_rfl) (by kernel_rfl) (by kernel_rfl) (by rfl) hHeld (fun _ _ _ h => h) ?_ ?_
    rotate_left
    ·intro w' hSw; (try dsimp only at hSw); go_simp <;> with_reducible rfl
    simp only [Act.put, List.setIfInBounds_toArray, List.set_cons_zero, List.set_cons_succ]
    refine heldTake 3 (some 19) (v := ?_) rfl rfl (by kernel_rfl) (by kernel_rfl) (by kernel_rfl) (by rfl) hHeld (fun _ _ _ h => h) ?_ ?_
    rotate_left
    ·intro w' hSw; (try dsimp only at hSw); have q0 : w'.cell? ⟨b, off + k * 3, none⟩ = some (.string x1) := (World.cell?_of_block (hSw.block _ HBL.out)).trans g0; have q1 : w'.cell? ⟨b, off + k * 3 + 1, none⟩ = some (.int .i64 x2) := (World.cell?_of_block (hSw.block _ HBL.out)).trans g1; have q2 : w'.cell? ⟨b, off + k * 3 + 2, none⟩ = some (.bool x3) := (World.cell?_of_block (hSw.block _ HBL.out)).trans g2; go_simp <;> with_reducible rfl
    simp only [Act.put, List.setIfInBounds_toArray, List.set_cons_zero, List.set_cons_succ]
    refine heldTake 4 (some 20) (v := ?_) rfl rfl (by kernel_rfl) (by kernel_rfl) (by kernel_rfl) (by rfl) hHeld (fun _ _ _ h => h) ?_ ?_
    rotate_left
    ·intro w' hSw; (try dsimp only at hSw); go_simp <;> with_reducible rfl
    simp only [Act.put, List.setIfInBounds_toArray, List.set_cons_zero, List.set_cons_succ]
    refine heldTake 5 (some 21) (v := ?_) rfl rfl (by kernel_rfl) (by kernel_rfl) (by kernel_rfl) (by rfl) hHeld (fun _ _ _ h => h) ?_ ?_
    rotate_left
    ·intro w' hSw; (try dsimp only at hSw); go_simp <;> with_reducible rfl
    simp only [Act.put, List.setIfInBounds_toArray, List.set_cons_zero, List.set_cons_succ]
    refine heldTake 6 (some 22) (v := ?_) rfl rfl (by kernel_rfl) (by kernel_rfl) (by kernel_rfl) (by rfl) hHeld (fun _ _ _ h => h) ?_ ?_
    rotate_left
    ·intro w' hSw; (try dsimp only at hSw); go_simp <;> with_reducible rfl
    simp only [Act.put, List.setIfInBounds_toArray, List.set_cons_zero, List.set_cons_succ]
    refine heldTake 7 (some 23) (v := ?_) rfl rfl (by kernel_rfl) (by kernel_rfl) (by kernel_rfl) (by rfl) hHeld (fun _ _ _ h => h) ?_ ?_
    rotate_left
    ·intro w' hSw; (try dsimp only at hSw); have q0 : w'.cell? ⟨b', off' + k * 3, none⟩ = some (.string y1) := (World.cell?_of_block (hSw.block _ HBM.out)).trans h0; have q1 : w'.cell? ⟨b', off' + k * 3 + 1, none⟩ = some (.int .i64 y2) := (World.cell?_of_block (hSw.block _ HBM.out)).trans h1; have q2 : w'.cell? ⟨b', off' + k * 3 + 2, none⟩ = some (.bool y3) := (World.cell?_of_block (hSw.block _ HBM.out)).trans h2; go_simp <;> with_reducible rfl
    simp only [Act.put, List.setIfInBounds_toArray, List.set_cons_zero, List.set_cons_succ]
    refine heldTake 8 (some 24) (v := ?_) rfl rfl (by kernel_rfl) (by kernel_rfl) (by kernel_rfl) (by rfl) hHeld (fun _ _ _ h => h) ?_ ?_
    rotate_left
    ·intro w' hSw; (try dsimp only at hSw); go_simp <;> with_reducible rfl
    simp only [Act.put, List.setIfInBounds_toArray, List.set_cons_zero, List.set_cons_succ]
    refine wpAnyH_done (by kernel_rfl) ?_ _
    refine NoPanic.normal ?_
    go_wp2_with fail
    go_ret
    exact ⟨by rw [HE.out] <;> rfl, HB.out.drew⟩
   case true =>
    have GG15 : Hid (eqS x1 y1 = true) := Lib.hid ee15
    have ff15 : (x1.toList != y1.toList) = false := by rw [bne, ee15]; rfl
    by_cases tt16 : x2 = y2
    case neg =>
     have gg16 : Hid (decide (x2 = y2) = false) := Lib.hid (decide_eq_false tt16)
     have ee16 : (x2 == y2) = false := by simpa using tt16
     have ff16 : (x2 != y2) = true := by simpa using tt16
     have HF : Hid (bo = false) := Lib.hid (by rw [HRX.out, GG15.out, gg16.out] <;> simp)
     have HE : Hid (res = false) := Lib.hid (by rw [← HG2.out, HF.out]; rfl)
     refine wp_region_noPanic ?_
     refine wp_region_held_drew (S := (fun w' => Below wi.heap.size wi w')) (by kernel_rfl) ?_ (fun hHeld => ?_)
     ·exact (Below.refl _ _).drew
     refine heldTake 0 (some 16) (v := ?_) rfl rfl (by kernel_rfl) (by kernel_rfl) (by kernel_rfl) (by rfl) hHeld (fun _ _ _ h => h) ?_ ?_
     rotate_left
     ·intro w' hSw; (try dsimp only at hSw); go_simp <;> with_reducible rfl
     simp only [Act.put, List.setIfInBounds_toArray, List.set_cons_zero, List.set_cons_succ]
     refine heldTake 1 (some 17) (v := ?_) rfl rfl (by kernel_rfl) (by kernel_rfl) (by kernel_rfl) (by rfl) hHeld (fun _ _ _ h => h) ?_ ?_
     rotate_left
     ·intro w' hSw; (try dsimp only at hSw); go_simp <;> with_reducible rfl
     simp only [Act.put, List.setIfInBounds_toArray, List.set_cons_zero, List.set_cons_succ]
     refine heldTake 2 (some 18) (v := ?_) rfl rfl (by kernel_rfl) (by kernel_rfl) (by kernel_rfl) (by rfl) hHeld (fun _ _ _ h => h) ?_ ?_
     rotate_left
     ·intro w' hSw; (try dsimp only at hSw); go_simp <;> with_reducible rfl
     simp only [Act.put, List.setIfInBounds_toArray, List.set_cons_zero, List.set_cons_succ]
     refine heldTake 3 (some 19) (v := ?_) rfl rfl (by kernel_rfl) (by kernel_rfl) (by kernel_rfl) (by rfl) hHeld (fun _ _ _ h => h) ?_ ?_
     rotate_left
     ·intro w' hSw; (try dsimp only at hSw); have q0 : w'.cell? ⟨b, off + k * 3, none⟩ = some (.string x1) := (World.cell?_of_block (hSw.block _ HBL.out)).trans g0; have q1 : w'.cell? ⟨b, off + k * 3 + 1, none⟩ = some (.int .i64 x2) := (World.cell?_of_block (hSw.block _ HBL.out)).trans g1; have q2 : w'.cell? ⟨b, off + k * 3 + 2, none⟩ = some (.bool x3) := (World.cell?_of_block (hSw.block _ HBL.out)).trans g2; go_simp <;> with_reducible rfl
     simp only [Act.put, List.setIfInBounds_toArray, List.set_cons_zero, List.set_cons_succ]
     refine heldTake 4 (some 20) (v := ?_) rfl rfl (by kernel_rfl) (by kernel_rfl) (by kernel_rfl) (by rfl) hHeld (fun _ _ _ h => h) ?_ ?_
     rotate_left
     ·intro w' hSw; (try dsimp only at hSw); go_simp <;> with_reducible rfl
     simp only [Act.put, List.setIfInBounds_toArray, List.set_cons_zero, List.set_cons_succ]
     refine heldTake 5 (some 21) (v := ?_) rfl rfl (by kernel_rfl) (by kernel_rfl) (by kernel_rfl) (by rfl) hHeld (fun _ _ _ h => h) ?_ ?_
     rotate_left
     ·intro w' hSw; (try dsimp only at hSw); go_simp <;> with_reducible rfl
     simp only [Act.put, List.setIfInBounds_toArray, List.set_cons_zero, List.set_cons_succ]
     refine heldTake 6 (some 22) (v := ?_) rfl rfl (by kernel_rfl) (by kernel_rfl) (by kernel_rfl) (by rfl) hHeld (fun _ _ _ h => h) ?_ ?_
     rotate_left
     ·intro w' hSw; (try dsimp only at hSw); go_simp <;> with_reducible rfl
     simp only [Act.put, List.setIfInBounds_toArray, List.set_cons_zero, List.set_cons_succ]
     refine heldTake 7 (some 23) (v := ?_) rfl rfl (by kernel_rfl) (by kernel_rfl) (by kernel_rfl) (by rfl) hHeld (fun _ _ _ h => h) ?_ ?_
     rotate_left
     ·intro w' hSw; (try dsimp only at hSw); have q0 : w'.cell? ⟨b', off' + k * 3, none⟩ = some (.string y1) := (World.cell?_of_block (hSw.block _ HBM.out)).trans h0; have q1 : w'.cell? ⟨b', off' + k * 3 + 1, none⟩ = some (.int .i64 y2) := (World.cell?_of_block (hSw.block _ HBM.out)).trans h1; have q2 : w'.cell? ⟨b', off' + k * 3 + 2, none⟩ = some (.bool y3) := (World.cell?_of_block (hSw.block _ HBM.out)).trans h2; go_simp <;> with_reducible rfl
     simp only [Act.put, List.setIfInBounds_toArray, List.set_cons_zero, List.set_cons_succ]
     refine heldTake 8 (some 24) (v := ?_) rfl rfl (by kernel_rfl) (by kernel_rfl) (by kernel_rfl) (by rfl) hHeld (fun _ _ _ h => h) ?_ ?_
     rotate_left
     ·intro w' hSw; (try dsimp only at hSw); go_simp <;> with_reducible rfl
     simp only [Act.put, List.setIfInBounds_toArray, List.set_cons_zero, List.set_cons_succ]
     refine wpAnyH_done (by kernel_rfl) ?_ _
     refine NoPanic.normal ?_
     go_wp2_with fail
     go_ret
     exact ⟨by rw [HE.out] <;> rfl, HB.out.drew⟩
    case pos =>
     have GG16 : Hid (decide (x2 = y2) = true) := Lib.hid (decide_eq_true tt16)
     have ee16 : (x2 == y2) = true := by simpa using tt16
     have ff16 : (x2 != y2) = false := by simpa using tt16
     clear tt16
     cases ee17 : (x3 == y3)
     case false =>
      have GG17 := Lib.hid ee17
      have ff17 : (x3 != y3) = true := by rw [bne, ee17]; rfl
      have HF : Hid (bo = false) := Lib.hid (by rw [HRX.out, GG15.out, GG16.out, GG17.out] <;> simp)
      have HE : Hid (res = false) := Lib.hid (by rw [← HG2.out, HF.out]; rfl)
      refine wp_region_noPanic ?_
      refine wp_region_held_drew (S := (fun w' => Below wi.heap.size wi w')) (by kernel_rfl) ?_ (fun hHeld => ?_)
      ·exact (Below.refl _ _).drew
      refine heldTake 0 (some 16) (v := ?_) rfl rfl (by kernel_rfl) (by kernel_rfl) (by kernel_rfl) (by rfl) hHeld (fun _ _ _ h => h) ?_ ?_
      rotate_left
      ·intro w' hSw; (try dsimp only at hSw); go_simp <;> with_reducible rfl
      simp only [Act.put, List.setIfInBounds_toArray, List.set_cons_zero, List.set_cons_succ]
      refine heldTake 1 (some 17) (v := ?_) rfl rfl (by kernel_rfl) (by kernel_rfl) (by kernel_rfl) (by rfl) hHeld (fun _ _ _ h => h) ?_ ?_
      rotate_left
      ·intro w' hSw; (try dsimp only at hSw); go_simp <;> with_reducible rfl
      simp only [Act.put, List.setIfInBounds_toArray, List.set_cons_zero, List.set_cons_succ]
      refine heldTake 2 (some 18) (v := ?_) rfl rfl (by kernel_rfl) (by kernel_rfl) (by kernel_rfl) (by rfl) hHeld (fun _ _ _ h => h) ?_ ?_
      rotate_left
      ·intro w' hSw; (try dsimp only at hSw); go_simp <;> with_reducible rfl
      simp only [Act.put, List.setIfInBounds_toArray, List.set_cons_zero, List.set_cons_succ]
      refine heldTake 3 (some 19) (v := ?_) rfl rfl (by kernel_rfl) (by kernel_rfl) (by kernel_rfl) (by rfl) hHeld (fun _ _ _ h => h) ?_ ?_
      rotate_left
      ·intro w' hSw; (try dsimp only at hSw); have q0 : w'.cell? ⟨b, off + k * 3, none⟩ = some (.string x1) := (World.cell?_of_block (hSw.block _ HBL.out)).trans g0; have q1 : w'.cell? ⟨b, off + k * 3 + 1, none⟩ = some (.int .i64 x2) := (World.cell?_of_block (hSw.block _ HBL.out)).trans g1; have q2 : w'.cell? ⟨b, off + k * 3 + 2, none⟩ = some (.bool x3) := (World.cell?_of_block (hSw.block _ HBL.out)).trans g2; go_simp <;> with_reducible rfl
      simp only [Act.put, List.setIfInBounds_toArray, List.set_cons_zero, List.set_cons_succ]
      refine heldTake 4 (some 20) (v := ?_) rfl rfl (by kernel_rfl) (by kernel_rfl) (by kernel_rfl) (by rfl) hHeld (fun _ _ _ h => h) ?_ ?_
      rotate_left
      ·intro w' hSw; (try dsimp only at hSw); go_simp <;> with_reducible rfl
      simp only [Act.put, List.setIfInBounds_toArray, List.set_cons_zero, List.set_cons_succ]
      refine heldTake 5 (some 21) (v := ?_) rfl rfl (by kernel_rfl) (by kernel_rfl) (by kernel_rfl) (by rfl) hHeld (fun _ _ _ h => h) ?_ ?_
      rotate_left
      ·intro w' hSw; (try dsimp only at hSw); go_simp <;> with_reducible rfl
      simp only [Act.put, List.setIfInBounds_toArray, List.set_cons_zero, List.set_cons_succ]
      refine heldTake 6 (some 22) (v := ?_) rfl rfl (by kernel_rfl) (by kernel_rfl) (by kernel_rfl) (by rfl) hHeld (fun _ _ _ h => h) ?_ ?_
      rotate_left
      ·intro w' hSw; (try dsimp only at hSw); go_simp <;> with_reducible rfl
      simp only [Act.put, List.setIfInBounds_toArray, List.set_cons_zero, List.set_cons_succ]
      refine heldTake 7 (some 23) (v := ?_) rfl rfl (by kernel_rfl) (by kernel_rfl) (by kernel_rfl) (by rfl) hHeld (fun _ _ _ h => h) ?_ ?_
      rotate_left
      ·intro w' hSw; (try dsimp only at hSw); have q0 : w'.cell? ⟨b', off' + k * 3, none⟩ = some (.string y1) := (World.cell?_of_block (hSw.block _ HBM.out)).trans h0; have q1 : w'.cell? ⟨b', off' + k * 3 + 1, none⟩ = some (.int .i64 y2) := (World.cell?_of_block (hSw.block _ HBM.out)).trans h1; have q2 : w'.cell? ⟨b', off' + k * 3 + 2, none⟩ = some (.bool y3) := (World.cell?_of_block (hSw.block _ HBM.out)).trans h2; go_simp <;> with_reducible rfl
      simp only [Act.put, List.setIfInBounds_toArray, List.set_cons_zero, List.set_cons_succ]
      refine heldTake 8 (some 24) (v := ?_) rfl rfl (by kernel_rfl) (by kernel_rfl) (by kernel_rfl) (by rfl) hHeld (fun _ _ _ h => h) ?_ ?_
      rotate_left
      ·intro w' hSw; (try dsimp only at hSw); go_simp <;> with_reducible rfl
      simp only [Act.put, List.setIfInBounds_toArray, List.set_cons_zero, List.set_cons_succ]
      refine wpAnyH_done (by kernel_rfl) ?_ _
      refine NoPanic.normal ?_
      go_wp2_with fail
      go_ret
      exact ⟨by rw [HE.out] <;> rfl, HB.out.drew⟩
     case true =>
      have GG17 := Lib.hid ee17
      have ff17 : (x3 != y3) = false := by rw [bne, ee17]; rfl
      have HF : Hid (bo = true) := Lib.hid (by rw [HRX.out, GG15.out, GG16.out, GG17.out] <;> first | rfl | (simp; done))
      have HN : Hid (sameL sCol (l.drop (k + 1)) (m.drop (k + 1)) = res) := Lib.hid (by rw [← HG2.out, HF.out]; simp)
      refine wp_region_noPanic ?_
      refine wp_region_held_drew (S := (fun w' => Below wi.heap.size wi w')) (by kernel_rfl) ?_ (fun hHeld => ?_)
      ·exact (Below.refl _ _).drew
      refine heldTake 0 (some 16) (v := ?_) rfl rfl (by kernel_rfl) (by kernel_rfl) (by kernel_rfl) (by rfl) hHeld (fun _ _ _ h => h) ?_ ?_
      rotate_left
      ·intro w' hSw; (try dsimp only at hSw); go_simp <;> with_reducible rfl
      simp only [Act.put, List.setIfInBounds_toArray, List.set_cons_zero, List.set_cons_succ]
      refine heldTake 1 (some 17) (v := ?_) rfl rfl (by kernel_rfl) (by kernel_rfl) (by kernel_rfl) (by rfl) hHeld (fun _ _ _ h => h) ?_ ?_
      rotate_left
      ·intro w' hSw; (try dsimp only at hSw); go_simp <;> with_reducible rfl
      simp only [Act.put, List.setIfInBounds_toArray, List.set_cons_zero, List.set_cons_succ]
      refine heldTake 2 (some 18) (v := ?_) rfl rfl (by kernel_rfl) (by kernel_rfl) (by kernel_rfl) (by rfl) hHeld (fun _ _ _ h => h) ?_ ?_
      rotate_left
      ·intro w' hSw; (try dsimp only at hSw); go_simp <;> with_reducible rfl
      simp only [Act.put, List.setIfInBounds_toArray, List.set_cons_zero, List.set_cons_succ]
      refine heldTake 3 (some 19) (v := ?_) rfl rfl (by kernel_rfl) (by kernel_rfl) (by kernel_rfl) (by rfl) hHeld (fun _ _ _ h => h) ?_ ?_
      rotate_left
      ·intro w' hSw; (try dsimp only at hSw); have q0 : w'.cell? ⟨b, off + k * 3, none⟩ = some (.string x1) := (World.cell?_of_block (hSw.block _ HBL.out)).trans g0; have q1 : w'.cell? ⟨b, off + k * 3 + 1, none⟩ = some (.int .i64 x2) := (World.cell?_of_block (hSw.block _ HBL.out)).trans g1; have q2 : w'.cell? ⟨b, off + k * 3 + 2, none⟩ = some (.bool x3) := (World.cell?_of_block (hSw.block _ HBL.out)).trans g2; go_simp <;> with_reducible rfl
      simp only [Act.put, List.setIfInBounds_toArray, List.set_cons_zero, List.set_cons_succ]
      refine heldTake 4 (some 20) (v := ?_) rfl rfl (by kernel_rfl) (by kernel_rfl) (by kernel_rfl) (by rfl) hHeld (fun _ _ _ h => h) ?_ ?_
      rotate_left
      ·intro w' hSw; (try dsimp only at hSw); go_simp <;> with_reducible rfl
      simp only [Act.put, List.setIfInBounds_toArray, List.set_cons_zero, List.set_cons_succ]
      refine heldTake 5 (some 21) (v := ?_) rfl rfl (by kernel_rfl) (by kernel_rfl) (by kernel_rfl) (by rfl) hHeld (fun _ _ _ h => h) ?_ ?_
      rotate_left
      ·intro w' hSw; (try dsimp only at hSw); go_simp <;> with_reducible rfl
      simp only [Act.put, List.setIfInBounds_toArray, List.set_cons_zero, List.set_cons_succ]
      refine heldTake 6 (some 22) (v := ?_) rfl rfl (by kernel_rfl) (by kernel_rfl) (by kernel_rfl) (by rfl) hHeld (fun _ _ _ h => h) ?_ ?_
      rotate_left
      ·intro w' hSw; (try dsimp only at hSw); go_simp <;> with_reducible rfl
      simp only [Act.put, List.setIfInBounds_toArray, List.set_cons_zero, List.set_cons_succ]
      refine heldTake 7 (some 23) (v := ?_) rfl rfl (by kernel_rfl) (by kernel_rfl) (by kernel_rfl) (by rfl) hHeld (fun _ _ _ h => h) ?_ ?_
      rotate_left
      ·intro w' hSw; (try dsimp only at hSw); have q0 : w'.cell? ⟨b', off' + k * 3, none⟩ = some (.string y1) := (World.cell?_of_block (hSw.block _ HBM.out)).trans h0; have q1 : w'.cell? ⟨b', off' + k * 3 + 1, none⟩ = some (.int .i64 y2) := (World.cell?_of_block (hSw.block _ HBM.out)).trans h1; have q2 : w'.cell? ⟨b', off' + k * 3 + 2, none⟩ = some (.bool y3) := (World.cell?_of_block (hSw.block _ HBM.out)).trans h2; go_simp <;> with_reducible rfl
      simp only [Act.put, List.setIfInBounds_toArray, List.set_cons_zero, List.set_cons_succ]
      refine heldTake 8 (some 24) (v := ?_) rfl rfl (by kernel_rfl) (by kernel_rfl) (by kernel_rfl) (by rfl) hHeld (fun _ _ _ h => h) ?_ ?_
      rotate_left
      ·intro w' hSw; (try dsimp only at hSw); go_simp <;> with_reducible rfl
      simp only [Act.put, List.setIfInBounds_toArray, List.set_cons_zero, List.set_cons_succ]
      refine wpAnyH_done (by kernel_rfl) ?_ _
      refine NoPanic.normal ?_
      go_wp2_with fail
      go_roundw
      case rel => exact ⟨k + 1, by go_num, hlt, HN, Lib.hid HB.out.drew⟩
      case measure => simp [intOf]; omega
set_option maxRecDepth 1000000 in
set_option maxHeartbeats 8000000 in
theorem likeInts_any (v u : Value) (l m : List Int) (w : World) (hv : RdE 1 intE w (· < w.heap.size) v l) (hu : RdE 1 intE w (· < w.heap.size) u m) :
  Calls Tryz.prog 178 #[v, u] w fun e w' => e = .returned (.bool (sameL sInt l m)) ∧ Below w.heap.size w w' := by
 obtain ⟨A, c, rfl, a1, a2, a3⟩ := Rd.open_ (show Rd w _ 1 v l.length (l.flatMap intE) from hv)
 obtain ⟨A', c', rfl, b1, b2, b3⟩ := Rd.open_ (show Rd w _ 1 u m.length (m.flatMap intE) from hu)
 unfold maxLen at a2 b2
 have HV := Lib.hid hv
 have HU := Lib.hid hu
 obtain ⟨res, hres⟩ : ∃ r, r = sameL sInt l m := ⟨_, rfl⟩
 rw [← hres]
 have HRES := Lib.hid hres
 clear hv hu hres a3 b3
 go_enter Tryz.func178, Tryz.ntmps178
 by_cases hlen : l.length = m.length
 case neg =>
  have HE : Hid (res = false) := Lib.hid (by rw [HRES.out]; exact sameL_len hlen)
  have hlen2 : ¬ (l.length : Int) = (m.length : Int) := by omega
  have hlen3 : ((l.length : Int) != (m.length : Int)) = true := by simpa using hlen2
  go_wp2_with fail
  go_ret
  exact ⟨by rw [HE.out] <;> rfl, Below.refl _ _⟩
 case pos =>
 have hlen2 : (l.length : Int) = (m.length : Int) := by omega
 have hlen3 : ((l.length : Int) != (m.length : Int)) = false := by simpa using hlen2
 go_wp2_with fail
 clear hlen3
 go_loopw [13] (fun i wr => ∃ k : Nat, i = .int .i64 (k : Int) ∧ k ≤ l.length ∧ Hid (sameL sInt (l.drop k) (m.drop k) = res) ∧ Hid (Below w.heap.size w wr)) (fun i _ => l.length - (intOf i).toNat)
 case atStart => exact ⟨0, rfl, Nat.zero_le _, Lib.hid HRES.out.symm, Lib.hid (Below.refl _ _)⟩
 case round =>
  obtain ⟨k, rfl, hk, HG, HB⟩ := hrel
  obtain ⟨wi, rfl⟩ : ∃ wi : World, wi = wr := ⟨_, rfl⟩
  by_cases hlt : k < l.length
  case neg =>
   have hlt3 : ¬ (k : Int) < (l.length : Int) := by omega
   have HE : Hid (res = true) := Lib.hid (by rw [← HG.out]; exact sameL_end (by omega) (by omega))
   go_wp2_with fail
   go_ret
   exact ⟨by rw [HE.out] <;> rfl, HB.out⟩
  case pos =>
   have hlt' : k < m.length := by omega
   have hlt3 : (k : Int) < (l.length : Int) := by omega
   have hlt4 : (k : Int) < (m.length : Int) := by omega
   obtain ⟨b, off, rfl, hF, hcl⟩ := RdE.at_ (K := 1) (enc := intE) (fun _ => rfl) (by omega) (HV.out.below HB.out) hlt
   obtain ⟨b', off', rfl, hF', hcl'⟩ := RdE.at_ (K := 1) (enc := intE) (fun _ => rfl) (by omega) (HU.out.below HB.out) hlt'
   have HBL := Lib.hid hF
   have HBM := Lib.hid hF'
   have hcx := hcl k hlt
   have hcy := hcl' k hlt'
   have hg := HG.out
   rw [sameL_at hlt hlt'] at hg
   obtain ⟨x, hx⟩ : ∃ x, x = l[k] := ⟨_, rfl⟩
   obtain ⟨y, hy⟩ : ∃ y, y = m[k] := ⟨_, rfl⟩
   rw [← hx] at hcx hg
   rw [← hy] at hcy hg
   obtain ⟨bo, hbo⟩ : ∃ bo, bo = sInt x y := ⟨_, rfl⟩
   rw [← hbo] at hg
   have HG2 := Lib.hid hg
   clear hx hy hcl hcl' hF hF' hg HG
   obtain ⟨x1, hx1⟩ : ∃ z, z = x := ⟨_, rfl⟩
   obtain ⟨y1, hy1⟩ : ∃ z, z = y := ⟨_, rfl⟩
   subst hx1; subst hy1
   have g0 : wi.cell? ⟨b, off + k, none⟩ = some (.int .i64 x1) := by have h := hcx 0 (.int .i64 x1) (by decide) rfl; rw [Nat.mul_one, Nat.add_zero] at h; exact h
   have h0 : wi.cell? ⟨b', off' + k, none⟩ = some (.int .i64 y1) := by have h := hcy 0 (.int .i64 y1) (by decide) rfl; rw [Nat.mul_one, Nat.add_zero] at h; exact h
   have HRX : Hid (bo = (decide (x1 = y1))) := Lib.hid hbo
   clear hcx hcy hbo
   go_wp2_with fail
   by_cases tt18 : x1 = y1
   case neg =>
    have gg18 : Hid (decide (x1 = y1) = false) := Lib.hid (decide_eq_false tt18)
    have ee18 : (x1 == y1) = false := by simpa using tt18
    have ff18 : (x1 != y1) = true := by simpa using tt18
    have HF : Hid (bo = false) := Lib.hid (by rw [HRX.out, gg18.out] <;> simp)
    have HE : Hid (res = false) := Lib.hid (by rw [← HG2.out, HF.out]; rfl)
    refine wp_region_noPanic ?_
    refine wp_region_held_drew (S := (fun w' => Below wi.heap.size wi w')) (by kernel_rfl) ?_ (fun hHeld => ?_)
    ·exact (Below.refl _ _).drew
    refine heldTake 0 (some 16) (v := ?_) rfl rfl (by kernel_rfl) (by kernel_rfl) (by kernel_rfl) (by rfl) hHeld (fun _ _ _ h => h) ?_ ?_
    rotate_left
    ·intro w' hSw; (try dsimp only at hSw); go_simp <;> with_reducible rfl
    simp only [Act.put, List.setIfInBounds_toArray, List.set_cons_zero, List.set_cons_succ]
    refine heldTake 1 (some 17) (v := ?_) rfl rfl (by kernel_rfl) (by kernel_rfl) (by kernel_rfl) (by rfl) hHeld (fun _ _ _ h => h) ?_ ?_
    rotate_left
    ·intro w' hSw; (try dsimp only at hSw); go_simp <;> with_reducible rfl
    simp only [Act.put, List.setIfInBounds_toArray, List.set_cons_zero, List.set_cons_succ]
    refine heldTake 2 (some 18) (v := ?_) rfl rfl (by kernel_rfl) (by kernel_rfl) (by kernel_rfl) (by rfl) hHeld (fun _ _ _ h => h) ?_ ?_
    rotate_left
    ·intro w' hSw; (try dsimp only at hSw); go_simp <;> with_reducible rfl
    simp only [Act.put, List.setIfInBounds_toArray, List.set_cons_zero, List.set_cons_succ]
    refine heldTake 3 (some 19) (v := ?_) rfl rfl (by kernel_rfl) (by kernel_rfl) (by kernel_rfl) (by rfl) hHeld (fun _ _ _ h => h) ?_ ?_
    rotate_left
    ·intro w' hSw; (try dsimp only at hSw); have q0 : w'.cell? ⟨b, off + k, none⟩ = some (.int .i64 x1) := (World.cell?_of_block (hSw.block _ HBL.out)).trans g0; go_simp <;> with_reducible rfl
    simp only [Act.put, List.setIfInBounds_toArray, List.set_cons_zero, List.set_cons_succ]
    refine heldTake 4 (some 20) (v := ?_) rfl rfl (by kernel_rfl) (by kernel_rfl) (by kernel_rfl) (by rfl) hHeld (fun _ _ _ h => h) ?_ ?_
    rotate_left
    ·intro w' hSw; (try dsimp only at hSw); go_simp <;> with_reducible rfl
    simp only [Act.put, List.setIfInBounds_toArray, List.set_cons_zero, List.set_cons_succ]
    refine heldTake 5 (some 21) (v := ?_) rfl rfl (by kernel_rfl) (by kernel_rfl) (by kernel_rfl) (by rfl) hHeld (fun _ _ _ h => h) ?_ ?_
    rotate_left
    ·intro w' hSw; (try dsimp only at hSw); go_simp <;> with_reducible rfl
    simp only [Act.put, List.setIfInBounds_toArray, List.set_cons_zero, List.set_cons_succ]
    refine heldTake 6 (some 22) (v := ?_) rfl rfl (by kernel_rfl) (by kernel_rfl) (by kernel_rfl) (by rfl) hHeld (fun _ _ _ h => h) ?_ ?_
    rotate_left
    ·intro w' hSw; (try dsimp only at hSw); go_simp <;> with_reducible rfl
    simp only [Act.put, List.setIfInBounds_toArray, List.set_cons_zero, List.set_cons_succ]
    refine heldTake 7 (some 23) (v := ?_) rfl rfl (by kernel_rfl) (by kernel_rfl) (by kernel_rfl) (by rfl) hHeld (fun _ _ _ h => h) ?_ ?_
    rotate_left
    ·intro w' hSw; (try dsimp only at hSw); have q0 : w'.cell? ⟨b', off' + k, none⟩ = some (.int .i64 y1) := (World.cell?_of_block (hSw.block _ HBM.out)).trans h0; go_simp <;> with_reducible rfl
    simp only [Act.put, List.setIfInBounds_toArray, List.set_cons_zero, List.set_cons_succ]
    refine heldTake 8 (some 24) (v := ?_) rfl rfl (by kernel_rfl) (by kernel_rfl) (by kernel_rfl) (by rfl) hHeld (fun _ _ _ h => h) ?_ ?_
    rotate_left
    ·intro w' hSw; (try dsimp only at hSw); go_simp <;> with_reducible rfl
    simp only [Act.put, List.setIfInBounds_toArray, List.set_cons_zero, List.set_cons_succ]
    refine wpAnyH_done (by kernel_rfl) ?_ _
    refine NoPanic.normal ?_
    go_wp2_with fail
    go_ret
    exact ⟨by rw [HE.out] <;> rfl, HB.out.drew⟩
   case pos =>
    have GG18 : Hid (decide (x1 = y1) = true) := Lib.hid (decide_eq_true tt18)
    have ee18 : (x1 == y1) = true := by simpa using tt18
    have ff18 : (x1 != y1) = false := by simpa using tt18
    clear tt18
    have HF : Hid (bo = true) := Lib.hid (by rw [HRX.out, GG18.out] <;> first | rfl | (simp; done))
    have HN : Hid (sameL sInt (l.drop (k + 1)) (m.drop (k + 1)) = res) := Lib.hid (by rw [← HG2.out, HF.out]; simp)
    refine wp_region_noPanic ?_
    refine wp_region_held_drew (S := (fun w' => Below wi.heap.size wi w')) (by kernel_rfl) ?_ (fun hHeld => ?_)
    ·exact (Below.refl _ _).drew
    refine heldTake 0 (some 16) (v := ?_) rfl rfl (by kernel_rfl) (by kernel_rfl) (by kernel_rfl) (by rfl) hHeld (fun _ _ _ h => h) ?_ ?_
    rotate_left
    ·intro w' hSw; (try dsimp only at hSw); go_simp <;> with_reducible rfl
    simp only [Act.put, List.setIfInBounds_toArray, List.set_cons_zero, List.set_cons_succ]
    refine heldTake 1 (some 17) (v := ?_) rfl rfl (by kernel_rfl) (by kernel_rfl) (by kernel_rfl) (by rfl) hHeld (fun _ _ _ h => h) ?_ ?_
    rotate_left
    ·intro w' hSw; (try dsimp only at hSw); go_simp <;> with_reducible rfl
    simp only [Act.put, List.setIfInBounds_toArray, List.set_cons_zero, List.set_cons_succ]
    refine heldTake 2 (some 18) (v := ?_) rfl rfl (by kernel_rfl) (by kernel_rfl) (by kernel_rfl) (by rfl) hHeld (fun _ _ _ h => h) ?_ ?_
    rotate_left
    ·intro w' hSw; (try dsimp only at hSw); go_simp <;> with_reducible rfl
    simp only [Act.put, List.setIfInBounds_toArray, List.set_cons_zero, List.set_cons_succ]
    refine heldTake 3 (some 19) (v := ?_) rfl rfl (by kernel_rfl) (by kernel_rfl) (by kernel_rfl) (by rfl) hHeld (fun _ _ _ h => h) ?_ ?_
    rotate_left
    ·intro w' hSw; (try dsimp only at hSw); have q0 : w'.cell? ⟨b, off + k, none⟩ = some (.int .i64 x1) := (World.cell?_of_block (hSw.block _ HBL.out)).trans g0; go_simp <;> with_reducible rfl
    simp only [Act.put, List.setIfInBounds_toArray, List.set_cons_zero, List.set_cons_succ]
    refine heldTake 4 (some 20) (v := ?_) rfl rfl (by kernel_rfl) (by kernel_rfl) (by kernel_rfl) (by rfl) hHeld (fun _ _ _ h => h) ?_ ?_
    rotate_left
    ·intro w' hSw; (try dsimp only at hSw); go_simp <;> with_reducible rfl
    simp only [Act.put, List.setIfInBounds_toArray, List.set_cons_zero, List.set_cons_succ]
    refine heldTake 5 (some 21) (v := ?_) rfl rfl (by kernel_rfl) (by kernel_rfl) (by kernel_rfl) (by rfl) hHeld (fun _ _ _ h => h) ?_ ?_
    rotate_left
    ·intro w' hSw; (try dsimp only at hSw); go_simp <;> with_reducible rfl
    simp only [Act.put, List.setIfInBounds_toArray, List.set_cons_zero, List.set_cons_succ]
    refine heldTake 6 (some 22) (v := ?_) rfl rfl (by kernel_rfl) (by kernel_rfl) (by kernel_rfl) (by rfl) hHeld (fun _ _ _ h => h) ?_ ?_
    rotate_left
    ·intro w' hSw; (try dsimp only at hSw); go_simp <;> with_reducible rfl
    simp only [Act.put, List.setIfInBounds_toArray, List.set_cons_zero, List.set_cons_succ]
    refine heldTake 7 (some 23) (v := ?_) rfl rfl (by kernel_rfl) (by kernel_rfl) (by kernel_rfl) (by rfl) hHeld (fun _ _ _ h => h) ?_ ?_
    rotate_left
    ·intro w' hSw; (try dsimp only at hSw); have q0 : w'.cell? ⟨b', off' + k, none⟩ = some (.int .i64 y1) := (World.cell?_of_block (hSw.block _ HBM.out)).trans h0; go_simp <;> with_reducible rfl
    simp only [Act.put, List.setIfInBounds_toArray, List.set_cons_zero, List.set_cons_succ]
    refine heldTake 8 (some 24) (v := ?_) rfl rfl (by kernel_rfl) (by kernel_rfl) (by kernel_rfl) (by rfl) hHeld (fun _ _ _ h => h) ?_ ?_
    rotate_left
    ·intro w' hSw; (try dsimp only at hSw); go_simp <;> with_reducible rfl
    simp only [Act.put, List.setIfInBounds_toArray, List.set_cons_zero, List.set_cons_succ]
    refine wpAnyH_done (by kernel_rfl) ?_ _
    refine NoPanic.normal ?_
    go_wp2_with fail
    go_roundw
    case rel => exact ⟨k + 1, by go_num, hlt, HN, Lib.hid HB.out.drew⟩
    case measure => simp [intOf]; omega
set_option maxRecDepth 1000000 in
set_option maxHeartbeats 8000000 in
theorem likeRow_any (v u : Value) (l m : List Val) (w : World) (hv : RdE 3 Val.cells w (· < w.heap.size) v l) (hu : RdE 3 Val.cells w (· < w.heap.size) u m) :
  Calls Tryz.prog 179 #[v, u] w fun e w' => e = .returned (.bool (sameL sVal l m)) ∧ Below w.heap.size w w' := by
 obtain ⟨A, c, rfl, a1, a2, a3⟩ := Rd.open_ (show Rd w _ 3 v l.length (l.flatMap Val.cells) from hv)
 obtain ⟨A', c', rfl, b1, b2, b3⟩ := Rd.open_ (show Rd w _ 3 u m.length (m.flatMap Val.cells) from hu)
 unfold maxLen at a2 b2
 have HV := Lib.hid hv
 have HU := Lib.hid hu
 obtain ⟨res, hres⟩ : ∃ r, r = sameL sVal l m := ⟨_, rfl⟩
 rw [← hres]
 have HRES := Lib.hid hres
 clear hv hu hres a3 b3
 go_enter Tryz.func179, Tryz.ntmps179
 by_cases hlen : l.length = m.length
 case neg =>
  have HE : Hid (res = false) := Lib.hid (by rw [HRES.out]; exact sameL_len hlen)
  have hlen2 : ¬ (l.length : Int) = (m.length : Int) := by omega
  have hlen3 : ((l.length : Int) != (m.length : Int)) = true := by simpa using hlen2
  go_wp2_with fail
  go_ret
  exact ⟨by rw [HE.out] <;> rfl, Below.refl _ _⟩
 case pos =>
 have hlen2 : (l.length : Int) = (m.length : Int) := by omega
 have hlen3 : ((l.length : Int) != (m.length : Int)) = false := by simpa using hlen2
 go_wp2_with fail
 clear hlen3
 go_loopw [13] (fun i wr => ∃ k : Nat, i = .int .i64 (k : Int) ∧ k ≤ l.length ∧ Hid (sameL sVal (l.drop k) (m.drop k) = res) ∧ Hid (Below w.heap.size w wr)) (fun i _ => l.length - (intOf i).toNat)
 case atStart => exact ⟨0, rfl, Nat.zero_le _, Lib.hid HRES.out.symm, Lib.hid (Below.refl _ _)⟩
 case round =>
  obtain ⟨k, rfl, hk, HG, HB⟩ := hrel
  obtain ⟨wi, rfl⟩ : ∃ wi : World, wi = wr := ⟨_, rfl⟩
  by_cases hlt : k < l.length
  case neg =>
   have hlt3 : ¬ (k : Int) < (l.length : Int) := by omega
   have HE : Hid (res = true) := Lib.hid (by rw [← HG.out]; exact sameL_end (by omega) (by omega))
   go_wp2_with fail
   go_ret
   exact ⟨by rw [HE.out] <;> rfl, HB.out⟩
  case pos =>
   have hlt' : k < m.length := by omega
   have hlt3 : (k : Int) < (l.length : Int) := by omega
   have hlt4 : (k : Int) < (m.length : Int) := by omega
   obtain ⟨b, off, rfl, hF, hcl⟩ := RdE.at_ (K := 3) (enc := Val.cells) (fun _ => rfl) (by omega) (HV.out.below HB.out) hlt
   obtain ⟨b', off', rfl, hF', hcl'⟩ := RdE.at_ (K := 3) (enc := Val.cells) (fun _ => rfl) (by omega) (HU.out.below HB.out) hlt'
   have HBL := Lib.hid hF
   have HBM := Lib.hid hF'
   have hcx := hcl k hlt
   have hcy := hcl' k hlt'
   have hg := HG.out
   rw [sameL_at hlt hlt'] at hg
   obtain ⟨x, hx⟩ : ∃ x, x = l[k] := ⟨_, rfl⟩
   obtain ⟨y, hy⟩ : ∃ y, y = m[k] := ⟨_, rfl⟩
   rw [← hx] at hcx hg
   rw [← hy] at hcy hg
   obtain ⟨bo, hbo⟩ : ∃ bo, bo = sVal x y := ⟨_, rfl⟩
   rw [← hbo] at hg
   have HG2 := Lib.hid hg
   clear hx hy hcl hcl' hF hF' hg HG
   obtain ⟨x1, x2, x3⟩ := x
   obtain ⟨y1, y2, y3⟩ := y
   
   have g0 : wi.cell? ⟨b, off + k * 3, none⟩ = some (.int .i64 x1) := hcx 0 _ (by decide) rfl
   have g1 : wi.cell? ⟨b, off + k * 3 + 1, none⟩ = some (.int .i64 x2) := hcx 1 _ (by decide) rfl
   have g2 : wi.cell? ⟨b, off + k * 3 + 2, none⟩ = some (.string x3) := hcx 2 _ (by decide) rfl
   have h0 : wi.cell? ⟨b', off' + k * 3, none⟩ = some (.int .i64 y1) := hcy 0 _ (by decide) rfl
   have h1 : wi.cell? ⟨b', off' + k * 3 + 1, none⟩ = some (.int .i64 y2) := hcy 1 _ (by decide) rfl
   have h2 : wi.cell? ⟨b', off' + k * 3 + 2, none⟩ = some (.string y3) := hcy 2 _ (by decide) rfl
   have HRX : Hid (bo = (decide (x1 = y1) && (decide (x2 = y2) && (eqS x3 y3)))) := Lib.hid hbo
   clear hcx hcy hbo
   go_wp2_with fail
   by_cases tt19 : x1 = y1
   case neg =>
    have gg19 : Hid (decide (x1 = y1) = false) := Lib.hid (decide_eq_false tt19)
    have ee19 : (x1 == y1) = false := by simpa using tt19
    have ff19 : (x1 != y1) = true := by simpa using tt19
    have HF : Hid (bo = false) := Lib.hid (by rw [HRX.out, gg19.out] <;> simp)
    have HE : Hid (res = false) := Lib.hid (by rw [← HG2.out, HF.out]; rfl)
    refine wp_region_noPanic ?_
    refine wp_region_held_drew (S := (fun w' => Below wi.heap.size wi w')) (by kernel_rfl) ?_ (fun hHeld => ?_)
    ·exact (Below.refl _ _).drew
    refine heldTake 0 (some 16) (v := ?_) rfl rfl (by kernel_rfl) (by kernel_rfl) (by kernel_rfl) (by rfl) hHeld (fun _ _ _ h => h) ?_ ?_
    rotate_left
    ·intro w' hSw; (try dsimp only at hSw); go_simp <;> with_reducible rfl
    simp only [Act.put, List.setIfInBounds_toArray, List.set_cons_zero, List.set_cons_succ]
    refine heldTake 1 (some 17) (v := ?_) rfl rfl (by kernel_rfl) (by kernel_rfl) (by kernel_rfl) (by rfl) hHeld (fun _ _ _ h => h) ?_ ?_
    rotate_left
    ·intro w' hSw; (try dsimp only at hSw); go_simp <;> with_reducible rfl
    simp only [Act.put, List.setIfInBounds_toArray, List.set_cons_zero, List.set_cons_succ]
    refine heldTake 2 (some 18) (v := ?_) rfl rfl (by kernel_rfl) (by kernel_rfl) (by kernel_rfl) (by rfl) hHeld (fun _ _ _ h => h) ?_ ?_
    rotate_left
    ·intro w' hSw; (try dsimp only at hSw); go_simp <;> with_reducible rfl
    simp only [Act.put, List.setIfInBounds_toArray, List.set_cons_zero, List.set_cons_succ]
    refine heldTake 3 (some 19) (v := ?_) rfl rfl (by kernel_rfl) (by kernel_rfl) (by kernel_rfl) (by rfl) hHeld (fun _ _ _ h => h) ?_ ?_
    rotate_left
    ·intro w' hSw; (try dsimp only at hSw); have q0 : w'.cell? ⟨b, off + k * 3, none⟩ = some (.int .i64 x1) := (World.cell?_of_block (hSw.block _ HBL.out)).trans g0; have q1 : w'.cell? ⟨b, off + k * 3 + 1, none⟩ = some (.int .i64 x2) := (World.cell?_of_block (hSw.block _ HBL.out)).trans g1; have q2 : w'.cell? ⟨b, off + k * 3 + 2, none⟩ = some (.string x3) := (World.cell?_of_block (hSw.block _ HBL.out)).trans g2; go_simp <;> with_reducible rfl
    simp only [Act.put, List.setIfInBounds_toArray, List.set_cons_zero, List.set_cons_succ]
    refine heldTake 4 (some 20) (v := ?_) rfl rfl (by kernel_rfl) (by kernel_rfl) (by kernel_rfl) (by rfl) hHeld (fun _ _ _ h => h) ?_ ?_
    rotate_left
    ·intro w' hSw; (try dsimp only at hSw); go_simp <;> with_reducible rfl
    simp only [Act.put, List.setIfInBounds_toArray, List.set_cons_zero, List.set_cons_succ]
    refine heldTake 5 (some 21) (v := ?_) rfl rfl (by kernel_rfl) (by kernel_rfl) (by kernel_rfl) (by rfl) hHeld (fun _ _ _ h => h) ?_ ?_
    rotate_left
    ·intro w' hSw; (try dsimp only at hSw); go_simp <;> with_reducible rfl
    simp only [Act.put, List.setIfInBounds_toArray, List.set_cons_zero, List.set_cons_succ]
    refine heldTake 6 (some 22) (v := ?_) rfl rfl (by kernel_rfl) (by kernel_rfl) (by kernel_rfl) (by rfl) hHeld (fun _ _ _ h => h) ?_ ?_
    rotate_left
    ·intro w' hSw; (try dsimp only at hSw); go_simp <;> with_reducible rfl
    simp only [Act.put, List.setIfInBounds_toArray, List.set_cons_zero, List.set_cons_succ]
    refine heldTake 7 (some 23) (v := ?_) rfl rfl (by kernel_rfl) (by kernel_rfl) (by kernel_rfl) (by rfl) hHeld (fun _ _ _ h => h) ?_ ?_
    rotate_left
    ·intro w' hSw; (try dsimp only at hSw); have q0 : w'.cell? ⟨b', off' + k * 3, none⟩ = some (.int .i64 y1) := (World.cell?_of_block (hSw.block _ HBM.out)).trans h0; have q1 : w'.cell? ⟨b', off' + k * 3 + 1, none⟩ = some (.int .i64 y2) := (World.cell?_of_block (hSw.block _ HBM.out)).trans h1; have q2 : w'.cell? ⟨b', off' + k * 3 + 2, none⟩ = some (.string y3) := (World.cell?_of_block (hSw.block _ HBM.out)).trans h2; go_simp <;> with_reducible rfl
    simp only [Act.put, List.setIfInBounds_toArray, List.set_cons_zero, List.set_cons_succ]
    refine heldTake 8 (some 24) (v := ?_) rfl rfl (by kernel_rfl) (by kernel_rfl) (by kernel_rfl) (by rfl) hHeld (fun _ _ _ h => h) ?_ ?_
    rotate_left
    ·intro w' hSw; (try dsimp only at hSw); go_simp <;> with_reducible rfl
    simp only [Act.put, List.setIfInBounds_toArray, List.set_cons_zero, List.set_cons_succ]
    refine wpAnyH_done (by kernel_rfl) ?_ _
    refine NoPanic.normal ?_
    go_wp2_with fail
    go_ret
    exact ⟨by rw [HE.out] <;> rfl, HB.out.drew⟩
   case pos =>
    have GG19 : Hid (decide (x1 = y1) = true) := Lib.hid (decide_eq_true tt19)
    have ee19 : (x1 == y1) = true := by simpa using tt19
    have ff19 : (x1 != y1) = false := by simpa using tt19
    clear tt19
    by_cases tt20 : x2 = y2
    case neg =>
     have gg20 : Hid (decide (x2 = y2) = false) := Lib.hid (decide_eq_false tt20)
     have ee20 : (x2 == y2) = false := by simpa using tt20
     have ff20 : (x2 != y2) = true := by simpa using tt20
     have HF : Hid (bo = false) := Lib.hid (by rw [HRX.out, GG19.out, gg20.out] <;> simp)
     have HE : Hid (res = false) := Lib.hid (by rw [← HG2.out, HF.out]; rfl)
     refine wp_region_noPanic ?_
     refine wp_region_held_drew (S := (fun w' => Below wi.heap.size wi w')) (by kernel_rfl) ?_ (fun hHeld => ?_)
     ·exact (Below.refl _ _).drew
     refine heldTake 0 (some 16) (v := ?_) rfl rfl (by kernel_rfl) (by kernel_rfl) (by kernel_rfl) (by rfl) hHeld (fun _ _ _ h => h) ?_ ?_
     rotate_left
     ·intro w' hSw; (try dsimp only at hSw); go_simp <;> with_reducible rfl
     simp only [Act.put, List.setIfInBounds_toArray, List.set_cons_zero, List.set_cons_succ]
     refine heldTake 1 (some 17) (v := ?_) rfl rfl (by kernel_rfl) (by kernel_rfl) (by kernel_rfl) (by rfl) hHeld (fun _ _ _ h => h) ?_ ?_
     rotate_left
     ·intro w' hSw; (try dsimp only at hSw); go_simp <;> with_reducible rfl
     simp only [Act.put, List.setIfInBounds_toArray, List.set_cons_zero, List.set_cons_succ]
     refine heldTake 2 (some 18) (v := ?_) rfl rfl (by kernel_rfl) (by kernel_rfl) (by kernel_rfl) (by rfl) hHeld (fun _ _ _ h => h) ?_ ?_
     rotate_left
     ·intro w' hSw; (try dsimp only at hSw); go_simp <;> with_reducible rfl
     simp only [Act.put, List.setIfInBounds_toArray, List.set_cons_zero, List.set_cons_succ]
     refine heldTake 3 (some 19) (v := ?_) rfl rfl (by kernel_rfl) (by kernel_rfl) (by kernel_rfl) (by rfl) hHeld (fun _ _ _ h => h) ?_ ?_
     rotate_left
     ·intro w' hSw; (try dsimp only at hSw); have q0 : w'.cell? ⟨b, off + k * 3, none⟩ = some (.int .i64 x1) := (World.cell?_of_block (hSw.block _ HBL.out)).trans g0; have q1 : w'.cell? ⟨b, off + k * 3 + 1, none⟩ = some (.int .i64 x2) := (World.cell?_of_block (hSw.block _ HBL.out)).trans g1; have q2 : w'.cell? ⟨b, off + k * 3 + 2, none⟩ = some (.string x3) := (World.cell?_of_block (hSw.block _ HBL.out)).trans g2; go_simp <;> with_reducible rfl
     simp only [Act.put, List.setIfInBounds_toArray, List.set_cons_zero, List.set_cons_succ]
     refine heldTake 4 (some 20) (v := ?_) rfl rfl (by kernel_rfl) (by kernel_rfl) (by kernel_rfl) (by rfl) hHeld (fun _ _ _ h => h) ?_ ?_
     rotate_left
     ·intro w' hSw; (try dsimp only at hSw); go_simp <;> with_reducible rfl
     simp only [Act.put, List.setIfInBounds_toArray, List.set_cons_zero, List.set_cons_succ]
     refine heldTake 5 (some 21) (v := ?_) rfl rfl (by kernel_rfl) (by kernel_rfl) (by kernel_rfl) (by rfl) hHeld (fun _ _ _ h => h) ?_ ?_
     rotate_left
     ·intro w' hSw; (try dsimp only at hSw); go_simp <;> with_reducible rfl
     simp only [Act.put, List.setIfInBounds_toArray, List.set_cons_zero, List.set_cons_succ]
     refine heldTake 6 (some 22) (v := ?_) rfl rfl (by kernel_rfl) (by kernel_rfl) (by kernel_rfl) (by rfl) hHeld (fun _ _ _ h => h) ?_ ?_
     rotate_left
     ·intro w' hSw; (try dsimp only at hSw); go_simp <;> with_reducible rfl
     simp only [Act.put, List.setIfInBounds_toArray, List.set_cons_zero, List.set_cons_succ]
     refine heldTake 7 (some 23) (v := ?_) rfl rfl (by kernel_rfl) (by kernel_rfl) (by kernel_rfl) (by rfl) hHeld (fun _ _ _ h => h) ?_ ?_
     rotate_left
     ·intro w' hSw; (try dsimp only at hSw); have q0 : w'.cell? ⟨b', off' + k * 3, none⟩ = some (.int .i64 y1) := (World.cell?_of_block (hSw.block _ HBM.out)).trans h0; have q1 : w'.cell? ⟨b', off' + k * 3 + 1, none⟩ = some (.int .i64 y2) := (World.cell?_of_block (hSw.block _ HBM.out)).trans h1; have q2 : w'.cell? ⟨b', off' + k * 3 + 2, none⟩ = some (.string y3) := (World.cell?_of_block (hSw.block _ HBM.out)).trans h2; go_simp <;> with_reducible rfl
     simp only [Act.put, List.setIfInBounds_toArray, List.set_cons_zero, List.set_cons_succ]
     refine heldTake 8 (some 24) (v := ?_) rfl rfl (by kernel_rfl) (by kernel_rfl) (by kernel_rfl) (by rfl) hHeld (fun _ _ _ h => h) ?_ ?_
     rotate_left
     ·intro w' hSw; (try dsimp only at hSw); go_simp <;> with_reducible rfl
     simp only [Act.put, List.setIfInBounds_toArray, List.set_cons_zero, List.set_cons_succ]
     refine wpAnyH_done (by kernel_rfl) ?_ _
     refine NoPanic.normal ?_
     go_wp2_with fail
     go_ret
     exact ⟨by rw [HE.out] <;> rfl, HB.out.drew⟩
    case pos =>
     have GG20 : Hid (decide (x2 = y2) = true) := Lib.hid (decide_eq_true tt20)
     have ee20 : (x2 == y2) = true := by simpa using tt20
     have ff20 : (x2 != y2) = false := by simpa using tt20
     clear tt20
     cases ee21 : (x3.toList == y3.toList)
     case false =>
      have gg21 : Hid (eqS x3 y3 = false) := Lib.hid ee21
      have ff21 : (x3.toList != y3.toList) = true := by rw [bne, ee21]; rfl
      have HF : Hid (bo = false) := Lib.hid (by rw [HRX.out, GG19.out, GG20.out, gg21.out] <;> simp)
      have HE : Hid (res = false) := Lib.hid (by rw [← HG2.out, HF.out]; rfl)
      refine wp_region_noPanic ?_
      refine wp_region_held_drew (S := (fun w' => Below wi.heap.size wi w')) (by kernel_rfl) ?_ (fun hHeld => ?_)
      ·exact (Below.refl _ _).drew
      refine heldTake 0 (some 16) (v := ?_) rfl rfl (by kernel_rfl) (by kernel_rfl) (by kernel_rfl) (by rfl) hHeld (fun _ _ _ h => h) ?_ ?_
      rotate_left
      ·intro w' hSw; (try dsimp only at hSw); go_simp <;> with_reducible rfl
      simp only [Act.put, List.setIfInBounds_toArray, List.set_cons_zero, List.set_cons_succ]
      refine heldTake 1 (some 17) (v := ?_) rfl rfl (by kernel_rfl) (by kernel_rfl) (by kernel_rfl) (by rfl) hHeld (fun _ _ _ h => h) ?_ ?_
      rotate_left
      ·intro w' hSw; (try dsimp only at hSw); go_simp <;> with_reducible rfl
      simp only [Act.put, List.setIfInBounds_toArray, List.set_cons_zero, List.set_cons_succ]
      refine heldTake 2 (some 18) (v := ?_) rfl rfl (by kernel_rfl) (by kernel_rfl) (by kernel_rfl) (by rfl) hHeld (fun _ _ _ h => h) ?_ ?_
      rotate_left
      ·intro w' hSw; (try dsimp only at hSw); go_simp <;> with_reducible rfl
      simp only [Act.put, List.setIfInBounds_toArray, List.set_cons_zero, List.set_cons_succ]
      refine heldTake 3 (some 19) (v := ?_) rfl rfl (by kernel_rfl) (by kernel_rfl) (by kernel_rfl) (by rfl) hHeld (fun _ _ _ h => h) ?_ ?_
      rotate_left
      ·intro w' hSw; (try dsimp only at hSw); have q0 : w'.cell? ⟨b, off + k * 3, none⟩ = some (.int .i64 x1) := (World.cell?_of_block (hSw.block _ HBL.out)).trans g0; have q1 : w'.cell? ⟨b, off + k * 3 + 1, none⟩ = some (.int .i64 x2) := (World.cell?_of_block (hSw.block _ HBL.out)).trans g1; have q2 : w'.cell? ⟨b, off + k * 3 + 2, none⟩ = some (.string x3) := (World.cell?_of_block (hSw.block _ HBL.out)).trans g2; go_simp <;> with_reducible rfl
      simp only [Act.put, List.setIfInBounds_toArray, List.set_cons_zero, List.set_cons_succ]
      refine heldTake 4 (some 20) (v := ?_) rfl rfl (by kernel_rfl) (by kernel_rfl) (by kernel_rfl) (by rfl) hHeld (fun _ _ _ h => h) ?_ ?_
      rotate_left
      ·intro w' hSw; (try dsimp only at hSw); go_simp <;> with_reducible rfl
      simp only [Act.put, List.setIfInBounds_toArray, List.set_cons_zero, List.set_cons_succ]
      refine heldTake 5 (some 21) (v := ?_) rfl rfl (by kernel_rfl) (by kernel_rfl) (by kernel_rfl) (by rfl) hHeld (fun _ _ _ h => h) ?_ ?_
      rotate_left
      ·intro w' hSw; (try dsimp only at hSw); go_simp <;> with_reducible rfl
      simp only [Act.put, List.setIfInBounds_toArray, List.set_cons_zero, List.set_cons_succ]
      refine heldTake 6 (some 22) (v := ?_) rfl rfl (by kernel_rfl) (by kernel_rfl) (by kernel_rfl) (by rfl) hHeld (fun _ _ _ h => h) ?_ ?_
      rotate_left
      ·intro w' hSw; (try dsimp only at hSw); go_simp <;> with_reducible rfl
      simp only [Act.put, List.setIfInBounds_toArray, List.set_cons_zero, List.set_cons_succ]
      refine heldTake 7 (some 23) (v := ?_) rfl rfl (by kernel_rfl) (by kernel_rfl) (by kernel_rfl) (by rfl) hHeld (fun _ _ _ h => h) ?_ ?_
      rotate_left
      ·intro w' hSw; (try dsimp only at hSw); have q0 : w'.cell? ⟨b', off' + k * 3, none⟩ = some (.int .i64 y1) := (World.cell?_of_block (hSw.block _ HBM.out)).trans h0; have q1 : w'.cell? ⟨b', off' + k * 3 + 1, none⟩ = some (.int .i64 y2) := (World.cell?_of_block (hSw.block _ HBM.out)).trans h1; have q2 : w'.cell? ⟨b', off' + k * 3 + 2, none⟩ = some (.string y3) := (World.cell?_of_block (hSw.block _ HBM.out)).trans h2; go_simp <;> with_reducible rfl
      simp only [Act.put, List.setIfInBounds_toArray, List.set_cons_zero, List.set_cons_succ]
      refine heldTake 8 (some 24) (v := ?_) rfl rfl (by kernel_rfl) (by kernel_rfl) (by kernel_rfl) (by rfl) hHeld (fun _ _ _ h => h) ?_ ?_
      rotate_left
      ·intro w' hSw; (try dsimp only at hSw); go_simp <;> with_reducible rfl
      simp only [Act.put, List.setIfInBounds_toArray, List.set_cons_zero, List.set_cons_succ]
      refine wpAnyH_done (by kernel_rfl) ?_ _
      refine NoPanic.normal ?_
      go_wp2_with fail
      go_ret
      exact ⟨by rw [HE.out] <;> rfl, HB.out.drew⟩
     case true =>
      have GG21 : Hid (eqS x3 y3 = true) := Lib.hid ee21
      have ff21 : (x3.toList != y3.toList) = false := by rw [bne, ee21]; rfl
      have HF : Hid (bo = true) := Lib.hid (by rw [HRX.out, GG19.out, GG20.out, GG21.out] <;> first | rfl | (simp; done))
      have HN : Hid (sameL sVal (l.drop (k + 1)) (m.drop (k + 1)) = res) := Lib.hid (by rw [← HG2.out, HF.out]; simp)
      refine wp_region_noPanic ?_
      refine wp_region_held_drew (S := (fun w' => Below wi.heap.size wi w')) (by kernel_rfl) ?_ (fun hHeld => ?_)
      ·exact (Below.refl _ _).drew
      refine heldTake 0 (some 16) (v := ?_) rfl rfl (by kernel_rfl) (by kernel_rfl) (by kernel_rfl) (by rfl) hHeld (fun _ _ _ h => h) ?_ ?_
      rotate_left
      ·intro w' hSw; (try dsimp only at hSw); go_simp <;> with_reducible rfl
      simp only [Act.put, List.setIfInBounds_toArray, List.set_cons_zero, List.set_cons_succ]
      refine heldTake 1 (some 17) (v := ?_) rfl rfl (by kernel_rfl) (by kernel_rfl) (by kernel_rfl) (by rfl) hHeld (fun _ _ _ h => h) ?_ ?_
      rotate_left
      ·intro w' hSw; (try dsimp only at hSw); go_simp <;> with_reducible rfl
      simp only [Act.put, List.setIfInBounds_toArray, List.set_cons_zero, List.set_cons_succ]
      refine heldTake 2 (some 18) (v := ?_) rfl rfl (by kernel_rfl) (by kernel_rfl) (by kernel_rfl) (by rfl) hHeld (fun _ _ _ h => h) ?_ ?_
      rotate_left
      ·intro w' hSw; (try dsimp only at hSw); go_simp <;> with_reducible rfl
      simp only [Act.put, List.setIfInBounds_toArray, List.set_cons_zero, List.set_cons_succ]
      refine heldTake 3 (some 19) (v := ?_) rfl rfl (by kernel_rfl) (by kernel_rfl) (by kernel_rfl) (by rfl) hHeld (fun _ _ _ h => h) ?_ ?_
      rotate_left
      ·intro w' hSw; (try dsimp only at hSw); have q0 : w'.cell? ⟨b, off + k * 3, none⟩ = some (.int .i64 x1) := (World.cell?_of_block (hSw.block _ HBL.out)).trans g0; have q1 : w'.cell? ⟨b, off + k * 3 + 1, none⟩ = some (.int .i64 x2) := (World.cell?_of_block (hSw.block _ HBL.out)).trans g1; have q2 : w'.cell? ⟨b, off + k * 3 + 2, none⟩ = some (.string x3) := (World.cell?_of_block (hSw.block _ HBL.out)).trans g2; go_simp <;> with_reducible rfl
      simp only [Act.put, List.setIfInBounds_toArray, List.set_cons_zero, List.set_cons_succ]
      refine heldTake 4 (some 20) (v := ?_) rfl rfl (by kernel_rfl) (by kernel_rfl) (by kernel_rfl) (by rfl) hHeld (fun _ _ _ h => h) ?_ ?_
      rotate_left
      ·intro w' hSw; (try dsimp only at hSw); go_simp <;> with_reducible rfl
      simp only [Act.put, List.setIfInBounds_toArray, List.set_cons_zero, List.set_cons_succ]
      refine heldTake 5 (some 21) (v := ?_) rfl rfl (by kernel_rfl) (by kernel_rfl) (by kernel_rfl) (by rfl) hHeld (fun _ _ _ h => h) ?_ ?_
      rotate_left
      ·intro w' hSw; (try dsimp only at hSw); go_simp <;> with_reducible rfl
      simp only [Act.put, List.setIfInBounds_toArray, List.set_cons_zero, List.set_cons_succ]
      refine heldTake 6 (some 22) (v := ?_) rfl rfl (by kernel_rfl) (by kernel_rfl) (by kernel_rfl) (by rfl) hHeld (fun _ _ _ h => h) ?_ ?_
      rotate_left
      ·intro w' hSw; (try dsimp only at hSw); go_simp <;> with_reducible rfl
      simp only [Act.put, List.setIfInBounds_toArray, List.set_cons_zero, List.set_cons_succ]
      refine heldTake 7 (some 23) (v := ?_) rfl rfl (by kernel_rfl) (by kernel_rfl) (by kernel_rfl) (by rfl) hHeld (fun _ _ _ h => h) ?_ ?_
      rotate_left
      ·intro w' hSw; (try dsimp only at hSw); have q0 : w'.cell? ⟨b', off' + k * 3, none⟩ = some (.int .i64 y1) := (World.cell?_of_block (hSw.block _ HBM.out)).trans h0; have q1 : w'.cell? ⟨b', off' + k * 3 + 1, none⟩ = some (.int .i64 y2) := (World.cell?_of_block (hSw.block _ HBM.out)).trans h1; have q2 : w'.cell? ⟨b', off' + k * 3 + 2, none⟩ = some (.string y3) := (World.cell?_of_block (hSw.block _ HBM.out)).trans h2; go_simp <;> with_reducible rfl
      simp only [Act.put, List.setIfInBounds_toArray, List.set_cons_zero, List.set_cons_succ]
      refine heldTake 8 (some 24) (v := ?_) rfl rfl (by kernel_rfl) (by kernel_rfl) (by kernel_rfl) (by rfl) hHeld (fun _ _ _ h => h) ?_ ?_
      rotate_left
      ·intro w' hSw; (try dsimp only at hSw); go_simp <;> with_reducible rfl
      simp only [Act.put, List.setIfInBounds_toArray, List.set_cons_zero, List.set_cons_succ]
      refine wpAnyH_done (by kernel_rfl) ?_ _
      refine NoPanic.normal ?_
      go_wp2_with fail
      go_roundw
      case rel => exact ⟨k + 1, by go_num, hlt, HN, Lib.hid HB.out.drew⟩
      case measure => simp [intOf]; omega
end Go.Proofs.YtbfdegkickjbpaaGreat
