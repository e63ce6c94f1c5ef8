/-
  The reference's encoding of versions.
-/
import Derived.Test.YtacjiocffbgkkaaGreatSegG
namespace Go.Proofs.YtacjiocffbgkkaaGreat
open Go.RowKit Go.Lib Go.IntWalk Go.Sort Go.Shelf

theorem valid_bds {x : Ver} (hval : validVer x = true) : bd64 x.id ∧ bd64 x.sch ∧ bd64 x.vf ∧ bd64 x.vt ∧ bd64 x.sf ∧ bd64 x.st ∧ bd64 x.by_ ∧ bd64 x.un := by
  have q := hval
  unfold validVer in50 in64 num50 validP at q
  simp only [Bool.and_eq_true, decide_eq_true_eq] at q
  obtain ⟨q1, q2, q3, _, ⟨⟨q4, q5⟩, q6⟩, ⟨⟨q7, q8⟩, q9⟩, q10⟩ := q
  unfold bd64
  omega
set_option maxRecDepth 1000000 in
set_option maxHeartbeats 8000000 in
theorem refPutVersions_any (u : Value) (v : Value) (l : List UInt8) (ps : List VP) (w : World) (hu : RdB w (· < w.heap.size) u l) (hv : RdVs w (· < w.heap.size) v ps) (hval : ∀ p ∈ ps, validVer p.2 = true) (hl : l.length ≤ 1099511627776) (hp : ps.length ≤ 1048576) :
    Calls Tryz.prog 58 #[u, v] w (NewB w (l ++ encVsB (ps.map (·.2)))) := by
  obtain ⟨A, c, rfl, hc1, hc2, hc3⟩ := hv.1.open_
  unfold maxLen at hc2
  have HV := Lib.hid hv
  have HVAL := Lib.hid hval
  obtain ⟨xs, hxs⟩ : ∃ xs, xs = ps.map (·.2) := ⟨_, rfl⟩
  rw [← hxs]
  have hxl : xs.length = ps.length := by rw [hxs, List.length_map]
  have K1 := refPutInt_any u l (ps.length : Nat) w (by omega) (by omega) hu (by omega)
  obtain ⟨l0, hl0⟩ : ∃ l0, l0 = l ++ encI (ps.length : Nat) := ⟨_, rfl⟩
  rw [← hl0] at K1
  have hres : l ++ encVsB xs = l0 ++ encVers xs := by rw [hl0, encVsB, hxl]; simp
  rw [hres]
  have hl0l : l0.length ≤ 1099511627786 := by rw [hl0, List.length_append]; have := encI_length (ps.length : Nat); omega
  have HXS := Lib.hid hxs
  have HXL := Lib.hid hxl
  have hle : ∀ k, (encVers (xs.take k)).length ≤ 2600 * k := fun k => encVers_le xs (fun x hx => by
    rw [hxs] at hx
    obtain ⟨p, hp, rfl⟩ := List.mem_map.1 hx
    exact (encVer_le (hval p hp) ((hv.2 p hp).ok)).1) k
  have HLE := Lib.hid hle
  clear hv hu hval hxs hxl hres hl0 hle hc3
  go_enter Tryz.func58, Tryz.ntmps58
  go_wp2_with fail
  (with_reducible refine K1.mono ?_)
  rintro _ w1 ⟨v0, rfl, hO0, hb0⟩
  have HO1 : Hid (OwnB w1 w.heap.size v0 (l0 ++ encVers (xs.take 0))) := Lib.hid (hO0.cast (by simp [encVers]))
  clear K1 hO0
  go_wp2_with fail
  go_loopw [0, 13] (fun b i wr => ∃ k : Nat, i = .int .i64 (k : Int) ∧ k ≤ ps.length ∧ Hid (OwnB wr w.heap.size b (l0 ++ encVers (xs.take k))) ∧ Below w.heap.size w wr) (fun _ i _ => ps.length - (intOf i).toNat)
  case atStart => exact ⟨0, rfl, Nat.zero_le _, HO1, hb0⟩
  case round =>
    obtain ⟨k, rfl, hk, HO, hB⟩ := hrel
    obtain ⟨wi, rfl⟩ : ∃ wi : World, wi = wr := ⟨_, rfl⟩
    have hsi := hB.size
    by_cases hlt : k < ps.length
    case neg =>
      have HF := Lib.hid (HO.out.cast (b := l0 ++ encVers xs) (by rw [List.take_of_length_le (by have := HXL.out; omega)]))
      go_wp2_with fail
      go_ret
      exact ⟨_, rfl, HF.out, hB⟩
    case pos =>
      obtain ⟨b, off, rfl, hF, hcl, hx⟩ := RdVs.at_ (HV.out.below hB) hlt
      have hsn := encVers_snoc (xs := xs) (k := k) (by have := HXL.out; omega)
      have hxk : xs[k]'(by have := HXL.out; omega) = ps[k].2 := by
        have := HXS.out
        subst this
        rw [List.getElem_map]
      rw [hxk] at hsn
      have hval := HVAL.out _ (List.getElem_mem hlt)
      have hlk := HLE.out k
      generalize ps[k] = p at *
      obtain ⟨⟨x1, x2, xA, xn, xc, x3, x4, x5, x6, x7, x8⟩, x⟩ := p
      simp only at hcl hx hsn hval
      have g0 : wi.cell? ⟨b, off + k * 9, none⟩ = some (.int .i64 x1) := hcl 0 _ (by decide) rfl
      have g1 : wi.cell? ⟨b, off + k * 9 + 1, none⟩ = some (.int .i64 x2) := hcl 1 _ (by decide) rfl
      have g2 : wi.cell? ⟨b, off + k * 9 + 2, none⟩ = some (.slice xA xn xc) := hcl 2 _ (by decide) rfl
      have g3 : wi.cell? ⟨b, off + k * 9 + 3, none⟩ = some (.int .i64 x3) := hcl 3 _ (by decide) rfl
      have g4 : wi.cell? ⟨b, off + k * 9 + 4, none⟩ = some (.int .i64 x4) := hcl 4 _ (by decide) rfl
      have g5 : wi.cell? ⟨b, off + k * 9 + 5, none⟩ = some (.int .i64 x5) := hcl 5 _ (by decide) rfl
      have g6 : wi.cell? ⟨b, off + k * 9 + 6, none⟩ = some (.int .i64 x6) := hcl 6 _ (by decide) rfl
      have g7 : wi.cell? ⟨b, off + k * 9 + 7, none⟩ = some (.int .i64 x7) := hcl 7 _ (by decide) rfl
      have g8 : wi.cell? ⟨b, off + k * 9 + 8, none⟩ = some (.int .i64 x8) := hcl 8 _ (by decide) rfl
      obtain ⟨hle1, hput, hrl⟩ := encVer_le hval hx.ok
      obtain ⟨⟨a1, a1'⟩, ⟨a2, a2'⟩, ⟨a3, a3'⟩, ⟨a4, a4'⟩, ⟨a5, a5'⟩, ⟨a6, a6'⟩, ⟨a7, a7'⟩, ⟨a8, a8'⟩⟩ := valid_bds hval
      rw [← hx.id] at a1 a1'
      rw [← hx.sch] at a2 a2'
      rw [← hx.vf] at a3 a3'
      rw [← hx.vt] at a4 a4'
      rw [← hx.sf] at a5 a5'
      rw [← hx.st] at a6 a6'
      rw [← hx.by_] at a7 a7'
      rw [← hx.un] at a8 a8'
      simp only at a1 a1' a2 a2' a3 a3' a4 a4' a5 a5' a6 a6' a7 a7' a8 a8'
      obtain ⟨L, hL⟩ : ∃ L, L = l0 ++ encVers (xs.take k) := ⟨_, rfl⟩
      have hLl : L.length ≤ 1102300000000 := by rw [hL, List.length_append]; omega
      have hfin : l0 ++ encVers (xs.take (k + 1)) = ((((((L ++ encI x1) ++ encI x2) ++ encR x.row) ++ (encI x3 ++ encI x4)) ++ (encI x5 ++ encI x6)) ++ encI x7) ++ encI x8 := by
        rw [hsn, ← List.append_assoc, ← hL, encVer, ← hx.id, ← hx.sch, ← hx.vf, ← hx.vt, ← hx.sf, ← hx.st, ← hx.by_, ← hx.un]
        simp [List.append_assoc]
      have HO1 : Hid (RdB wi (· < wi.heap.size) u0 L) := Lib.hid (by rw [hL]; exact HO.out.rd)
      have e1 := encI_length x1; have e2 := encI_length x2; have e3 := encI_length x3; have e4 := encI_length x4; have e5 := encI_length x5; have e6 := encI_length x6; have e7 := encI_length x7
      have KA : ∀ v W, RdB W (· < W.heap.size) v L → Calls Tryz.prog 31 #[v, .int .i64 x1] W (NewB W (L ++ encI x1)) := fun v W h => refPutInt_any v L x1 W a1 a1' h (by omega)
      have l1 : (L ++ encI x1).length ≤ L.length + 10 := by rw [List.length_append]; omega
      obtain ⟨L1, hL1⟩ : ∃ L1, L1 = L ++ encI x1 := ⟨_, rfl⟩
      rw [← hL1] at KA hfin l1
      have KB : ∀ v W, RdB W (· < W.heap.size) v L1 → Calls Tryz.prog 31 #[v, .int .i64 x2] W (NewB W (L1 ++ encI x2)) := fun v W h => refPutInt_any v L1 x2 W a2 a2' h (by omega)
      have l2 : (L1 ++ encI x2).length ≤ L1.length + 10 := by rw [List.length_append]; omega
      obtain ⟨L2, hL2⟩ : ∃ L2, L2 = L1 ++ encI x2 := ⟨_, rfl⟩
      rw [← hL2] at KB hfin l2
      have KR : ∀ v W, RdB W (· < W.heap.size) v L2 → Below wi.heap.size wi W → Calls Tryz.prog 127 #[v, .slice xA xn xc] W (NewB W (L2 ++ encR x.row)) := fun v W h hW => refPutRow_any v _ L2 x.row W h ((Rd.keep hx.row (Keeps.below hW)).wide (fun b (hb : b < wi.heap.size) => by show b < W.heap.size; have := hW.size; omega)) hput (by omega)
      have l3 : (L2 ++ encR x.row).length ≤ L2.length + 2446 := by rw [List.length_append]; omega
      obtain ⟨L3, hL3⟩ : ∃ L3, L3 = L2 ++ encR x.row := ⟨_, rfl⟩
      rw [← hL3] at KR hfin l3
      have KP : ∀ v W, RdB W (· < W.heap.size) v L3 → Calls Tryz.prog 34 #[v, .agg #[.int .i64 x3, .int .i64 x4]] W (NewB W (L3 ++ (encI x3 ++ encI x4))) := fun v W h => refPutPeriod_any v L3 x3 x4 W a3 a3' a4 a4' h (by omega)
      have l4 : (L3 ++ (encI x3 ++ encI x4)).length ≤ L3.length + 20 := by simp only [List.length_append]; omega
      obtain ⟨L4, hL4⟩ : ∃ L4, L4 = L3 ++ (encI x3 ++ encI x4) := ⟨_, rfl⟩
      rw [← hL4] at KP hfin l4
      have KQ : ∀ v W, RdB W (· < W.heap.size) v L4 → Calls Tryz.prog 34 #[v, .agg #[.int .i64 x5, .int .i64 x6]] W (NewB W (L4 ++ (encI x5 ++ encI x6))) := fun v W h => refPutPeriod_any v L4 x5 x6 W a5 a5' a6 a6' h (by omega)
      have l5 : (L4 ++ (encI x5 ++ encI x6)).length ≤ L4.length + 20 := by simp only [List.length_append]; omega
      obtain ⟨L5, hL5⟩ : ∃ L5, L5 = L4 ++ (encI x5 ++ encI x6) := ⟨_, rfl⟩
      rw [← hL5] at KQ hfin l5
      have KC : ∀ v W, RdB W (· < W.heap.size) v L5 → Calls Tryz.prog 31 #[v, .int .i64 x7] W (NewB W (L5 ++ encI x7)) := fun v W h => refPutInt_any v L5 x7 W a7 a7' h (by omega)
      have l6 : (L5 ++ encI x7).length ≤ L5.length + 10 := by rw [List.length_append]; omega
      obtain ⟨L6, hL6⟩ : ∃ L6, L6 = L5 ++ encI x7 := ⟨_, rfl⟩
      rw [← hL6] at KC hfin l6
      have KD : ∀ v W, RdB W (· < W.heap.size) v L6 → Calls Tryz.prog 31 #[v, .int .i64 x8] W (NewB W (L6 ++ encI x8)) := fun v W h => refPutInt_any v L6 x8 W a8 a8' h (by omega)
      obtain ⟨L7, hL7⟩ : ∃ L7, L7 = L6 ++ encI x8 := ⟨_, rfl⟩
      rw [← hL7] at KD hfin
      have HFIN := Lib.hid hfin
      obtain ⟨wb, hwb⟩ : ∃ wb, wb = wi.alloc (.cells #[.int .i64 x1, .int .i64 x2, .slice xA xn xc, .int .i64 x3, .int .i64 x4, .int .i64 x5, .int .i64 x6, .int .i64 x7, .int .i64 x8] 61) := ⟨_, rfl⟩
      have hbb : Below wi.heap.size wi wb := by rw [hwb]; exact Below.of_alloc _
      have hV : wb.heap[wi.heap.size]? = some (.cells #[.int .i64 x1, .int .i64 x2, .slice xA xn xc, .int .i64 x3, .int .i64 x4, .int .i64 x5, .int .i64 x6, .int .i64 x7, .int .i64 x8] 61 (0, 0)) := by rw [hwb]; exact heap_alloc_new _ _
      have hVl : wi.heap.size < wb.heap.size := by rw [hwb]; simp
      clear hcl hx hsn hlk hL hL1 hL2 hL3 hL4 hL5 hL6 hL7 hfin hxk hval hle1 hput hrl HO
      go_wp2_with fail
      rw [← hwb]
      clear hwb g0 g1 g2 g3 g4 g5 g6 g7 g8
      have HB := Lib.hid hbb
      have HV5 := Lib.hid hV
      clear hbb hV
      have hR0 := HO1.out.below HB.out
      refine wp_region_noPanic ?_
      refine wp_region_held_drew (S := (fun w' => Below wb.heap.size wb w')) (by kernel_rfl) ?_ (fun hHeld => ?_)
      · exact (Below.refl _ _).drew
      refine heldTake 0 (some 17) (v := ?_) rfl rfl (by kernel_rfl) (by kernel_rfl) (by kernel_rfl) (by rfl) hHeld (fun _ _ _ h => h) ?_ ?_
      rotate_left
      · intro w' hSw; (try dsimp only at hSw); go_simp <;> with_reducible rfl
      simp only [Act.put, List.setIfInBounds_toArray, List.set_cons_zero, List.set_cons_succ]
      refine heldTake 1 (some 18) (v := ?_) rfl rfl (by kernel_rfl) (by kernel_rfl) (by kernel_rfl) (by rfl) hHeld (fun _ _ _ h => h) ?_ ?_
      rotate_left
      · intro w' hSw; (try dsimp only at hSw); go_simp <;> with_reducible rfl
      simp only [Act.put, List.setIfInBounds_toArray, List.set_cons_zero, List.set_cons_succ]
      refine heldTake 2 (some 19) (v := ?_) rfl rfl (by kernel_rfl) (by kernel_rfl) (by kernel_rfl) (by rfl) hHeld (fun _ _ _ h => h) ?_ ?_
      rotate_left
      · intro w' hSw; (try dsimp only at hSw); have q0 : w'.cell? ⟨wi.heap.size, 0, none⟩ = some (.int .i64 x1) := (World.cell?_of_block ((Below.trans (Below.refl wb.heap.size wb) (hSw.mono ((Below.refl wb.heap.size wb)).size)).block wi.heap.size hVl)).trans (cell_of_row wb wi.heap.size 0 _ _ _ HV5.out); go_simp <;> with_reducible rfl
      simp only [Act.put, List.setIfInBounds_toArray, List.set_cons_zero, List.set_cons_succ]
      refine heldTake 4 (some 21) (v := ?_) rfl rfl (by kernel_rfl) (by kernel_rfl) (by kernel_rfl) (by rfl) hHeld (fun _ _ _ h => h) ?_ ?_
      rotate_left
      · intro w' hSw; (try dsimp only at hSw); go_simp <;> with_reducible rfl
      simp only [Act.put, List.setIfInBounds_toArray, List.set_cons_zero, List.set_cons_succ]
      refine heldTake 5 (some 22) (v := ?_) rfl rfl (by kernel_rfl) (by kernel_rfl) (by kernel_rfl) (by rfl) hHeld (fun _ _ _ h => h) ?_ ?_
      rotate_left
      · intro w' hSw; (try dsimp only at hSw); have q1 : w'.cell? ⟨wi.heap.size, 1, none⟩ = some (.int .i64 x2) := (World.cell?_of_block ((Below.trans (Below.refl wb.heap.size wb) (hSw.mono ((Below.refl wb.heap.size wb)).size)).block wi.heap.size hVl)).trans (cell_of_row wb wi.heap.size 1 _ _ _ HV5.out); go_simp <;> with_reducible rfl
      simp only [Act.put, List.setIfInBounds_toArray, List.set_cons_zero, List.set_cons_succ]
      refine heldTake 7 (some 24) (v := ?_) rfl rfl (by kernel_rfl) (by kernel_rfl) (by kernel_rfl) (by rfl) hHeld (fun _ _ _ h => h) ?_ ?_
      rotate_left
      · intro w' hSw; (try dsimp only at hSw); go_simp <;> with_reducible rfl
      simp only [Act.put, List.setIfInBounds_toArray, List.set_cons_zero, List.set_cons_succ]
      refine heldTake 8 (some 25) (v := ?_) rfl rfl (by kernel_rfl) (by kernel_rfl) (by kernel_rfl) (by rfl) hHeld (fun _ _ _ h => h) ?_ ?_
      rotate_left
      · intro w' hSw; (try dsimp only at hSw); have q2 : w'.cell? ⟨wi.heap.size, 2, none⟩ = some (.slice xA xn xc) := (World.cell?_of_block ((Below.trans (Below.refl wb.heap.size wb) (hSw.mono ((Below.refl wb.heap.size wb)).size)).block wi.heap.size hVl)).trans (cell_of_row wb wi.heap.size 2 _ _ _ HV5.out); go_simp <;> with_reducible rfl
      simp only [Act.put, List.setIfInBounds_toArray, List.set_cons_zero, List.set_cons_succ]
      refine heldCall 3 (some 20) (f := ?_) (args := ?_) rfl rfl (by kernel_rfl) (by rfl) ?_ ?_
      rotate_left 2
      · go_simp <;> first | (constructor <;> with_reducible rfl) | with_reducible rfl
      (with_reducible refine (KA _ _ (hR0.below (Below.refl _ _).drew)).mono ?_)
      rintro _ w2 ⟨v1, rfl, hO1, hb1'⟩
      have hb1 : Below wb.heap.size wb w2 := Below.undrew hb1'
      have hR1 := hO1.rd
      refine ⟨_, rfl, keepAnd ?_ (fun hNew => ?_)⟩
      · exact hb1
      clear hHeld
      have hHeld := hNew
      clear hNew
      simp only [Act.put, List.setIfInBounds_toArray, List.set_cons_zero, List.set_cons_succ]
      refine heldCall 6 (some 23) (f := ?_) (args := ?_) rfl rfl (by kernel_rfl) (by rfl) ?_ ?_
      rotate_left 2
      · go_simp <;> first | (constructor <;> with_reducible rfl) | with_reducible rfl
      (with_reducible refine (KB _ _ hR1).mono ?_)
      rintro _ w3 ⟨v2, rfl, hO2, hb2'⟩
      have hb2 : Below w2.heap.size w2 w3 := hb2'
      have hR2 := hO2.rd
      have hc2 : Below wb.heap.size wb w3 := hb1.trans (hb2.mono hb1.size)
      refine ⟨_, rfl, keepAnd ?_ (fun hNew => ?_)⟩
      · exact hc2
      clear hHeld
      have hHeld := hNew
      clear hNew
      simp only [Act.put, List.setIfInBounds_toArray, List.set_cons_zero, List.set_cons_succ]
      refine heldCall 9 (some 26) (f := ?_) (args := ?_) rfl rfl (by kernel_rfl) (by rfl) ?_ ?_
      rotate_left 2
      · go_simp <;> first | (constructor <;> with_reducible rfl) | with_reducible rfl
      (with_reducible refine (KR _ _ hR2 (HB.out.trans (hc2.mono HB.out.size))).mono ?_)
      rintro _ w4 ⟨v3, rfl, hO3, hb3'⟩
      have hb3 : Below w3.heap.size w3 w4 := hb3'
      have hR3 := hO3.rd
      have hc3 : Below wb.heap.size wb w4 := hc2.trans (hb3.mono hc2.size)
      refine ⟨_, rfl, keepAnd ?_ (fun hNew => ?_)⟩
      · exact hc3
      clear hHeld
      have hHeld := hNew
      clear hNew
      simp only [Act.put, List.setIfInBounds_toArray, List.set_cons_zero, List.set_cons_succ]
      refine heldTake 10 (some 0) (v := ?_) rfl rfl (by kernel_rfl) (by kernel_rfl) (by kernel_rfl) (by rfl) hHeld (fun _ _ _ h => h) ?_ ?_
      rotate_left
      · intro w' hSw; (try dsimp only at hSw); go_simp <;> with_reducible rfl
      simp only [Act.put, List.setIfInBounds_toArray, List.set_cons_zero]
      refine wpAnyH_done (by kernel_rfl) ?_ _
      refine NoPanic.normal ?_
      clear hHeld
      have HC3 := Lib.hid hc3
      have hR3' := Lib.hid hR3
      clear hR0 hR1 hR2 hO1 hO2 hO3 hb1 hb2 hb3 hb1' hb2' hb3' hc2 hc3 hR3 KA KB KR
      go_wp2_with fail
      have hR3 := hR3'.out
      refine wp_region_noPanic ?_
      refine wp_region_held_drew (S := (fun w' => Below w4.heap.size w4 w')) (by kernel_rfl) ?_ (fun hHeld => ?_)
      · exact (Below.refl _ _).drew
      refine heldTake 0 (some 27) (v := ?_) rfl rfl (by kernel_rfl) (by kernel_rfl) (by kernel_rfl) (by rfl) hHeld (fun _ _ _ h => h) ?_ ?_
      rotate_left
      · intro w' hSw; (try dsimp only at hSw); go_simp <;> with_reducible rfl
      simp only [Act.put, List.setIfInBounds_toArray, List.set_cons_zero, List.set_cons_succ]
      refine heldTake 1 (some 28) (v := ?_) rfl rfl (by kernel_rfl) (by kernel_rfl) (by kernel_rfl) (by rfl) hHeld (fun _ _ _ h => h) ?_ ?_
      rotate_left
      · intro w' hSw; (try dsimp only at hSw); go_simp <;> with_reducible rfl
      simp only [Act.put, List.setIfInBounds_toArray, List.set_cons_zero, List.set_cons_succ]
      refine heldTake 2 (some 29) (v := ?_) rfl rfl (by kernel_rfl) (by kernel_rfl) (by kernel_rfl) (by rfl) hHeld (fun _ _ _ h => h) ?_ ?_
      rotate_left
      · intro w' hSw; (try dsimp only at hSw); have q3 : w'.cell? ⟨wi.heap.size, 3, none⟩ = some (.int .i64 x3) := (World.cell?_of_block ((Below.trans HC3.out (hSw.mono (HC3.out).size)).block wi.heap.size hVl)).trans (cell_of_row wb wi.heap.size 3 _ _ _ HV5.out); have q4 : w'.cell? ⟨wi.heap.size, 4, none⟩ = some (.int .i64 x4) := (World.cell?_of_block ((Below.trans HC3.out (hSw.mono (HC3.out).size)).block wi.heap.size hVl)).trans (cell_of_row wb wi.heap.size 4 _ _ _ HV5.out); go_simp <;> with_reducible rfl
      simp only [Act.put, List.setIfInBounds_toArray, List.set_cons_zero, List.set_cons_succ]
      refine heldTake 4 (some 31) (v := ?_) rfl rfl (by kernel_rfl) (by kernel_rfl) (by kernel_rfl) (by rfl) hHeld (fun _ _ _ h => h) ?_ ?_
      rotate_left
      · intro w' hSw; (try dsimp only at hSw); go_simp <;> with_reducible rfl
      simp only [Act.put, List.setIfInBounds_toArray, List.set_cons_zero, List.set_cons_succ]
      refine heldTake 5 (some 32) (v := ?_) rfl rfl (by kernel_rfl) (by kernel_rfl) (by kernel_rfl) (by rfl) hHeld (fun _ _ _ h => h) ?_ ?_
      rotate_left
      · intro w' hSw; (try dsimp only at hSw); have q5 : w'.cell? ⟨wi.heap.size, 5, none⟩ = some (.int .i64 x5) := (World.cell?_of_block ((Below.trans HC3.out (hSw.mono (HC3.out).size)).block wi.heap.size hVl)).trans (cell_of_row wb wi.heap.size 5 _ _ _ HV5.out); have q6 : w'.cell? ⟨wi.heap.size, 6, none⟩ = some (.int .i64 x6) := (World.cell?_of_block ((Below.trans HC3.out (hSw.mono (HC3.out).size)).block wi.heap.size hVl)).trans (cell_of_row wb wi.heap.size 6 _ _ _ HV5.out); go_simp <;> with_reducible rfl
      simp only [Act.put, List.setIfInBounds_toArray, List.set_cons_zero, List.set_cons_succ]
      refine heldCall 3 (some 30) (f := ?_) (args := ?_) rfl rfl (by kernel_rfl) (by rfl) ?_ ?_
      rotate_left 2
      · go_simp <;> first | (constructor <;> with_reducible rfl) | with_reducible rfl
      (with_reducible refine (KP _ _ (hR3.below (Below.refl _ _).drew)).mono ?_)
      rintro _ w5 ⟨v4, rfl, hO4, hb4'⟩
      have hb4 : Below w4.heap.size w4 w5 := Below.undrew hb4'
      have hR4 := hO4.rd
      refine ⟨_, rfl, keepAnd ?_ (fun hNew => ?_)⟩
      · exact hb4
      clear hHeld
      have hHeld := hNew
      clear hNew
      simp only [Act.put, List.setIfInBounds_toArray, List.set_cons_zero, List.set_cons_succ]
      refine heldCall 6 (some 33) (f := ?_) (args := ?_) rfl rfl (by kernel_rfl) (by rfl) ?_ ?_
      rotate_left 2
      · go_simp <;> first | (constructor <;> with_reducible rfl) | with_reducible rfl
      (with_reducible refine (KQ _ _ hR4).mono ?_)
      rintro _ w6 ⟨v5, rfl, hO5, hb5'⟩
      have hb5 : Below w5.heap.size w5 w6 := hb5'
      have hR5 := hO5.rd
      have hc5 : Below w4.heap.size w4 w6 := hb4.trans (hb5.mono hb4.size)
      refine ⟨_, rfl, keepAnd ?_ (fun hNew => ?_)⟩
      · exact hc5
      clear hHeld
      have hHeld := hNew
      clear hNew
      simp only [Act.put, List.setIfInBounds_toArray, List.set_cons_zero, List.set_cons_succ]
      refine heldTake 7 (some 0) (v := ?_) rfl rfl (by kernel_rfl) (by kernel_rfl) (by kernel_rfl) (by rfl) hHeld (fun _ _ _ h => h) ?_ ?_
      rotate_left
      · intro w' hSw; (try dsimp only at hSw); go_simp <;> with_reducible rfl
      simp only [Act.put, List.setIfInBounds_toArray, List.set_cons_zero]
      refine wpAnyH_done (by kernel_rfl) ?_ _
      refine NoPanic.normal ?_
      clear hHeld
      have HC5 := Lib.hid (HC3.out.trans (hc5.mono HC3.out.size))
      have hR5' := Lib.hid hR5
      clear hR3 hR4 hR5 hO4 hO5 hb4 hb5 hb4' hb5' hc5 KP KQ
      go_wp2_with fail
      have hR5 := hR5'.out
      refine wp_region_noPanic ?_
      refine wp_region_held_drew (S := (fun w' => Below w6.heap.size w6 w')) (by kernel_rfl) ?_ (fun hHeld => ?_)
      · exact (Below.refl _ _).drew
      refine heldTake 0 (some 34) (v := ?_) rfl rfl (by kernel_rfl) (by kernel_rfl) (by kernel_rfl) (by rfl) hHeld (fun _ _ _ h => h) ?_ ?_
      rotate_left
      · intro w' hSw; (try dsimp only at hSw); go_simp <;> with_reducible rfl
      simp only [Act.put, List.setIfInBounds_toArray, List.set_cons_zero, List.set_cons_succ]
      refine heldTake 1 (some 35) (v := ?_) rfl rfl (by kernel_rfl) (by kernel_rfl) (by kernel_rfl) (by rfl) hHeld (fun _ _ _ h => h) ?_ ?_
      rotate_left
      · intro w' hSw; (try dsimp only at hSw); go_simp <;> with_reducible rfl
      simp only [Act.put, List.setIfInBounds_toArray, List.set_cons_zero, List.set_cons_succ]
      refine heldTake 2 (some 36) (v := ?_) rfl rfl (by kernel_rfl) (by kernel_rfl) (by kernel_rfl) (by rfl) hHeld (fun _ _ _ h => h) ?_ ?_
      rotate_left
      · intro w' hSw; (try dsimp only at hSw); have q7 : w'.cell? ⟨wi.heap.size, 7, none⟩ = some (.int .i64 x7) := (World.cell?_of_block ((Below.trans HC5.out (hSw.mono (HC5.out).size)).block wi.heap.size hVl)).trans (cell_of_row wb wi.heap.size 7 _ _ _ HV5.out); go_simp <;> with_reducible rfl
      simp only [Act.put, List.setIfInBounds_toArray, List.set_cons_zero, List.set_cons_succ]
      refine heldTake 4 (some 38) (v := ?_) rfl rfl (by kernel_rfl) (by kernel_rfl) (by kernel_rfl) (by rfl) hHeld (fun _ _ _ h => h) ?_ ?_
      rotate_left
      · intro w' hSw; (try dsimp only at hSw); go_simp <;> with_reducible rfl
      simp only [Act.put, List.setIfInBounds_toArray, List.set_cons_zero, List.set_cons_succ]
      refine heldTake 5 (some 39) (v := ?_) rfl rfl (by kernel_rfl) (by kernel_rfl) (by kernel_rfl) (by rfl) hHeld (fun _ _ _ h => h) ?_ ?_
      rotate_left
      · intro w' hSw; (try dsimp only at hSw); have q8 : w'.cell? ⟨wi.heap.size, 8, none⟩ = some (.int .i64 x8) := (World.cell?_of_block ((Below.trans HC5.out (hSw.mono (HC5.out).size)).block wi.heap.size hVl)).trans (cell_of_row wb wi.heap.size 8 _ _ _ HV5.out); go_simp <;> with_reducible rfl
      simp only [Act.put, List.setIfInBounds_toArray, List.set_cons_zero, List.set_cons_succ]
      refine heldCall 3 (some 37) (f := ?_) (args := ?_) rfl rfl (by kernel_rfl) (by rfl) ?_ ?_
      rotate_left 2
      · go_simp <;> first | (constructor <;> with_reducible rfl) | with_reducible rfl
      (with_reducible refine (KC _ _ (hR5.below (Below.refl _ _).drew)).mono ?_)
      rintro _ w7 ⟨v6, rfl, hO6, hb6'⟩
      have hb6 : Below w6.heap.size w6 w7 := Below.undrew hb6'
      have hR6 := hO6.rd
      refine ⟨_, rfl, keepAnd ?_ (fun hNew => ?_)⟩
      · exact hb6
      clear hHeld
      have hHeld := hNew
      clear hNew
      simp only [Act.put, List.setIfInBounds_toArray, List.set_cons_zero, List.set_cons_succ]
      refine heldCall 6 (some 40) (f := ?_) (args := ?_) rfl rfl (by kernel_rfl) (by rfl) ?_ ?_
      rotate_left 2
      · go_simp <;> first | (constructor <;> with_reducible rfl) | with_reducible rfl
      (with_reducible refine (KD _ _ hR6).mono ?_)
      rintro _ w8 ⟨v7, rfl, hO7, hb7'⟩
      have hb7 : Below w7.heap.size w7 w8 := hb7'
      have hR7 := hO7.rd
      have hc7 : Below w6.heap.size w6 w8 := hb6.trans (hb7.mono hb6.size)
      refine ⟨_, rfl, keepAnd ?_ (fun hNew => ?_)⟩
      · exact hc7
      clear hHeld
      have hHeld := hNew
      clear hNew
      simp only [Act.put, List.setIfInBounds_toArray, List.set_cons_zero, List.set_cons_succ]
      refine heldTake 7 (some 0) (v := ?_) rfl rfl (by kernel_rfl) (by kernel_rfl) (by kernel_rfl) (by rfl) hHeld (fun _ _ _ h => h) ?_ ?_
      rotate_left
      · intro w' hSw; (try dsimp only at hSw); go_simp <;> with_reducible rfl
      simp only [Act.put, List.setIfInBounds_toArray, List.set_cons_zero]
      refine wpAnyH_done (by kernel_rfl) ?_ _
      refine NoPanic.normal ?_
      clear hHeld
      have hBF : Below w.heap.size w w8 := hB.trans ((HB.out.trans ((HC5.out.trans (hc7.mono HC5.out.size)).mono HB.out.size)).mono hsi)
      have HOF : Hid (OwnB w8 w.heap.size v7 (l0 ++ encVers (xs.take (k + 1)))) := Lib.hid ((OwnB.base hO7 (by have h1 := HB.out.size; have h2 := HC5.out.size; have h3 := hb6.size; omega)).cast HFIN.out.symm)
      clear hR5 hR6 hR7 hO6 hO7 hb6 hb7 hb6' hb7' hc7 KC KD
      go_wp2_with fail
      go_roundw
      case rel => exact ⟨k + 1, by go_num, by omega, HOF, hBF⟩
      case measure => simp [intOf]; omega

def chkV (xs : List Ver) : Int := if 4096 < xs.length then 5 else chkFrom none xs
set_option maxRecDepth 1000000 in
set_option maxHeartbeats 4000000 in
theorem refCheckVersions_any (v : Value) (ps : List VP) (w : World) (hv : RdVs w (· < w.heap.size) v ps) :
    Calls Tryz.prog 57 #[v] w fun e w' => e = .returned (.int .i64 (chkV (ps.map (·.2)))) ∧ Below w.heap.size w w' := by
  have K := refVersions_any v ps w hv
  obtain ⟨A, c, rfl, hc1, hc2, hc3⟩ := hv.1.open_
  unfold maxLen at hc2
  obtain ⟨r, hr⟩ : ∃ r, r = chkFrom none (ps.map (·.2)) := ⟨_, rfl⟩
  have HR : Hid (chkV (ps.map (·.2)) = if 4096 < ps.length then 5 else r) := Lib.hid (by rw [chkV, List.length_map, hr])
  rw [← hr] at K
  clear hv hc3 hr
  by_cases h : 4096 < ps.length
  · have hi : (4096 : Int) < (ps.length : Int) := by omega
    rw [HR.out, if_pos h]
    go_enter Tryz.func57, Tryz.ntmps57
    go_wp2_with fail
    go_ret
    exact ⟨rfl, Below.refl _ _⟩
  · have hi : ¬ (4096 : Int) < (ps.length : Int) := by omega
    rw [HR.out, if_neg h]
    go_enter Tryz.func57, Tryz.ntmps57
    go_wp2_with fail
    (with_reducible refine K.mono ?_)
    rintro _ w2 ⟨rfl, hb2⟩
    go_wp2_with fail
    go_ret
    exact ⟨rfl, hb2⟩
set_option maxRecDepth 1000000 in
set_option maxHeartbeats 4000000 in
theorem refEncodeVersions_any (v : Value) (ps : List VP) (w : World) (hv : RdVs w (· < w.heap.size) v ps) :
    Calls Tryz.prog 23 #[v] w (EncVOut ps w) := by
  have KC := refCheckVersions_any v ps w hv
  have HV := Lib.hid hv
  obtain ⟨A, c, rfl, hc1, hc2, hc3⟩ := hv.1.open_
  unfold maxLen at hc2
  obtain ⟨r, hr⟩ : ∃ r, r = chkV (ps.map (·.2)) := ⟨_, rfl⟩
  have HE : Hid (encVsE (ps.map (·.2)) = if r ≠ 0 then r else if 1048576 < (encVsB (ps.map (·.2))).length then 5 else 0) := Lib.hid (by
    rw [hr, encVsE, chkV]
    split
    · rw [if_pos (by decide)]
    · rfl)
  have HR : Hid (r = 0 → ps.length ≤ 4096 ∧ ∀ p ∈ ps, validVer p.2 = true) := Lib.hid (fun h => by
    rw [hr, chkV] at h
    split at h
    · cases h
    · rename_i h1
      exact ⟨by rw [List.length_map] at h1; omega, fun p hp => chkFrom_valid h _ (List.mem_map_of_mem hp)⟩)
  rw [← hr] at KC
  clear hv hc3 hr
  go_enter Tryz.func23, Tryz.ntmps23
  go_wp2_with fail
  (with_reducible refine KC.mono ?_)
  rintro _ w2 ⟨rfl, hb2⟩
  by_cases h0 : r = 0
  case neg =>
    have HF : Hid (encVsE (ps.map (·.2)) = r) := Lib.hid (by rw [HE.out, if_pos h0])
    go_wp2_with fail
    go_ret2
    exact EncVOut.bad HF.out h0 rfl hb2
  case pos =>
    obtain ⟨h1, h2⟩ := HR.out h0
    have KP := refPutVersions_any (.slice none 0 0) _ [] ps w2 (RdB.nil _ _) (HV.out.below hb2) h2 (by simp) (by omega)
    rw [List.nil_append] at KP
    have HF : Hid (encVsE (ps.map (·.2)) = if 1048576 < (encVsB (ps.map (·.2))).length then 5 else 0) := Lib.hid (by rw [HE.out, if_neg (by simpa using h0)])
    obtain ⟨b, hb⟩ : ∃ b, b = encVsB (ps.map (·.2)) := ⟨_, rfl⟩
    rw [← hb] at KP
    have HBB := Lib.hid hb
    subst h0
    clear h2 hb
    go_wp2_with fail
    (with_reducible refine KP.mono ?_)
    rintro _ w3 ⟨v3, rfl, hO3, hb3⟩
    obtain ⟨A3, c3, rfl, y1, y2, y3⟩ := Rd.open_ hO3.rd
    unfold maxLen at y2
    have hB3 : Below w.heap.size w w3 := hb2.trans (hb3.mono hb2.size)
    have HO3 := Lib.hid (OwnB.base hO3 hb2.size)
    clear hO3 hb3 y3 KP KC
    by_cases hl : 1048576 < b.length
    · have hli : (1048576 : Int) < (b.length : Int) := by omega
      have HG : Hid (encVsE (ps.map (·.2)) = 5) := Lib.hid (by rw [HF.out, ← HBB.out]; exact if_pos hl)
      go_wp2_with fail
      go_ret2
      exact EncVOut.bad HG.out (by decide) rfl hB3
    · have hli : ¬ (1048576 : Int) < (b.length : Int) := by omega
      have HG : Hid (encVsE (ps.map (·.2)) = 0) := Lib.hid (by rw [HF.out, ← HBB.out]; exact if_neg hl)
      go_wp2_with fail
      go_ret2
      refine ⟨.slice A3 b.length c3, ?_, hB3, fun _ => by rw [← HBB.out]; exact HO3.out, fun h => absurd HG.out h⟩
      rw [HG.out]; rfl
end Go.Proofs.YtacjiocffbgkkaaGreat
