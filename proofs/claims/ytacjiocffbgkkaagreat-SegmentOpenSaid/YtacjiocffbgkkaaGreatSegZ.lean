/-
  The reference's Search.
-/
import Derived.Test.YtacjiocffbgkkaaGreatSegX
namespace Go.Proofs.YtacjiocffbgkkaaGreat
open Go.RowKit Go.Lib Go.IntWalk Go.Sort Go.Shelf

theorem filtP_map (r : Rec) (ps : List VP) : (ps.filter (fun p : VP => ovlR (recOf p.2) r)).map (·.2) = (ps.map (·.2)).filter (fun x => ovlR (recOf x) r) := by
  rw [List.filter_map]
  rfl
theorem filtL_map (r : Rec) (ls : List LVP) : (ls.filter (fun p : LVP => ovlR (bndF (p.2.map (·.2))) r)).length = ((ls.map fun p => p.2.map (·.2)).filter (fun c => ovlR (bndF c) r)).length := by
  rw [List.filter_map, List.length_map]
  rfl
theorem allP_flat (ls : List LVP) : (allP ls).map (·.2) = (ls.map fun p => p.2.map (·.2)).flatten := by
  unfold allP
  induction ls with
  | nil => rfl
  | cons p r ih => rw [List.flatMap_cons, List.map_append, List.map_cons, List.flatten_cons, ih]
theorem takeL_filt (f : LVP → Bool) {ls : List LVP} {k : Nat} (h : k < ls.length) : (ls.take (k + 1)).filter f = (ls.take k).filter f ++ (if f ls[k] = true then [ls[k]] else []) := by
  rw [List.take_succ_eq_append_getElem h, List.filter_append]
  congr 1
  simp only [List.filter_cons, List.filter_nil]
set_option maxRecDepth 1000000 in
set_option maxHeartbeats 16000000 in
theorem rSearch_any (t : ByteArray) (v : Value) (ls : List LVP) (a1 a2 a3 a4 : Int) (w : World) (hv : RdLL w (· < w.heap.size) v ls) (hn : (allP ls).length ≤ 1048576) (hl : ls.length ≤ 1048576) (hne : ∀ p ∈ ls, 0 < p.2.length) :
    Calls Tryz.prog 12 #[.agg #[.string t, v], .agg #[.int .i64 a1, .int .i64 a2, .int .i64 a3, .int .i64 a4]] w fun e w' => ∃ u, e = .returned (.tuple #[u, .int .i64 ((rsrchF (ls.map fun p => p.2.map (·.2)) (⟨a1, a2, a3, a4⟩ : Rec)).2 : Nat)]) ∧ RdVs w' (· < w'.heap.size) u ((allP ls).filter (fun p : VP => ovlR (recOf p.2) (⟨a1, a2, a3, a4⟩ : Rec))) ∧ Below w.heap.size w w' := by
  obtain ⟨A, c, rfl, hc1, hc2, hc3⟩ := hv.1.open_
  unfold maxLen at hc2
  obtain ⟨i0, hi, hz0, hz1, hz2⟩ := info_parts infoVer
  have HI := Lib.hid hi
  have HZ0 := Lib.hid hz0
  have HZ1 := Lib.hid hz1
  have HZ2 := Lib.hid hz2
  obtain ⟨W, hW⟩ : ∃ W, W = (w.alloc (.cells #[.string t, .slice A ls.length c] 38)).alloc (.cells #[.int .i64 a1, .int .i64 a2, .int .i64 a3, .int .i64 a4] 26) := ⟨_, rfl⟩
  have hbW : Below w.heap.size w W := by rw [hW]; exact (Below.of_alloc _).alloc (by simp) _
  have hB : (w.heap.size + 1) < W.heap.size := by rw [hW]; simp
  have hT : W.heap[(w.heap.size + 1)]? = some (.cells #[.int .i64 a1, .int .i64 a2, .int .i64 a3, .int .i64 a4] 26 (0, 0)) := by
    rw [hW]
    have := heap_alloc_new (w.alloc (.cells #[.string t, .slice A ls.length c] 38)) (.cells #[.int .i64 a1, .int .i64 a2, .int .i64 a3, .int .i64 a4] 26)
    simpa using this
  have HBW := Lib.hid hbW
  have HVW := Lib.hid (hv.below hbW)
  have HNE := Lib.hid hne
  have HNN := Lib.hid hn
  have HLN := Lib.hid hl
  have HTW := Lib.hid hT
  have HBL := Lib.hid hB
  obtain ⟨sm, hsm⟩ : ∃ s, s = (rsrchF (ls.map fun p => p.2.map (·.2)) (⟨a1, a2, a3, a4⟩ : Rec)).2 := ⟨_, rfl⟩
  rw [← hsm]
  have HSM : Hid (sm = (ls.filter (fun p : LVP => ovlR (bndF (p.2.map (·.2))) (⟨a1, a2, a3, a4⟩ : Rec))).length) := Lib.hid (by rw [hsm, rsrchF, filtL_map])
  clear hv hne hT hB hbW hi hz0 hz1 hz2 hsm hc3 hn
  have HWW : Hid (w.heap.size ≤ W.heap.size) := Lib.hid (by have := HBW.out.size; omega)
  go_enter Tryz.func12, Tryz.ntmps12
  go_wp2_with fail
  rw [← hW]
  clear hW
  go_loopw [6, 7, 15] (fun o n i wr => ∃ (k m : Nat), n = .int .i64 (m : Int) ∧ i = .int .i64 (k : Int) ∧ k ≤ ls.length ∧ m ≤ k ∧ Hid (OwnP wr W.heap.size o ((allP (ls.take k)).filter (fun p : VP => ovlR (recOf p.2) (⟨a1, a2, a3, a4⟩ : Rec)))) ∧ Hid (m = ((ls.take k).filter (fun p : LVP => ovlR (bndF (p.2.map (·.2))) (⟨a1, a2, a3, a4⟩ : Rec))).length) ∧ Hid (Below W.heap.size W wr)) (fun _ _ i _ => ls.length - (intOf i).toNat)
  case atStart => exact ⟨0, 0, rfl, rfl, Nat.zero_le _, Nat.le_refl _, Lib.hid (World.ownsRow_nil _ _ _ _), Lib.hid rfl, Lib.hid (Below.refl _ _)⟩
  case round =>
    obtain ⟨k, m, rfl, rfl, hk, hmk, HO, HMM, HB⟩ := hrel
    obtain ⟨wi, rfl⟩ : ∃ wi : World, wi = wr := ⟨_, rfl⟩
    by_cases hlt : k < ls.length
    case neg =>
      have hlt2 : ¬ (k : Int) < (ls.length : Int) := by omega
      have HKE : Hid (ls.take k = ls) := Lib.hid (List.take_of_length_le (by omega))
      have HFN : Hid (sm = m) := Lib.hid (by rw [HSM.out, HMM.out, HKE.out])
      go_wp2_with fail
      go_ret2
      rw [HFN.out]
      refine ⟨_, rfl, ⟨?_, fun p hp => ?_⟩, HBW.out.trans (HB.out.mono (by have := HWW.out; omega))⟩
      · have h := HO.out
        rw [HKE.out] at h
        exact (Rd.of_own h).wide (fun b hb => hb.2)
      · obtain ⟨q, hq, hpq⟩ := List.mem_flatMap.1 (List.mem_filter.1 hp).1
        exact ((HVW.out.below HB.out).2 q hq).2 p hpq
    case pos =>
      have hlt2 : (k : Int) < (ls.length : Int) := by omega
      obtain ⟨b, off, rfl, hF, hcl, hx⟩ := RdLL.at_ (HVW.out.below HB.out) hlt
      have hsn := allP_snoc hlt
      have hle := allP_le ls (k + 1)
      have htk := takeL_filt (fun p : LVP => ovlR (bndF (p.2.map (·.2))) (⟨a1, a2, a3, a4⟩ : Rec)) hlt
      have hpos := HNE.out _ (List.getElem_mem hlt)
      have hxw := HVW.out.2 _ (List.getElem_mem hlt)
      rw [hsn, List.length_append] at hle
      generalize ls[k] = p at *
      obtain ⟨pv, qs⟩ := p
      simp only at hcl hx hsn hle htk hpos hxw
      obtain ⟨pn, hpn⟩ : ∃ pn, pn = qs.length := ⟨_, rfl⟩
      obtain ⟨Ap, cp, rfl, y1, y2, y3⟩ := hx.1.open_
      unfold maxLen at y2
      rw [← hpn] at hcl hx y1 hle hxw
      have HPN := Lib.hid hpn
      have HXX := Lib.hid hxw
      clear hxw
      have HSN := Lib.hid hsn
      have HLE := Lib.hid hle
      obtain ⟨⟨r1, r2, r3, r4⟩, hr⟩ : ∃ r, r = bndF (qs.map (·.2)) := ⟨_, rfl⟩
      have KA : ∀ V, RdVs V (· < V.heap.size) (.slice Ap pn cp) qs → Calls Tryz.prog 33 #[.slice Ap pn cp] V fun e w' => e = .returned (.agg #[.int .i64 r1, .int .i64 r2, .int .i64 r3, .int .i64 r4]) ∧ Below V.heap.size V w' := fun V h => by
        have h2 := refAround_any _ qs V h hpos
        rw [← hr] at h2
        exact h2
      have HX6 : Hid (RdVs wi.drew (· < wi.drew.heap.size) (.slice Ap pn cp) qs) := Lib.hid (hx.below ((Below.refl _ _).drew))
      obtain ⟨vo, hvo⟩ : ∃ bo, bo = ovlR ⟨r1, r2, r3, r4⟩ (⟨a1, a2, a3, a4⟩ : Rec) := ⟨_, rfl⟩
      have KO := fun V => r31Ovl_any r1 r2 r3 r4 a1 a2 a3 a4 V
      rw [← hvo] at KO
      rw [← hr, ← hvo] at htk
      have HTK := Lib.hid htk
      have HTB : Hid (wi.heap[(w.heap.size + 1)]? = some (.cells #[.int .i64 a1, .int .i64 a2, .int .i64 a3, .int .i64 a4] 26 (0, 0))) := Lib.hid ((HB.out.block _ HBL.out).trans HTW.out)
      have HLB : Hid ((w.heap.size + 1) < wi.heap.size) := Lib.hid (by have := HBL.out; have := HB.out.size; omega)
      clear hsn hle htk hpos hpn hx hr hvo y3 hF
      go_wp2_with fail
      clear hcl
      refine wp_region_noPanic ?_
      refine wp_region_held_drew (S := (fun w' => Below wi.heap.size wi w')) (by kernel_rfl) ?_ (fun hHeld => ?_)
      · exact (Below.refl _ _).drew
      refine heldTake 0 (some 19) (v := ?_) rfl rfl (by kernel_rfl) (by kernel_rfl) (by kernel_rfl) (by rfl) hHeld (fun _ _ _ h => h) ?_ ?_
      rotate_left
      · intro w' hSw; (try dsimp only at hSw); go_simp <;> with_reducible rfl
      simp only [Act.put, List.setIfInBounds_toArray, List.set_cons_zero, List.set_cons_succ]
      refine heldTake 2 (some 21) (v := ?_) rfl rfl (by kernel_rfl) (by kernel_rfl) (by kernel_rfl) (by rfl) hHeld (fun _ _ _ h => h) ?_ ?_
      rotate_left
      · intro w' hSw; (try dsimp only at hSw); have q0 : w'.cell? ⟨w.heap.size + 1, 0, none⟩ = some (.int .i64 a1) := (World.cell?_of_block (hSw.block _ HLB.out)).trans (cell_of_row wi (w.heap.size + 1) 0 _ _ _ HTB.out); have q1 : w'.cell? ⟨w.heap.size + 1, 1, none⟩ = some (.int .i64 a2) := (World.cell?_of_block (hSw.block _ HLB.out)).trans (cell_of_row wi (w.heap.size + 1) 1 _ _ _ HTB.out); have q2 : w'.cell? ⟨w.heap.size + 1, 2, none⟩ = some (.int .i64 a3) := (World.cell?_of_block (hSw.block _ HLB.out)).trans (cell_of_row wi (w.heap.size + 1) 2 _ _ _ HTB.out); have q3 : w'.cell? ⟨w.heap.size + 1, 3, none⟩ = some (.int .i64 a4) := (World.cell?_of_block (hSw.block _ HLB.out)).trans (cell_of_row wi (w.heap.size + 1) 3 _ _ _ HTB.out); go_simp <;> with_reducible rfl
      simp only [Act.put, List.setIfInBounds_toArray, List.set_cons_zero, List.set_cons_succ]
      refine heldCall 1 (some 20) (f := ?_) (args := ?_) rfl rfl (by kernel_rfl) (by rfl) ?_ ?_
      rotate_left 2
      · go_simp <;> first | (constructor <;> with_reducible rfl) | with_reducible rfl
      (with_reducible refine (KA _ HX6.out).mono ?_)
      rintro _ z1 ⟨rfl, hz1'⟩
      have hz1 : Below wi.heap.size wi z1 := Below.undrew hz1'
      refine ⟨_, rfl, keepAnd ?_ (fun hNew => ?_)⟩
      · exact hz1
      clear hHeld
      have hHeld := hNew
      clear hNew
      simp only [Act.put, List.setIfInBounds_toArray, List.set_cons_zero, List.set_cons_succ]
      refine heldCall 3 (some 22) (f := ?_) (args := ?_) rfl rfl (by kernel_rfl) (by rfl) ?_ ?_
      rotate_left 2
      · go_simp <;> first | (constructor <;> with_reducible rfl) | with_reducible rfl
      (with_reducible refine (KO z1).mono ?_)
      rintro _ z2 ⟨rfl, hz2'⟩
      have hz2 : Below wi.heap.size wi z2 := hz1.trans (hz2'.mono hz1.size)
      refine ⟨_, rfl, keepAnd ?_ (fun hNew => ?_)⟩
      · exact hz2
      clear hHeld
      have hHeld := hNew
      clear hNew
      simp only [Act.put, List.setIfInBounds_toArray, List.set_cons_zero, List.set_cons_succ]
      refine wpAnyH_done (by kernel_rfl) ?_ _
      refine NoPanic.normal ?_
      clear hHeld
      have HZB : Hid (Below W.heap.size W z2) := Lib.hid (HB.out.trans (hz2.mono HB.out.size))
      have HO2 : Hid (OwnP z2 W.heap.size u6 (((allP (ls.take k)).filter (fun p : VP => ovlR (recOf p.2) (⟨a1, a2, a3, a4⟩ : Rec))) ++ (qs.take 0).filter (fun p : VP => ovlR (recOf p.2) (⟨a1, a2, a3, a4⟩ : Rec)))) := Lib.hid (by
        rw [List.take_zero, List.filter_nil, List.append_nil]
        exact own_below HO.out hz2)
      clear hz1 hz2 hz1' hz2' KA KO HO HB HTB HLB HX6
      obtain ⟨m2, hm2⟩ : ∃ m2 : Nat, m2 = if vo = true then m + 1 else m := ⟨_, rfl⟩
      have HM2 : Hid (m2 = ((ls.take (k + 1)).filter (fun p : LVP => ovlR (bndF (p.2.map (·.2))) (⟨a1, a2, a3, a4⟩ : Rec))).length) := Lib.hid (by
        rw [HTK.out, List.length_append, ← HMM.out, hm2]
        cases vo <;> simp)
      have hm3 : m2 ≤ k + 1 := by rw [hm2]; split <;> omega
      have HM3 := Lib.hid hm3
      have hmm : m ≤ 1048577 := by have := HLN.out; omega
      cases vo
      all_goals
        simp only [if_true, if_false, Bool.false_eq_true] at hm2
        have HM4 := Lib.hid hm2
        clear hm2 hm3
        go_wp2_with fail
        go_loopw [6, 27] (fun o i wr => ∃ (j : Nat), i = .int .i64 (j : Int) ∧ j ≤ pn ∧ Hid (OwnP wr W.heap.size o (((allP (ls.take k)).filter (fun p : VP => ovlR (recOf p.2) (⟨a1, a2, a3, a4⟩ : Rec))) ++ (qs.take j).filter (fun p : VP => ovlR (recOf p.2) (⟨a1, a2, a3, a4⟩ : Rec)))) ∧ Hid (Below W.heap.size W wr)) (fun _ i _ => pn - (intOf i).toNat)
        case atStart => exact ⟨0, rfl, Nat.zero_le _, HO2, HZB⟩
        case round =>
          obtain ⟨j, rfl, hj, HO, HB⟩ := hrel
          obtain ⟨wq, rfl⟩ : ∃ wq : World, wq = wr := ⟨_, rfl⟩
          by_cases hltj : j < pn
          case neg =>
            have hltj2 : ¬ (j : Int) < (pn : Int) := by omega
            have HQN : Hid (((allP (ls.take (k + 1))).filter (fun p : VP => ovlR (recOf p.2) (⟨a1, a2, a3, a4⟩ : Rec))) = ((allP (ls.take k)).filter (fun p : VP => ovlR (recOf p.2) (⟨a1, a2, a3, a4⟩ : Rec))) ++ (qs.take j).filter (fun p : VP => ovlR (recOf p.2) (⟨a1, a2, a3, a4⟩ : Rec))) := Lib.hid (by
              rw [HSN.out, List.filter_append, show qs.take j = qs from List.take_of_length_le (by have := HPN.out; omega)])
            go_wp2_with fail
            go_roundw
            case rel => exact ⟨k + 1, m2, by first | (rw [HM4.out]; done) | (rw [HM4.out]; go_num), by go_num, by omega, HM3.out, by rw [HQN.out]; exact HO, HM2, HB⟩
            case measure => simp [intOf]; omega
          case pos =>
            have hltj2 : (j : Int) < (pn : Int) := by omega
            have hxq : RdVs wq (· < wq.heap.size) (.slice Ap qs.length cp) qs := by have h := HXX.out.below HB.out; rw [HPN.out] at h; exact h
            obtain ⟨bb, bo, rfl, hFb, hxc, hxv⟩ := RdVs.at_ hxq (k := j) (by have := HPN.out; omega)
            have htj := List.take_succ_eq_append_getElem (l := qs) (i := j) (by have := HPN.out; omega)
            generalize qs[j]'(by have := HPN.out; omega) = p at *
            obtain ⟨⟨x1, x2, xA, xn, xc, x3, x4, x5, x6, x7, x8⟩, x⟩ := p
            simp only at hxc hxv
            have d0 : wq.cell? ⟨bb, bo + j * 9, none⟩ = some (.int .i64 x1) := hxc 0 _ (by decide) rfl
            have d1 : wq.cell? ⟨bb, bo + j * 9 + 1, none⟩ = some (.int .i64 x2) := hxc 1 _ (by decide) rfl
            have d2 : wq.cell? ⟨bb, bo + j * 9 + 2, none⟩ = some (.slice xA xn xc) := hxc 2 _ (by decide) rfl
            have d3 : wq.cell? ⟨bb, bo + j * 9 + 3, none⟩ = some (.int .i64 x3) := hxc 3 _ (by decide) rfl
            have d4 : wq.cell? ⟨bb, bo + j * 9 + 4, none⟩ = some (.int .i64 x4) := hxc 4 _ (by decide) rfl
            have d5 : wq.cell? ⟨bb, bo + j * 9 + 5, none⟩ = some (.int .i64 x5) := hxc 5 _ (by decide) rfl
            have d6 : wq.cell? ⟨bb, bo + j * 9 + 6, none⟩ = some (.int .i64 x6) := hxc 6 _ (by decide) rfl
            have d7 : wq.cell? ⟨bb, bo + j * 9 + 7, none⟩ = some (.int .i64 x7) := hxc 7 _ (by decide) rfl
            have d8 : wq.cell? ⟨bb, bo + j * 9 + 8, none⟩ = some (.int .i64 x8) := hxc 8 _ (by decide) rfl
            have HTJ := Lib.hid htj
            obtain ⟨wb, hwb⟩ : ∃ wb, wb = wq.alloc (.cells #[.int .i64 x1, .int .i64 x2, .slice xA xn xc, .int .i64 x3, .int .i64 x4, .int .i64 x5, .int .i64 x6, .int .i64 x7, .int .i64 x8] 61) := ⟨_, rfl⟩
            have hbb : Below wq.heap.size wq wb := by rw [hwb]; exact Below.of_alloc _
            have hbs : wq.heap.size < wb.heap.size := by rw [hwb]; simp
            have hbv : wb.heap[wq.heap.size]? = some (.cells #[.int .i64 x1, .int .i64 x2, .slice xA xn xc, .int .i64 x3, .int .i64 x4, .int .i64 x5, .int .i64 x6, .int .i64 x7, .int .i64 x8] 61 (0, 0)) := by rw [hwb]; exact heap_alloc_new _ _
            have HBV := Lib.hid hbv
            have HBB := Lib.hid hbb
            have HTB : Hid (wb.heap[(w.heap.size + 1)]? = some (.cells #[.int .i64 a1, .int .i64 a2, .int .i64 a3, .int .i64 a4] 26 (0, 0))) := Lib.hid ((hbb.block _ (by have := HBL.out; have := HB.out.size; omega)).trans ((HB.out.block _ HBL.out).trans HTW.out))
            have HLB : Hid ((w.heap.size + 1) < wb.heap.size) := Lib.hid (by have := HBL.out; have := HB.out.size; have := HBB.out.size; omega)
            obtain ⟨vi, hvi⟩ : ∃ bo, bo = ovlR (recOf x) (⟨a1, a2, a3, a4⟩ : Rec) := ⟨_, rfl⟩
            have hrx : recOf x = ⟨x3, x4, x5, x6⟩ := by unfold recOf; rw [← hxv.vf, ← hxv.vt, ← hxv.sf, ← hxv.st]
            have KOV := fun V => r31Ovl_any x3 x4 x5 x6 a1 a2 a3 a4 V
            rw [← hrx, ← hvi] at KOV
            have HVI := Lib.hid hvi
            have hQl : (((allP (ls.take k)).filter (fun p : VP => ovlR (recOf p.2) (⟨a1, a2, a3, a4⟩ : Rec))) ++ (qs.take j).filter (fun p : VP => ovlR (recOf p.2) (⟨a1, a2, a3, a4⟩ : Rec))).length ≤ 1048576 := by
              rw [List.length_append]
              have l1 := List.length_filter_le (fun p : VP => ovlR (recOf p.2) (⟨a1, a2, a3, a4⟩ : Rec)) (allP (ls.take k))
              have l2 := List.length_filter_le (fun p : VP => ovlR (recOf p.2) (⟨a1, a2, a3, a4⟩ : Rec)) (qs.take j)
              rw [List.length_take] at l2
              have := HLE.out
              have := HNN.out
              have := HPN.out
              omega
            obtain ⟨QQ, hQQ⟩ : ∃ QQ, QQ = ((allP (ls.take k)).filter (fun p : VP => ovlR (recOf p.2) (⟨a1, a2, a3, a4⟩ : Rec))) ++ (qs.take j).filter (fun p : VP => ovlR (recOf p.2) (⟨a1, a2, a3, a4⟩ : Rec)) := ⟨_, rfl⟩
            rw [← hQQ] at HO hQl
            obtain ⟨Ao, co, rfl, o1, o2, o3⟩ := Rd.open_ (Rd.of_own HO.out)
            unfold maxLen at o2
            have HQQ := Lib.hid hQQ
            clear hxc hxv htj hbv hbb hxq hrx hvi o3 hFb hQQ
            go_wp2_with fail
            rw [← hwb]
            clear hwb d0 d1 d2 d3 d4 d5 d6 d7 d8
            refine wp_region_noPanic ?_
            refine wp_region_held_drew (S := (fun w' => Below wb.heap.size wb w')) (by kernel_rfl) ?_ (fun hHeld => ?_)
            · exact (Below.refl _ _).drew
            refine heldTake 0 (some 31) (v := ?_) rfl rfl (by kernel_rfl) (by kernel_rfl) (by kernel_rfl) (by rfl) hHeld (fun _ _ _ h => h) ?_ ?_
            rotate_left
            · intro w' hSw; (try dsimp only at hSw); have q0 : w'.cell? ⟨wq.heap.size, 0, none⟩ = some (.int .i64 x1) := (World.cell?_of_block (hSw.block wq.heap.size hbs)).trans (cell_of_row wb wq.heap.size 0 _ _ _ HBV.out); have q1 : w'.cell? ⟨wq.heap.size, 1, none⟩ = some (.int .i64 x2) := (World.cell?_of_block (hSw.block wq.heap.size hbs)).trans (cell_of_row wb wq.heap.size 1 _ _ _ HBV.out); have q2 : w'.cell? ⟨wq.heap.size, 2, none⟩ = some (.slice xA xn xc) := (World.cell?_of_block (hSw.block wq.heap.size hbs)).trans (cell_of_row wb wq.heap.size 2 _ _ _ HBV.out); have q3 : w'.cell? ⟨wq.heap.size, 3, none⟩ = some (.int .i64 x3) := (World.cell?_of_block (hSw.block wq.heap.size hbs)).trans (cell_of_row wb wq.heap.size 3 _ _ _ HBV.out); have q4 : w'.cell? ⟨wq.heap.size, 4, none⟩ = some (.int .i64 x4) := (World.cell?_of_block (hSw.block wq.heap.size hbs)).trans (cell_of_row wb wq.heap.size 4 _ _ _ HBV.out); have q5 : w'.cell? ⟨wq.heap.size, 5, none⟩ = some (.int .i64 x5) := (World.cell?_of_block (hSw.block wq.heap.size hbs)).trans (cell_of_row wb wq.heap.size 5 _ _ _ HBV.out); have q6 : w'.cell? ⟨wq.heap.size, 6, none⟩ = some (.int .i64 x6) := (World.cell?_of_block (hSw.block wq.heap.size hbs)).trans (cell_of_row wb wq.heap.size 6 _ _ _ HBV.out); have q7 : w'.cell? ⟨wq.heap.size, 7, none⟩ = some (.int .i64 x7) := (World.cell?_of_block (hSw.block wq.heap.size hbs)).trans (cell_of_row wb wq.heap.size 7 _ _ _ HBV.out); have q8 : w'.cell? ⟨wq.heap.size, 8, none⟩ = some (.int .i64 x8) := (World.cell?_of_block (hSw.block wq.heap.size hbs)).trans (cell_of_row wb wq.heap.size 8 _ _ _ HBV.out); go_simp <;> with_reducible rfl
            simp only [Act.put, List.setIfInBounds_toArray, List.set_cons_zero, List.set_cons_succ]
            refine heldTake 2 (some 33) (v := ?_) rfl rfl (by kernel_rfl) (by kernel_rfl) (by kernel_rfl) (by rfl) hHeld (fun _ _ _ h => h) ?_ ?_
            rotate_left
            · intro w' hSw; (try dsimp only at hSw); have q0 : w'.cell? ⟨w.heap.size + 1, 0, none⟩ = some (.int .i64 a1) := (World.cell?_of_block (hSw.block _ HLB.out)).trans (cell_of_row wb (w.heap.size + 1) 0 _ _ _ HTB.out); have q1 : w'.cell? ⟨w.heap.size + 1, 1, none⟩ = some (.int .i64 a2) := (World.cell?_of_block (hSw.block _ HLB.out)).trans (cell_of_row wb (w.heap.size + 1) 1 _ _ _ HTB.out); have q2 : w'.cell? ⟨w.heap.size + 1, 2, none⟩ = some (.int .i64 a3) := (World.cell?_of_block (hSw.block _ HLB.out)).trans (cell_of_row wb (w.heap.size + 1) 2 _ _ _ HTB.out); have q3 : w'.cell? ⟨w.heap.size + 1, 3, none⟩ = some (.int .i64 a4) := (World.cell?_of_block (hSw.block _ HLB.out)).trans (cell_of_row wb (w.heap.size + 1) 3 _ _ _ HTB.out); go_simp <;> with_reducible rfl
            simp only [Act.put, List.setIfInBounds_toArray, List.set_cons_zero, List.set_cons_succ]
            refine heldCall 1 (some 32) (f := ?_) (args := ?_) rfl rfl (by kernel_rfl) (by rfl) ?_ ?_
            rotate_left 2
            · go_simp <;> first | (constructor <;> with_reducible rfl) | with_reducible rfl
            (with_reducible refine (refRect_any _ _ _ _ _ _ _ _ _ _ _ _).mono ?_)
            rintro _ z1 ⟨rfl, hz1'⟩
            have hz1 : Below wb.heap.size wb z1 := Below.undrew hz1'
            refine ⟨_, rfl, keepAnd ?_ (fun hNew => ?_)⟩
            · exact hz1
            clear hHeld
            have hHeld := hNew
            clear hNew
            simp only [Act.put, List.setIfInBounds_toArray, List.set_cons_zero, List.set_cons_succ]
            refine heldCall 3 (some 34) (f := ?_) (args := ?_) rfl rfl (by kernel_rfl) (by rfl) ?_ ?_
            rotate_left 2
            · go_simp <;> first | (constructor <;> with_reducible rfl) | with_reducible rfl
            (with_reducible refine (KOV z1).mono ?_)
            rintro _ z3 ⟨rfl, hz3'⟩
            have hz3 : Below wb.heap.size wb z3 := hz1.trans (hz3'.mono hz1.size)
            refine ⟨_, rfl, keepAnd ?_ (fun hNew => ?_)⟩
            · exact hz3
            clear hHeld
            have hHeld := hNew
            clear hNew
            simp only [Act.put, List.setIfInBounds_toArray, List.set_cons_zero, List.set_cons_succ]
            refine wpAnyH_done (by kernel_rfl) ?_ _
            refine NoPanic.normal ?_
            clear hHeld
            have HZ2i : Hid (Below wq.heap.size wq z3) := Lib.hid (HBB.out.trans (hz3.mono HBB.out.size))
            have HZ3 : Hid (Below W.heap.size W z3) := Lib.hid (HB.out.trans (HZ2i.out.mono HB.out.size))
            have hzv := (hz3.block wq.heap.size hbs).trans HBV.out
            have d0 : z3.cell? ⟨wq.heap.size, 0, none⟩ = some (.int .i64 x1) := cell_of_row z3 _ 0 _ _ _ hzv; have d1 : z3.cell? ⟨wq.heap.size, 1, none⟩ = some (.int .i64 x2) := cell_of_row z3 _ 1 _ _ _ hzv; have d2 : z3.cell? ⟨wq.heap.size, 2, none⟩ = some (.slice xA xn xc) := cell_of_row z3 _ 2 _ _ _ hzv; have d3 : z3.cell? ⟨wq.heap.size, 3, none⟩ = some (.int .i64 x3) := cell_of_row z3 _ 3 _ _ _ hzv; have d4 : z3.cell? ⟨wq.heap.size, 4, none⟩ = some (.int .i64 x4) := cell_of_row z3 _ 4 _ _ _ hzv; have d5 : z3.cell? ⟨wq.heap.size, 5, none⟩ = some (.int .i64 x5) := cell_of_row z3 _ 5 _ _ _ hzv; have d6 : z3.cell? ⟨wq.heap.size, 6, none⟩ = some (.int .i64 x6) := cell_of_row z3 _ 6 _ _ _ hzv; have d7 : z3.cell? ⟨wq.heap.size, 7, none⟩ = some (.int .i64 x7) := cell_of_row z3 _ 7 _ _ _ hzv; have d8 : z3.cell? ⟨wq.heap.size, 8, none⟩ = some (.int .i64 x8) := cell_of_row z3 _ 8 _ _ _ hzv
            have HJN : Hid (j + 1 ≤ pn) := Lib.hid hltj
            have HOZ : Hid (OwnP z3 W.heap.size (.slice Ao QQ.length co) QQ) := Lib.hid (own_below HO.out HZ2i.out)
            have HWZ : Hid (W.heap.size ≤ z3.heap.size) := Lib.hid HZ3.out.size
            clear hz1 hz3 hz1' hz3' hzv KOV
            cases vi
            case false =>
              have HQN : Hid (((allP (ls.take k)).filter (fun p : VP => ovlR (recOf p.2) (⟨a1, a2, a3, a4⟩ : Rec))) ++ (qs.take (j + 1)).filter (fun p : VP => ovlR (recOf p.2) (⟨a1, a2, a3, a4⟩ : Rec)) = QQ) := Lib.hid (by
                rw [HQQ.out, HTJ.out, List.filter_append]
                simp [← HVI.out])
              go_wp2_with fail
              go_roundw
              case rel => exact ⟨j + 1, by go_num, HJN.out, by rw [HQN.out]; exact HOZ, HZ3⟩
              case measure => have := HJN.out; simp [intOf]; omega
            case true =>
              have HQN : Hid (((allP (ls.take k)).filter (fun p : VP => ovlR (recOf p.2) (⟨a1, a2, a3, a4⟩ : Rec))) ++ (qs.take (j + 1)).filter (fun p : VP => ovlR (recOf p.2) (⟨a1, a2, a3, a4⟩ : Rec)) = QQ ++ [(((⟨x1, x2, xA, xn, xc, x3, x4, x5, x6, x7, x8⟩ : RV), x) : VP)]) := Lib.hid (by
                rw [HQQ.out, HTJ.out, List.filter_append]
                simp [← HVI.out])
              have HOA : Hid (OwnP (z3.alloc (.cells #[.int .i64 x1, .int .i64 x2, .slice xA xn xc, .int .i64 x3, .int .i64 x4, .int .i64 x5, .int .i64 x6, .int .i64 x7, .int .i64 x8] 61)) W.heap.size (.slice Ao QQ.length co) QQ) := Lib.hid (World.ownsRow.alloc HOZ.out _)
              have HNEW : Hid (Rd (z3.alloc (.cells #[.int .i64 x1, .int .i64 x2, .slice xA xn xc, .int .i64 x3, .int .i64 x4, .int .i64 x5, .int .i64 x6, .int .i64 x7, .int .i64 x8] 61)) (· = z3.heap.size) 9 (.slice (some ⟨z3.heap.size, 0, none⟩) 1 1) 1 [.int .i64 x1, .int .i64 x2, .slice xA xn xc, .int .i64 x3, .int .i64 x4, .int .i64 x5, .int .i64 x6, .int .i64 x7, .int .i64 x8]) := Lib.hid (Rd.new' z3 z3.heap.size rfl [.int .i64 x1, .int .i64 x2, .slice xA xn xc, .int .i64 x3, .int .i64 x4, .int .i64 x5, .int .i64 x6, .int .i64 x7, .int .i64 x8] 61 9 1 rfl (by decide))
              have hwz := HWZ.out
              go_wp2_with (at_builtin; refine wpList_append_app (z3.alloc (.cells #[.int .i64 x1, .int .i64 x2, .slice xA xn xc, .int .i64 x3, .int .i64 x4, .int .i64 x5, .int .i64 x6, .int .i64 x7, .int .i64 x8] 61)) rfl (.tmp 35) (.tmp 37) 22 rfl W.heap.size 61 i0 _ 9 88 Tryz.underlying22 HI.out HZ0.out HZ1.out HZ2.out rfl (by omega) (.slice Ao QQ.length co) QQ.length (cellsP QQ) rfl (.inl HOA.out) (· = z3.heap.size) _ 1 [.int .i64 x1, .int .i64 x2, .slice xA xn xc, .int .i64 x3, .int .i64 x4, .int .i64 x5, .int .i64 x6, .int .i64 x7, .int .i64 x8] rfl HNEW.out ((⟨x1, x2, xA, xn, xc, x3, x4, x5, x6, x7, x8⟩ : RV).enc_one) (by unfold maxLen; omega) (by omega) (by simp; omega) ?_; intro v5 w5 _ hO5 hg5 hb5 hv5)
              all_goals skip
              have HO6 : Hid (OwnP w5 W.heap.size v5 (QQ ++ [(((⟨x1, x2, xA, xn, xc, x3, x4, x5, x6, x7, x8⟩ : RV), x) : VP)])) := Lib.hid (by
                have h := hO5 (.inl (by omega))
                unfold OwnP
                rw [List.length_append, cellsP_append]
                exact h)
              have HB6 : Hid (Below W.heap.size W w5) := Lib.hid ((HZ3.out.alloc HWZ.out _).trans hb5)
              clear hO5 hg5 hb5 hv5
              go_wp2_with fail
              go_roundw
              case rel => exact ⟨j + 1, by go_num, HJN.out, by rw [HQN.out]; exact HO6, HB6⟩
              case measure => have := HJN.out; simp [intOf]; omega
end Go.Proofs.YtacjiocffbgkkaaGreat
