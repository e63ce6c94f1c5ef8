/-
  Manifests: the reference's Read and Write.
-/
import Derived.Test.YthjephhojngiaaaGreatDoorManZ
namespace Go.Proofs.YthjephhojngiaaaGreatDoor
open Go.RowKit Go.Lib Go.IntWalk

theorem rmread_results (tmps : Array Value) (w : World) (H : Nat) (m0 m1 m2 m3 m4 u x : Value) (h2 : tmps.getD 2 undef = .pointer (some ⟨H, 0, none⟩)) (h3 : tmps.getD 3 undef = u) (h4 : tmps.getD 4 undef = x)
    (hM : w.heap[H]? = some (.cells #[m0, m1, m2, m3, m4] 25 (0, 0))) :
    (results Tryz.f13 tmps).run Tryz.prog w = .ok (.tuple #[.agg #[m0, m1, m2, m3, m4], u, x]) w := by
  have q2 : tmps[2]?.getD undef = .pointer (some ⟨H, 0, none⟩) := by simpa using h2
  have q3 : tmps[3]?.getD undef = u := by simpa using h3
  have q4 : tmps[4]?.getD undef = x := by simpa using h4
  have r1 := run_loadVar_row (P := Tryz.prog) w H _ 25 _ _ _ hM Tryz.underlying25 rfl (by kernel_rfl)
  have e : (results Tryz.f13 tmps) = (do
      let vs ← (#[.cell 2 25, .tmp 3, .tmp 4] : Array ResultVar).mapM fun
        | .tmp t => pure (tmps.getD t undef)
        | .cell a t => do loadVar t (← asAddr (tmps.getD a undef))
      pure (if h : vs.size = 1 then vs[0] else .tuple vs)) := rfl
  rw [e]
  simp [asAddr, q2, q3, q4, r1]
theorem RSz.push {Z : Nat} {fl : FL} {os : List DOp} {o : DOp} (h : RSz Z fl os) (hk : o.kind ≤ 2) : RSz (Z + o.data.length + 1) fl (os ++ [o]) := by
  have hs : dsum (os ++ [o]) = dsum os + o.data.length := by simp [dsum]
  have hl := h.len
  have ha := h.all
  refine ⟨by rw [List.length_append]; simp; omega, fun p hp => ?_, by omega, fun x hx => ?_⟩
  · have := h.file p hp; omega
  · rcases List.mem_append.1 hx with hx | hx
    · exact h.kind x hx
    · obtain rfl := List.mem_singleton.1 hx; exact hk
set_option maxRecDepth 100000 in
set_option maxHeartbeats 4000000 in
theorem rmread_any (B Z : Nat) (lv ov : Value) (fl : FL) (os : List DOp) (w : World) (hB : B ≤ w.heap.size) (hv : FlsRd B w lv fl) (ho : DosRd B w ov os) (hz : RSz Z fl os) (hZ : Z ≤ 1099511627776) (hl : ∀ l, lookL (viewL fl os) fileN = some l → l.length ≤ 1000000) :
    Calls Tryz.prog 13 #[.agg #[lv, ov]] w (MRead (readF (lookL (viewL fl os) fileN)) w) := by
  obtain ⟨A, c, rfl, a1, a2, a3⟩ := hv.open_
  obtain ⟨Ao, co, rfl, b1, b2, b3⟩ := ho.open_
  have HA3 := Lib.hid a3
  have HB3 := Lib.hid b3
  clear a3 b3
  obtain ⟨W, hW⟩ : ∃ W, W = (w.alloc (.cells #[.slice A fl.length c, .slice Ao os.length co] 35)).alloc (.cells #[.string ⟨#[]⟩, .slice none 0 0, .string ⟨#[]⟩, .int .i64 0, .int .i64 0] 25) := ⟨_, rfl⟩
  have hsW : W.heap.size = w.heap.size + 2 := by rw [hW]; simp
  have hbW : Below w.heap.size w W := by rw [hW]; exact (Below.of_alloc _).trans ((Below.of_alloc _).mono (by simp))
  have hD : W.heap[w.heap.size]? = some (.cells #[.slice A fl.length c, .slice Ao os.length co] 35 (0, 0)) := by
    rw [hW, Below.heap_alloc _ _ _ (by simp)]; exact heap_alloc_new w _
  have hM : W.heap[w.heap.size + 1]? = some (.cells #[.string ⟨#[]⟩, .slice none 0 0, .string ⟨#[]⟩, .int .i64 0, .int .i64 0] 25 (0, 0)) := by
    have := heap_alloc_new (w.alloc (.cells #[.slice A fl.length c, .slice Ao os.length co] 35)) (.cells #[.string ⟨#[]⟩, .slice none 0 0, .string ⟨#[]⟩, .int .i64 0, .int .i64 0] 25)
    rw [hW]; simpa using this
  have k0 : W.cell? ⟨w.heap.size, 0, none⟩ = some (.slice A fl.length c) := cell_of_row _ _ 0 _ _ _ hD
  have k1 : W.cell? ⟨w.heap.size, 1, none⟩ = some (.slice Ao os.length co) := cell_of_row _ _ 1 _ _ _ hD
  have CR := Lib.hid (rread_any B Z _ _ fl os fileN W (by omega) (hv.below hB hbW) (ho.below hB hbW) hz hZ)
  rw [hW] at k0 k1
  have HW := Lib.hid hW
  have HS := Lib.hid hsW
  clear hW
  generalize hH : w.heap.size = H at *
  have HH := Lib.hid hH
  clear hH
  rw [← HH.out] at k0 k1
  cases hlk : lookL (viewL fl os) fileN with
  | none =>
    rw [hlk] at CR
    clear hl hlk
    go_enter Tryz.func13, Tryz.ntmps13
    go_wp2_with fail
    rw [← HW.out, fileV]
    (with_reducible refine CR.out.mono ?_)
    rintro e1 w1 ⟨v1, rfl, _, hb1⟩
    rw [HH.out]
    have hM1 := (hb1.block (H + 1) (by omega)).trans hM
    have c0 : w1.cell? ⟨H + 1, 0, none⟩ = some (.string ⟨#[]⟩) := cell_of_row _ _ 0 _ _ _ hM1
    have f0 := frozen_of_row _ _ 0 _ _ hM1
    have c1 : w1.cell? ⟨H + 1, 1, none⟩ = some (.slice none 0 0) := cell_of_row _ _ 1 _ _ _ hM1
    have f1 := frozen_of_row _ _ 1 _ _ hM1
    have c2 : w1.cell? ⟨H + 1, 2, none⟩ = some (.string ⟨#[]⟩) := cell_of_row _ _ 2 _ _ _ hM1
    have f2 := frozen_of_row _ _ 2 _ _ hM1
    have c3 : w1.cell? ⟨H + 1, 3, none⟩ = some (.int .i64 0) := cell_of_row _ _ 3 _ _ _ hM1
    have f3 := frozen_of_row _ _ 3 _ _ hM1
    have c4 : w1.cell? ⟨H + 1, 4, none⟩ = some (.int .i64 0) := cell_of_row _ _ 4 _ _ _ hM1
    have f4 := frozen_of_row _ _ 4 _ _ hM1
    have hnot : ∀ (x : Bool) (w : World), (Op.unary .not (.bool x)).run Tryz.prog w = .ok (.bool (!x)) w := fun _ _ => rfl
    simp only [Option.isSome_none]
    go_wp2_with fail
    have hrow := row_set5 hM1 (.string ⟨#[]⟩) (.slice none 0 0) (.string ⟨#[]⟩) (.int .i64 0) (.int .i64 0)
    refine bodyPost_ret (rmread_results _ _ (H + 1) _ _ _ _ _ _ _ rfl rfl rfl hrow) rfl ⟨none, 0, rfl, OwnS.nil _ _, ?_⟩
    rw [HH.out]
    exact hbW.trans ((hb1.mono (by omega)).trans ((five_chg' w1 (H + 1) _ _ _ _ _).below (by have := hb1.size; omega) (fun i hi => by omega)))
  | some l =>
    have hll := hl l hlk
    rw [hlk] at CR
    clear hl hlk
    rw [show readF (some l) = ((decM l).1, decide ((decM l).2 = 0), (decM l).2) from rfl]
    generalize hdm : decM l = dm
    obtain ⟨m, ce⟩ := dm
    dsimp only
    obtain ⟨bb, hbb⟩ : ∃ b, b = decide (ce = 0) := ⟨_, rfl⟩
    have hbe : (ce == 0) = bb := by rw [hbb]; rfl
    rw [← hbb]
    clear hbb
    go_enter Tryz.func13, Tryz.ntmps13
    go_wp2_with fail
    rw [← HW.out, fileV]
    (with_reducible refine CR.out.mono ?_)
    rintro e1 w1 ⟨v1, rfl, hO1, hb1⟩
    rw [HH.out]
    have hs1 := hb1.size
    have hM1 := (hb1.block (H + 1) (by omega)).trans hM
    have hnot : ∀ (x : Bool) (w : World), (Op.unary .not (.bool x)).run Tryz.prog w = .ok (.bool (!x)) w := fun _ _ => rfl
    simp only [Option.isSome_some]
    simp only [Option.getD_some] at hO1
    have CD := Lib.hid (rdecode_any v1 l w1 hO1.rd hll)
    rw [hdm] at CD
    go_wp2_with fail
    (with_reducible refine CD.out.mono ?_)
    rintro e2 w2 ⟨As, cs, rfl, hO2, hb2⟩
    dsimp only at hO2
    have hs2 := hb2.size
    have hM2 := (hb2.block (H + 1) (by omega)).trans hM1
    obtain ⟨X, hX⟩ : ∃ X, X = w2.alloc (.cells (rowM As cs m) 25) := ⟨_, rfl⟩
    have hbX : Below w2.heap.size w2 X := by rw [hX]; exact Below.of_alloc _
    have hMX := (hbX.block (H + 1) (by omega)).trans hM2
    have hRX : X.heap[w2.heap.size]? = some (.cells (rowM As cs m) 25 (0, 0)) := by rw [hX]; exact heap_alloc_new _ _
    have d0 : X.cell? ⟨w2.heap.size, 0, none⟩ = some (.string (strB m.base)) := cell_of_row _ _ 0 _ _ _ hRX
    have d1 : X.cell? ⟨w2.heap.size, 1, none⟩ = some (.slice As m.segs.length cs) := cell_of_row _ _ 1 _ _ _ hRX
    have d2 : X.cell? ⟨w2.heap.size, 2, none⟩ = some (.string (strB m.log)) := cell_of_row _ _ 2 _ _ _ hRX
    have d3 : X.cell? ⟨w2.heap.size, 3, none⟩ = some (.int .i64 m.tx) := cell_of_row _ _ 3 _ _ _ hRX
    have d4 : X.cell? ⟨w2.heap.size, 4, none⟩ = some (.int .i64 m.nx) := cell_of_row _ _ 4 _ _ _ hRX
    have c0 : X.cell? ⟨H + 1, 0, none⟩ = some (.string ⟨#[]⟩) := cell_of_row _ _ 0 _ _ _ hMX
    have f0 := frozen_of_row _ _ 0 _ _ hMX
    have c1 : X.cell? ⟨H + 1, 1, none⟩ = some (.slice none 0 0) := cell_of_row _ _ 1 _ _ _ hMX
    have f1 := frozen_of_row _ _ 1 _ _ hMX
    have c2 : X.cell? ⟨H + 1, 2, none⟩ = some (.string ⟨#[]⟩) := cell_of_row _ _ 2 _ _ _ hMX
    have f2 := frozen_of_row _ _ 2 _ _ hMX
    have c3 : X.cell? ⟨H + 1, 3, none⟩ = some (.int .i64 0) := cell_of_row _ _ 3 _ _ _ hMX
    have f3 := frozen_of_row _ _ 3 _ _ hMX
    have c4 : X.cell? ⟨H + 1, 4, none⟩ = some (.int .i64 0) := cell_of_row _ _ 4 _ _ _ hMX
    have f4 := frozen_of_row _ _ 4 _ _ hMX
    rw [hX] at c0 c1 c2 c3 c4 f0 f1 f2 f3 f4 d0 d1 d2 d3 d4
    have HX := Lib.hid hX
    clear hX
    go_wp2_with fail
    rw [← HX.out]
    have hrow := row_set5 hMX (.string (strB m.base)) (.slice As m.segs.length cs) (.string (strB m.log)) (.int .i64 m.tx) (.int .i64 m.nx)
    have hc := five_chg' X (H + 1) (.string (strB m.base)) (.slice As m.segs.length cs) (.string (strB m.log)) (.int .i64 m.tx) (.int .i64 m.nx)
    refine bodyPost_ret (rmread_results _ _ (H + 1) _ _ _ _ _ _ _ rfl rfl rfl hrow) rfl ⟨As, cs, rfl, ?_, ?_⟩
    · obtain ⟨k1, k2⟩ := hO2
      refine ⟨k1, ?_⟩
      rcases k2 with k2 | ⟨g, cap, cur, hv, hg, hr, rest⟩
      · exact .inl k2
      · have hgl : g < w2.heap.size := (Array.getElem?_eq_some_iff.1 hr).1
        exact .inr ⟨g, cap, cur, hv, by rw [HH.out]; omega, (hc.block g (by have := hbX.size; omega) (by omega)).trans ((hbX.block g hgl).trans hr), rest⟩
    · rw [HH.out]
      exact hbW.trans ((hb1.mono (by omega)).trans ((hb2.mono (by omega)).trans ((hbX.mono (by omega)).trans (hc.below (by have := hbX.size; omega) (fun i hi => by omega)))))

theorem kind0 (nm t d : List UInt8) : (⟨0, nm, t, d⟩ : DOp).kind ≤ 2 := by simp
theorem kind1 (nm t d : List UInt8) : (⟨1, nm, t, d⟩ : DOp).kind ≤ 2 := by simp
theorem look_carry_ok {fl : FL} {os : List DOp} {b : List UInt8} : (lookL (viewL fl (os ++ [⟨0, draftN, [], b⟩])) draftN).isSome = true := by
  rw [viewL_append]
  show (lookL (carryL (viewL fl os) ⟨0, draftN, [], b⟩) draftN).isSome = true
  rw [show carryL (viewL fl os) ⟨0, draftN, [], b⟩ = withL (viewL fl os) (draftN, (lookL (viewL fl os) draftN).getD [] ++ b) from rfl, withL_ins, look_ins _ _ (fun p hp => (mem_without hp).2)]
  simp
set_option maxRecDepth 100000 in
set_option maxHeartbeats 4000000 in
theorem rbegin_any (B Z : Nat) (lv ov : Value) (fl : FL) (os : List DOp) (bv : Value) (b : List UInt8) (w : World) (hB : B ≤ w.heap.size) (hv : FlsRd B w lv fl) (ho : DosRd B w ov os) (hz : RSz Z fl os) (hZ : Z ≤ 1099500000000) (hb : RdB w (· < w.heap.size) bv b) (hol : os.length ≤ 1099500000000) (hbl : b.length ≤ 2000000) :
    Calls Tryz.prog 39 #[.agg #[lv, ov], bv] w (RefOut B fl (os ++ wrOps (lookL (viewL fl os) draftN).isSome b) w) := by
  obtain ⟨A, c, rfl, a1, a2, a3⟩ := hv.open_
  obtain ⟨Ao, co, rfl, b1, b2, b3⟩ := ho.open_
  obtain ⟨Ab, cb, rfl, y1, y2, y3⟩ := hb.open_
  have HA3 := Lib.hid a3
  have HB3 := Lib.hid b3
  have HY3 := Lib.hid y3
  clear a3 b3 y3
  obtain ⟨W, hW⟩ : ∃ W, W = (w.alloc (.cells #[.slice A fl.length c, .slice Ao os.length co] 35)).alloc (.cells #[.slice none 0 0, .slice none 0 0] 35) := ⟨_, rfl⟩
  have hsW : W.heap.size = w.heap.size + 2 := by rw [hW]; simp
  have hbW : Below w.heap.size w W := by rw [hW]; exact (Below.of_alloc _).trans ((Below.of_alloc _).mono (by simp))
  have hD : W.heap[w.heap.size]? = some (.cells #[.slice A fl.length c, .slice Ao os.length co] 35 (0, 0)) := by
    rw [hW, Below.heap_alloc _ _ _ (by simp)]; exact heap_alloc_new w _
  have hR : W.heap[w.heap.size + 1]? = some (.cells #[.slice none 0 0, .slice none 0 0] 35 (0, 0)) := by
    have := heap_alloc_new (w.alloc (.cells #[.slice A fl.length c, .slice Ao os.length co] 35)) (.cells #[.slice none 0 0, .slice none 0 0] 35)
    rw [hW]; simpa using this
  have k0 : W.cell? ⟨w.heap.size, 0, none⟩ = some (.slice A fl.length c) := cell_of_row _ _ 0 _ _ _ hD
  have k1 : W.cell? ⟨w.heap.size, 1, none⟩ = some (.slice Ao os.length co) := cell_of_row _ _ 1 _ _ _ hD
  have hvW := hv.below hB hbW
  have hoW := ho.below hB hbW
  have hbbW : RdB W (· < W.heap.size) (.slice Ab b.length cb) b := (hb.below hbW).wide fun i hi => by omega
  have CR := Lib.hid (rread_any B Z _ _ fl os draftN W (by omega) hvW hoW hz (by omega))
  rw [hW] at k0 k1
  have HW := Lib.hid hW
  clear hW
  generalize hH : w.heap.size = H at *
  have HH := Lib.hid hH
  clear hH
  rw [← HH.out] at k0 k1
  obtain ⟨r, hr⟩ : ∃ r, r = lookL (viewL fl os) draftN := ⟨_, rfl⟩
  rw [← hr] at CR
  have HR := Lib.hid hr
  rw [← hr]
  clear hr
  go_enter Tryz.func39, Tryz.ntmps39
  go_wp2_with fail
  rw [← HW.out, draftV]
  (with_reducible refine CR.out.mono ?_)
  rintro e1 w1 ⟨v1, rfl, _, hb1⟩
  rw [HH.out]
  have hs1 := hb1.size
  have hD1 := (hb1.block H (by omega)).trans hD
  have hR1 := (hb1.block (H + 1) (by omega)).trans hR
  have hv1 := hvW.below (by omega) hb1
  have ho1 := hoW.below (by omega) hb1
  have hb_1 : RdB w1 (· < w1.heap.size) (.slice Ab b.length cb) b := (hbbW.below hb1).wide fun i hi => by omega
  have hB1 : Below H w w1 := hbW.trans (hb1.mono (by omega))
  have e0 : w1.cell? ⟨H, 0, none⟩ = some (.slice A fl.length c) := cell_of_row _ _ 0 _ _ _ hD1
  have e1 : w1.cell? ⟨H, 1, none⟩ = some (.slice Ao os.length co) := cell_of_row _ _ 1 _ _ _ hD1
  cases hrr : r.isSome with
  | false =>
    have HX := Lib.hid hrr
    clear hrr
    go_wp2_with fail
    (try rw [draftV])
    (try rw [fileV])
    (with_reducible refine (rappend_ok B _ _ fl os draftN (.slice Ab b.length cb) b w1 (by omega) hv1 ho1 (by decide) draft_word hb_1 (by omega) (by omega)).mono ?_)
    rintro _ x2 ⟨_, _, rfl, hl2, ho2, hbx2⟩
    obtain ⟨A2, c2, rfl, s2, r2, t2⟩ := hl2.open_
    obtain ⟨B2, d2, rfl, u2, v2, z2⟩ := ho2.open_
    have HT2 := Lib.hid t2
    have HZ2 := Lib.hid z2
    clear t2 z2
    have hsx2 := hbx2.size
    have hRx2 := (hbx2.block H (by omega)).trans hD1
    have hRr2 := (hbx2.block (H + 1) (by omega)).trans hR1
    obtain ⟨m2, hm2⟩ : ∃ m, m = (os ++ [(⟨0, draftN, [], b⟩ : DOp)]).length := ⟨_, rfl⟩
    rw [← hm2] at ho2 u2 ⊢
    have HM2 := Lib.hid hm2
    clear hm2
    obtain ⟨q02, q12, q22, q32, q62, q42, q52, hC2⟩ := two_store x2 H _ _ (.slice A2 fl.length c2) (.slice B2 m2 d2) _ hRx2
    obtain ⟨y2, hY2⟩ : ∃ Y, Y = ((x2.setCell ⟨H, 0, none⟩ (.slice A2 fl.length c2)).setCell ⟨H, 1, none⟩ (.slice B2 m2 d2)) := ⟨_, rfl⟩
    rw [← hY2] at q62 hC2
    have hv2 := FlsRd.box hl2 (by omega) (by omega) hRx2 hC2
    have ho_2 := DosRd.box ho2 (by omega) (by omega) hRx2 hC2
    have hby2 := hC2.below (B := H) (by omega) (fun i hi => by omega)
    have hD2 := q62
    have hsy2 : y2.heap.size = x2.heap.size := by rw [hY2]; simp
    have hR2 := (hC2.block (H + 1) (by omega) (by omega)).trans hRr2
    have hB2 : Below H w y2 := (hB1.trans (hbx2.mono (by omega))).trans hby2
    have hb_2 : RdB y2 (· < y2.heap.size) (.slice Ab b.length cb) b := (hb.keep fun i hi => hB2.block i hi).wide fun i hi => by omega
    have HY2 := Lib.hid hY2
    clear hY2 hl2 ho2 q62
    go_wp2_with fail
    rw [← HY2.out]
    (try rw [draftV])
    (try rw [fileV])
    (with_reducible refine (rrename_ok B (Z + b.length + 1) _ _ fl (os ++ [⟨0, draftN, [], b⟩]) draftN fileN y2 (by omega) hv2 ho_2 (hz.push (o := ⟨0, draftN, [], b⟩) (kind0 _ _ _)) (by omega) look_carry_ok (by decide) file_word (by simp; omega)).mono ?_)
    rintro _ x3 ⟨_, _, rfl, hl3, ho3, hbx3⟩
    obtain ⟨A3, c3, rfl, s3, r3, t3⟩ := hl3.open_
    obtain ⟨B3, d3, rfl, u3, v3, z3⟩ := ho3.open_
    have HT3 := Lib.hid t3
    have HZ3 := Lib.hid z3
    clear t3 z3
    have hsx3 := hbx3.size
    have hRx3 := (hbx3.block H (by omega)).trans hD2
    have hRr3 := (hbx3.block (H + 1) (by omega)).trans hR2
    obtain ⟨m3, hm3⟩ : ∃ m, m = (os ++ [(⟨0, draftN, [], b⟩ : DOp)] ++ [(⟨2, draftN, fileN, []⟩ : DOp)]).length := ⟨_, rfl⟩
    rw [← hm3] at ho3 u3 ⊢
    have HM3 := Lib.hid hm3
    clear hm3
    obtain ⟨q03, q13, q23, q33, q63, q43, q53, hC3⟩ := two_store x3 H _ _ (.slice A3 fl.length c3) (.slice B3 m3 d3) _ hRx3
    obtain ⟨y3, hY3⟩ : ∃ Y, Y = ((x3.setCell ⟨H, 0, none⟩ (.slice A3 fl.length c3)).setCell ⟨H, 1, none⟩ (.slice B3 m3 d3)) := ⟨_, rfl⟩
    rw [← hY3] at q63 hC3
    have hv3 := FlsRd.box hl3 (by omega) (by omega) hRx3 hC3
    have ho_3 := DosRd.box ho3 (by omega) (by omega) hRx3 hC3
    have hby3 := hC3.below (B := H) (by omega) (fun i hi => by omega)
    have hD3 := q63
    have hsy3 : y3.heap.size = x3.heap.size := by rw [hY3]; simp
    have hR3 := (hC3.block (H + 1) (by omega) (by omega)).trans hRr3
    have hB3 : Below H w y3 := (hB2.trans (hbx3.mono (by omega))).trans hby3
    have hb_3 : RdB y3 (· < y3.heap.size) (.slice Ab b.length cb) b := (hb.keep fun i hi => hB3.block i hi).wide fun i hi => by omega
    have HY3 := Lib.hid hY3
    clear hY3 hl3 ho3 q63
    obtain ⟨g0, g1, g2, g3, g6, g4, g5, hC⟩ := two_store y3 (H + 1) _ _ (.slice A3 fl.length c3) (.slice B3 m3 d3) _ hR3
    rw [HY3.out] at g0 g1 g2 g3 g4 g5
    go_wp2_with fail
    refine bodyPost_ret (v := .agg #[.slice A3 fl.length c3, .slice B3 m3 d3]) (by simp [results, Tryz.results39, go_sem, g4, g5]) rfl ?_
    rw [← HY3.out]
    refine ⟨_, _, rfl, FlsRd.box hv3 (by omega) (by omega) hR3 hC, DosRd.box (by rw [show wrOps r.isSome b = [⟨0, draftN, [], b⟩] ++ [⟨2, draftN, fileN, []⟩] from by rw [HX.out]; rfl, ← List.append_assoc]; exact ho_3) (by omega) (by omega) hR3 hC, by rw [HH.out]; exact hB3.trans (hC.below (B := H) (by omega) (fun i hi => by omega))⟩
  | true =>
    have HX := Lib.hid hrr
    clear hrr
    go_wp2_with fail
    (try rw [draftV])
    (try rw [fileV])
    (with_reducible refine (rremove_ok B Z _ _ fl os draftN w1 (by omega) hv1 ho1 hz (by omega) (by rw [← HR.out]; exact HX.out) (by omega)).mono ?_)
    rintro _ x2 ⟨_, _, rfl, hl2, ho2, hbx2⟩
    obtain ⟨A2, c2, rfl, s2, r2, t2⟩ := hl2.open_
    obtain ⟨B2, d2, rfl, u2, v2, z2⟩ := ho2.open_
    have HT2 := Lib.hid t2
    have HZ2 := Lib.hid z2
    clear t2 z2
    have hsx2 := hbx2.size
    have hRx2 := (hbx2.block H (by omega)).trans hD1
    have hRr2 := (hbx2.block (H + 1) (by omega)).trans hR1
    obtain ⟨m2, hm2⟩ : ∃ m, m = (os ++ [(⟨1, draftN, [], []⟩ : DOp)]).length := ⟨_, rfl⟩
    rw [← hm2] at ho2 u2 ⊢
    have HM2 := Lib.hid hm2
    clear hm2
    obtain ⟨q02, q12, q22, q32, q62, q42, q52, hC2⟩ := two_store x2 H _ _ (.slice A2 fl.length c2) (.slice B2 m2 d2) _ hRx2
    obtain ⟨y2, hY2⟩ : ∃ Y, Y = ((x2.setCell ⟨H, 0, none⟩ (.slice A2 fl.length c2)).setCell ⟨H, 1, none⟩ (.slice B2 m2 d2)) := ⟨_, rfl⟩
    rw [← hY2] at q62 hC2
    have hv2 := FlsRd.box hl2 (by omega) (by omega) hRx2 hC2
    have ho_2 := DosRd.box ho2 (by omega) (by omega) hRx2 hC2
    have hby2 := hC2.below (B := H) (by omega) (fun i hi => by omega)
    have hD2 := q62
    have hsy2 : y2.heap.size = x2.heap.size := by rw [hY2]; simp
    have hR2 := (hC2.block (H + 1) (by omega) (by omega)).trans hRr2
    have hB2 : Below H w y2 := (hB1.trans (hbx2.mono (by omega))).trans hby2
    have hb_2 : RdB y2 (· < y2.heap.size) (.slice Ab b.length cb) b := (hb.keep fun i hi => hB2.block i hi).wide fun i hi => by omega
    have HY2 := Lib.hid hY2
    clear hY2 hl2 ho2 q62
    go_wp2_with fail
    rw [← HY2.out]
    (try rw [draftV])
    (try rw [fileV])
    (with_reducible refine (rappend_ok B _ _ fl (os ++ [⟨1, draftN, [], []⟩]) draftN (.slice Ab b.length cb) b y2 (by omega) hv2 ho_2 (by decide) draft_word hb_2 (by simp; omega) (by omega)).mono ?_)
    rintro _ x3 ⟨_, _, rfl, hl3, ho3, hbx3⟩
    obtain ⟨A3, c3, rfl, s3, r3, t3⟩ := hl3.open_
    obtain ⟨B3, d3, rfl, u3, v3, z3⟩ := ho3.open_
    have HT3 := Lib.hid t3
    have HZ3 := Lib.hid z3
    clear t3 z3
    have hsx3 := hbx3.size
    have hRx3 := (hbx3.block H (by omega)).trans hD2
    have hRr3 := (hbx3.block (H + 1) (by omega)).trans hR2
    obtain ⟨m3, hm3⟩ : ∃ m, m = (os ++ [(⟨1, draftN, [], []⟩ : DOp)] ++ [(⟨0, draftN, [], b⟩ : DOp)]).length := ⟨_, rfl⟩
    rw [← hm3] at ho3 u3 ⊢
    have HM3 := Lib.hid hm3
    clear hm3
    obtain ⟨q03, q13, q23, q33, q63, q43, q53, hC3⟩ := two_store x3 H _ _ (.slice A3 fl.length c3) (.slice B3 m3 d3) _ hRx3
    obtain ⟨y3, hY3⟩ : ∃ Y, Y = ((x3.setCell ⟨H, 0, none⟩ (.slice A3 fl.length c3)).setCell ⟨H, 1, none⟩ (.slice B3 m3 d3)) := ⟨_, rfl⟩
    rw [← hY3] at q63 hC3
    have hv3 := FlsRd.box hl3 (by omega) (by omega) hRx3 hC3
    have ho_3 := DosRd.box ho3 (by omega) (by omega) hRx3 hC3
    have hby3 := hC3.below (B := H) (by omega) (fun i hi => by omega)
    have hD3 := q63
    have hsy3 : y3.heap.size = x3.heap.size := by rw [hY3]; simp
    have hR3 := (hC3.block (H + 1) (by omega) (by omega)).trans hRr3
    have hB3 : Below H w y3 := (hB2.trans (hbx3.mono (by omega))).trans hby3
    have hb_3 : RdB y3 (· < y3.heap.size) (.slice Ab b.length cb) b := (hb.keep fun i hi => hB3.block i hi).wide fun i hi => by omega
    have HY3 := Lib.hid hY3
    clear hY3 hl3 ho3 q63
    go_wp2_with fail
    rw [← HY3.out]
    (try rw [draftV])
    (try rw [fileV])
    (with_reducible refine (rrename_ok B (Z + 0 + 1 + b.length + 1) _ _ fl (os ++ [⟨1, draftN, [], []⟩] ++ [⟨0, draftN, [], b⟩]) draftN fileN y3 (by omega) hv3 ho_3 ((hz.push (o := ⟨1, draftN, [], []⟩) (kind1 _ _ _)).push (o := ⟨0, draftN, [], b⟩) (kind0 _ _ _)) (by omega) look_carry_ok (by decide) file_word (by simp; omega)).mono ?_)
    rintro _ x4 ⟨_, _, rfl, hl4, ho4, hbx4⟩
    obtain ⟨A4, c4, rfl, s4, r4, t4⟩ := hl4.open_
    obtain ⟨B4, d4, rfl, u4, v4, z4⟩ := ho4.open_
    have HT4 := Lib.hid t4
    have HZ4 := Lib.hid z4
    clear t4 z4
    have hsx4 := hbx4.size
    have hRx4 := (hbx4.block H (by omega)).trans hD3
    have hRr4 := (hbx4.block (H + 1) (by omega)).trans hR3
    obtain ⟨m4, hm4⟩ : ∃ m, m = (os ++ [(⟨1, draftN, [], []⟩ : DOp)] ++ [(⟨0, draftN, [], b⟩ : DOp)] ++ [(⟨2, draftN, fileN, []⟩ : DOp)]).length := ⟨_, rfl⟩
    rw [← hm4] at ho4 u4 ⊢
    have HM4 := Lib.hid hm4
    clear hm4
    obtain ⟨q04, q14, q24, q34, q64, q44, q54, hC4⟩ := two_store x4 H _ _ (.slice A4 fl.length c4) (.slice B4 m4 d4) _ hRx4
    obtain ⟨y4, hY4⟩ : ∃ Y, Y = ((x4.setCell ⟨H, 0, none⟩ (.slice A4 fl.length c4)).setCell ⟨H, 1, none⟩ (.slice B4 m4 d4)) := ⟨_, rfl⟩
    rw [← hY4] at q64 hC4
    have hv4 := FlsRd.box hl4 (by omega) (by omega) hRx4 hC4
    have ho_4 := DosRd.box ho4 (by omega) (by omega) hRx4 hC4
    have hby4 := hC4.below (B := H) (by omega) (fun i hi => by omega)
    have hD4 := q64
    have hsy4 : y4.heap.size = x4.heap.size := by rw [hY4]; simp
    have hR4 := (hC4.block (H + 1) (by omega) (by omega)).trans hRr4
    have hB4 : Below H w y4 := (hB3.trans (hbx4.mono (by omega))).trans hby4
    have hb_4 : RdB y4 (· < y4.heap.size) (.slice Ab b.length cb) b := (hb.keep fun i hi => hB4.block i hi).wide fun i hi => by omega
    have HY4 := Lib.hid hY4
    clear hY4 hl4 ho4 q64
    obtain ⟨g0, g1, g2, g3, g6, g4, g5, hC⟩ := two_store y4 (H + 1) _ _ (.slice A4 fl.length c4) (.slice B4 m4 d4) _ hR4
    rw [HY4.out] at g0 g1 g2 g3 g4 g5
    go_wp2_with fail
    refine bodyPost_ret (v := .agg #[.slice A4 fl.length c4, .slice B4 m4 d4]) (by simp [results, Tryz.results39, go_sem, g4, g5]) rfl ?_
    rw [← HY4.out]
    refine ⟨_, _, rfl, FlsRd.box hv4 (by omega) (by omega) hR4 hC, DosRd.box (by rw [show wrOps r.isSome b = [⟨1, draftN, [], []⟩] ++ [⟨0, draftN, [], b⟩] ++ [⟨2, draftN, fileN, []⟩] from by rw [HX.out]; rfl, ← List.append_assoc, ← List.append_assoc]; exact ho_4) (by omega) (by omega) hR4 hC, by rw [HH.out]; exact hB4.trans (hC.below (B := H) (by omega) (fun i hi => by omega))⟩
end Go.Proofs.YthjephhojngiaaaGreatDoor
