/-
  Manifests: the reference's Write; a nil disk.
-/
import Derived.Test.YthjephhojngiaaaGreatDoorManZA
namespace Go.Proofs.YthjephhojngiaaaGreatDoor
open Go.RowKit Go.Lib Go.IntWalk

set_option maxRecDepth 100000 in
set_option maxHeartbeats 4000000 in
theorem rmwrite_bad (B : Nat) (lv ov : Value) (fl : FL) (os : List DOp) (F : Nat → Prop) (As : Option Addr) (cs : Nat) (m : Man) (w : World) (hB : B ≤ w.heap.size) (hv : FlsRd B w lv fl) (ho : DosRd B w ov os) (h : Rd w F 1 (.slice As m.segs.length cs) m.segs.length (sv m.segs)) (hF : ∀ b, F b → b < w.heap.size) (hl : m.segs.length ≤ 1000000) (hbd : (bodyM m).length ≤ 1048576) (hc : chkF m ≠ 0) :
    Calls Tryz.prog 14 #[.agg #[lv, ov], manV As cs m] w (RefOut2 B fl os (chkF m) w) := by
  obtain ⟨A, c, rfl, a1, a2, a3⟩ := hv.open_
  obtain ⟨Ao, co, rfl, b1, b2, b3⟩ := ho.open_
  obtain ⟨_, _, hce, x1, x2, x3⟩ := Rd.open_ h
  have HX3 := Lib.hid x3
  unfold maxLen at x2
  have HA3 := Lib.hid a3
  have HB3 := Lib.hid b3
  clear a3 b3 x3 hce x1
  obtain ⟨U, hU⟩ : ∃ U, U = (w.alloc (.cells #[.slice A fl.length c, .slice Ao os.length co] 35)).alloc (.cells (rowM As cs m) 25) := ⟨_, rfl⟩
  have hsU : U.heap.size = w.heap.size + 2 := by rw [hU]; simp
  have hbU : Below w.heap.size w U := by rw [hU]; exact (Below.of_alloc _).trans ((Below.of_alloc _).mono (by simp))
  have hD0 : U.heap[w.heap.size]? = some (.cells #[.slice A fl.length c, .slice Ao os.length co] 35 (0, 0)) := by
    rw [hU, Below.heap_alloc _ _ _ (by simp)]; exact heap_alloc_new w _
  have hM0 : U.heap[w.heap.size + 1]? = some (.cells (rowM As cs m) 25 (0, 0)) := by
    have := heap_alloc_new (w.alloc (.cells #[.slice A fl.length c, .slice Ao os.length co] 35)) (.cells (rowM As cs m) 25)
    rw [hU]; simpa using this
  obtain ⟨W, hW⟩ : ∃ W, W = U.alloc (.cells #[.slice none 0 0, .slice none 0 0] 35) := ⟨_, rfl⟩
  have hsW : W.heap.size = w.heap.size + 3 := by rw [hW]; simp [hsU]
  have hbW0 : Below U.heap.size U W := by rw [hW]; exact Below.of_alloc _
  have hbW : Below w.heap.size w W := hbU.trans (hbW0.mono (by omega))
  have hD : W.heap[w.heap.size]? = some (.cells #[.slice A fl.length c, .slice Ao os.length co] 35 (0, 0)) := (hbW0.block _ (by omega)).trans hD0
  have hM : W.heap[w.heap.size + 1]? = some (.cells (rowM As cs m) 25 (0, 0)) := (hbW0.block _ (by omega)).trans hM0
  have hR : W.heap[w.heap.size + 2]? = some (.cells #[.slice none 0 0, .slice none 0 0] 35 (0, 0)) := by
    rw [hW, ← hsU]; exact heap_alloc_new U _
  have c0 : W.cell? ⟨w.heap.size + 1, 0, none⟩ = some (.string (strB m.base)) := cell_of_row _ _ 0 _ _ _ hM
  have c1 : W.cell? ⟨w.heap.size + 1, 1, none⟩ = some (.slice As m.segs.length cs) := cell_of_row _ _ 1 _ _ _ hM
  have c2 : W.cell? ⟨w.heap.size + 1, 2, none⟩ = some (.string (strB m.log)) := cell_of_row _ _ 2 _ _ _ hM
  have c3 : W.cell? ⟨w.heap.size + 1, 3, none⟩ = some (.int .i64 m.tx) := cell_of_row _ _ 3 _ _ _ hM
  have c4 : W.cell? ⟨w.heap.size + 1, 4, none⟩ = some (.int .i64 m.nx) := cell_of_row _ _ 4 _ _ _ hM
  have hvW := hv.below hB hbW
  have hoW := ho.below hB hbW
  have CE := Lib.hid (rencode_any F As cs m W (h.keep fun b hb => hbW.block b (hF b hb)) (fun b hb => by have := hF b hb; omega) hl hbd)
  rw [hW, hU] at c0 c1 c2 c3 c4
  have HW := Lib.hid (hW.trans (by rw [hU]))
  clear hW hU hbW0 hbU hD0 hM0 hsU h hF U
  generalize hH : w.heap.size = H at *
  have HH := Lib.hid hH
  clear hH
  rw [← HH.out] at c0 c1 c2 c3 c4
  rw [show encM m = ([], chkF m) from if_neg hc] at CE
  generalize chkF m = ce at *
  have b1 : (ce != 0) = true := by rw [bne_iff_ne]; exact hc
  go_enter Tryz.func14, Tryz.ntmps14
  go_wp2_with fail
  rw [← HW.out]
  (with_reducible refine CE.out.mono ?_)
  rintro _ w1 ⟨v1, rfl, _, hb1⟩
  rw [HH.out]
  have hs1 := hb1.size
  have hD1 := (hb1.block H (by omega)).trans hD
  have hR1 := (hb1.block (H + 2) (by omega)).trans hR
  have hv1 := hvW.below (by omega) hb1
  have ho1 := hoW.below (by omega) hb1
  have hB1 : Below H w w1 := hbW.trans (hb1.mono (by omega))
  have e0 : w1.cell? ⟨H, 0, none⟩ = some (.slice A fl.length c) := cell_of_row _ _ 0 _ _ _ hD1
  have e1 : w1.cell? ⟨H, 1, none⟩ = some (.slice Ao os.length co) := cell_of_row _ _ 1 _ _ _ hD1
  obtain ⟨g0, g1, g2, g3, g6, g4, g5, hC⟩ := two_store w1 (H + 2) _ _ (.slice A fl.length c) (.slice Ao os.length co) _ hR1
  clear g6 hD1 hD hM hR
  go_wp2_with fail
  refine bodyPost_ret (v := .tuple #[.agg #[.slice A fl.length c, .slice Ao os.length co], .int .i64 ce]) (by simp [results, Tryz.results14, go_sem, g4, g5]) rfl ?_
  exact ⟨_, _, rfl, FlsRd.box hv1 (by omega) (by omega) hR1 hC, DosRd.box ho1 (by omega) (by omega) hR1 hC, by rw [HH.out]; exact hB1.trans (hC.below (B := H) (by omega) (fun i hi => by omega))⟩
theorem wrOps_sz {Z : Nat} {fl : FL} {os : List DOp} (h : RSz Z fl os) (ex : Bool) (b : List UInt8) : RSz (Z + b.length + 20) fl (os ++ wrOps ex b) := by
  cases ex with
  | false =>
    have h1 := (h.push (o := ⟨0, draftN, [], b⟩) (kind0 _ _ _)).push (o := ⟨2, draftN, fileN, []⟩) (by simp)
    rw [show os ++ wrOps false b = os ++ [⟨0, draftN, [], b⟩] ++ [⟨2, draftN, fileN, []⟩] from by simp [wrOps]]
    exact h1.mono (by simp)
  | true =>
    have h1 := ((h.push (o := ⟨1, draftN, [], []⟩) (kind1 _ _ _)).push (o := ⟨0, draftN, [], b⟩) (kind0 _ _ _)).push (o := ⟨2, draftN, fileN, []⟩) (by simp)
    rw [show os ++ wrOps true b = os ++ [⟨1, draftN, [], []⟩] ++ [⟨0, draftN, [], b⟩] ++ [⟨2, draftN, fileN, []⟩] from by simp [wrOps]]
    exact h1.mono (by simp; omega)
set_option maxRecDepth 100000 in
set_option maxHeartbeats 4000000 in
theorem rmwrite_ok (B Z : Nat) (lv ov : Value) (fl : FL) (os : List DOp) (F : Nat → Prop) (As : Option Addr) (cs : Nat) (m : Man) (w : World) (hB : B ≤ w.heap.size) (hv : FlsRd B w lv fl) (ho : DosRd B w ov os) (hz : RSz Z fl os) (hZ : Z ≤ 1099000000000) (h : Rd w F 1 (.slice As m.segs.length cs) m.segs.length (sv m.segs)) (hF : ∀ b, F b → b < w.heap.size) (hl : m.segs.length ≤ 1000000) (hbd : (bodyM m).length ≤ 1048576) (hol : os.length ≤ 1099000000000) (hc : chkF m = 0) :
    Calls Tryz.prog 14 #[.agg #[lv, ov], manV As cs m] w (RefOut2 B (viewL fl (os ++ wrOps (lookL (viewL fl os) draftN).isSome (frm (bodyM m)))) [] 0 w) := by
  obtain ⟨A, c, rfl, a1, a2, a3⟩ := hv.open_
  obtain ⟨Ao, co, rfl, b1, b2, b3⟩ := ho.open_
  obtain ⟨_, _, hce, x1, x2, x3⟩ := Rd.open_ h
  have HX3 := Lib.hid x3
  unfold maxLen at x2
  have HA3 := Lib.hid a3
  have HB3 := Lib.hid b3
  clear a3 b3 x3 hce x1
  obtain ⟨U, hU⟩ : ∃ U, U = (w.alloc (.cells #[.slice A fl.length c, .slice Ao os.length co] 35)).alloc (.cells (rowM As cs m) 25) := ⟨_, rfl⟩
  have hsU : U.heap.size = w.heap.size + 2 := by rw [hU]; simp
  have hbU : Below w.heap.size w U := by rw [hU]; exact (Below.of_alloc _).trans ((Below.of_alloc _).mono (by simp))
  have hD0 : U.heap[w.heap.size]? = some (.cells #[.slice A fl.length c, .slice Ao os.length co] 35 (0, 0)) := by
    rw [hU, Below.heap_alloc _ _ _ (by simp)]; exact heap_alloc_new w _
  have hM0 : U.heap[w.heap.size + 1]? = some (.cells (rowM As cs m) 25 (0, 0)) := by
    have := heap_alloc_new (w.alloc (.cells #[.slice A fl.length c, .slice Ao os.length co] 35)) (.cells (rowM As cs m) 25)
    rw [hU]; simpa using this
  obtain ⟨W, hW⟩ : ∃ W, W = U.alloc (.cells #[.slice none 0 0, .slice none 0 0] 35) := ⟨_, rfl⟩
  have hsW : W.heap.size = w.heap.size + 3 := by rw [hW]; simp [hsU]
  have hbW0 : Below U.heap.size U W := by rw [hW]; exact Below.of_alloc _
  have hbW : Below w.heap.size w W := hbU.trans (hbW0.mono (by omega))
  have hD : W.heap[w.heap.size]? = some (.cells #[.slice A fl.length c, .slice Ao os.length co] 35 (0, 0)) := (hbW0.block _ (by omega)).trans hD0
  have hM : W.heap[w.heap.size + 1]? = some (.cells (rowM As cs m) 25 (0, 0)) := (hbW0.block _ (by omega)).trans hM0
  have hR : W.heap[w.heap.size + 2]? = some (.cells #[.slice none 0 0, .slice none 0 0] 35 (0, 0)) := by
    rw [hW, ← hsU]; exact heap_alloc_new U _
  have c0 : W.cell? ⟨w.heap.size + 1, 0, none⟩ = some (.string (strB m.base)) := cell_of_row _ _ 0 _ _ _ hM
  have c1 : W.cell? ⟨w.heap.size + 1, 1, none⟩ = some (.slice As m.segs.length cs) := cell_of_row _ _ 1 _ _ _ hM
  have c2 : W.cell? ⟨w.heap.size + 1, 2, none⟩ = some (.string (strB m.log)) := cell_of_row _ _ 2 _ _ _ hM
  have c3 : W.cell? ⟨w.heap.size + 1, 3, none⟩ = some (.int .i64 m.tx) := cell_of_row _ _ 3 _ _ _ hM
  have c4 : W.cell? ⟨w.heap.size + 1, 4, none⟩ = some (.int .i64 m.nx) := cell_of_row _ _ 4 _ _ _ hM
  have hvW := hv.below hB hbW
  have hoW := ho.below hB hbW
  have CE := Lib.hid (rencode_any F As cs m W (h.keep fun b hb => hbW.block b (hF b hb)) (fun b hb => by have := hF b hb; omega) hl hbd)
  rw [hW, hU] at c0 c1 c2 c3 c4
  have HW := Lib.hid (hW.trans (by rw [hU]))
  clear hW hU hbW0 hbU hD0 hM0 hsU h hF U
  generalize hH : w.heap.size = H at *
  have HH := Lib.hid hH
  clear hH
  rw [← HH.out] at c0 c1 c2 c3 c4
  rw [show encM m = (frm (bodyM m), 0) from if_pos hc] at CE
  have hfl := frm_length (bodyM m)
  generalize hbl : frm (bodyM m) = b at *
  clear hbl
  have hsz := wrOps_sz hz (lookL (viewL fl os) draftN).isSome b
  go_enter Tryz.func14, Tryz.ntmps14
  go_wp2_with fail
  rw [← HW.out]
  (with_reducible refine CE.out.mono ?_)
  rintro _ w1 ⟨v1, rfl, hO1, hb1⟩
  rw [HH.out]
  dsimp only at hO1
  have hs1 := hb1.size
  have hD1 := (hb1.block H (by omega)).trans hD
  have hR1 := (hb1.block (H + 2) (by omega)).trans hR
  have hv1 := hvW.below (by omega) hb1
  have ho1 := hoW.below (by omega) hb1
  have hB1 : Below H w w1 := hbW.trans (hb1.mono (by omega))
  have e0 : w1.cell? ⟨H, 0, none⟩ = some (.slice A fl.length c) := cell_of_row _ _ 0 _ _ _ hD1
  have e1 : w1.cell? ⟨H, 1, none⟩ = some (.slice Ao os.length co) := cell_of_row _ _ 1 _ _ _ hD1
  have CB := Lib.hid (rbegin_any B Z _ _ fl os v1 b w1 (by omega) hv1 ho1 hz (by omega) hO1.rd (by omega) (by omega))
  generalize os ++ wrOps (lookL (viewL fl os) draftN).isSome b = os2 at *
  go_wp2_with fail
  (with_reducible refine CB.out.mono ?_)
  rintro _ w2 ⟨_, _, rfl, hv2, ho2, hb2⟩
  have hs2 := hb2.size
  have hR2 := (hb2.block (H + 2) (by omega)).trans hR1
  have CS := Lib.hid (rsync_any B (Z + b.length + 20) _ _ fl os2 w2 (by omega) hv2 ho2 hsz (by omega))
  obtain ⟨A2, c2, rfl, s2, r2, t2⟩ := hv2.open_
  obtain ⟨B2, d2, rfl, u2, v2, z2⟩ := ho2.open_
  have HT2 := Lib.hid t2
  have HZ2 := Lib.hid z2
  clear t2 z2
  generalize viewL fl os2 = fl3 at *
  go_wp2_with fail
  (with_reducible refine CS.out.mono ?_)
  rintro _ w3 ⟨_, _, rfl, hv3, ho3, hb3⟩
  have hs3 := hb3.size
  have hR3 := (hb3.block (H + 2) (by omega)).trans hR2
  obtain ⟨A3, c3, rfl, s3, r3, t3⟩ := hv3.open_
  obtain ⟨B3, d3, rfl, u3, v3, z3⟩ := ho3.open_
  have HT3 := Lib.hid t3
  have HZ3 := Lib.hid z3
  clear t3 z3
  simp only [List.length_nil] at u3 ho3 ⊢
  obtain ⟨g0, g1, g2, g3, g6, g4, g5, hC⟩ := two_store w3 (H + 2) _ _ (.slice A3 fl3.length c3) (.slice B3 0 d3) _ hR3
  clear g6 hD1 hD hM hR
  go_wp2_with fail
  refine bodyPost_ret (v := .tuple #[.agg #[.slice A3 fl3.length c3, .slice B3 0 d3], .int .i64 0]) (by simp [results, Tryz.results14, go_sem, g4, g5]) rfl ?_
  exact ⟨_, _, rfl, FlsRd.box hv3 (by omega) (by omega) hR3 hC, DosRd.box ho3 (by omega) (by omega) hR3 hC, by rw [HH.out]; exact (((hB1.trans (hb2.mono (by omega))).trans (hb3.mono (by omega))).trans (hC.below (B := H) (by omega) (fun i hi => by omega)))⟩
set_option maxRecDepth 100000 in
set_option maxHeartbeats 2000000 in
theorem mread_nil (w : World) : Calls Tryz.prog 5 #[.pointer none] w fun e w' => e = .returned (.tuple #[.agg #[.string ⟨#[]⟩, .slice none 0 0, .string ⟨#[]⟩, .int .i64 0, .int .i64 0], .bool false, .int .i64 0]) ∧ Below w.heap.size w w' := by
  obtain ⟨W, hW⟩ : ∃ W, W = w.alloc (.cells #[.string ⟨#[]⟩, .slice none 0 0, .string ⟨#[]⟩, .int .i64 0, .int .i64 0] 25) := ⟨_, rfl⟩
  have hbW : Below w.heap.size w W := by rw [hW]; exact Below.of_alloc _
  have hsW : W.heap.size = w.heap.size + 1 := by rw [hW]; simp
  have hM : W.heap[w.heap.size]? = some (.cells #[.string ⟨#[]⟩, .slice none 0 0, .string ⟨#[]⟩, .int .i64 0, .int .i64 0] 25 (0, 0)) := by rw [hW]; exact heap_alloc_new w _
  have c0 : W.cell? ⟨w.heap.size, 0, none⟩ = some (.string ⟨#[]⟩) := cell_of_row _ _ 0 _ _ _ hM
  have f0 := frozen_of_row _ _ 0 _ _ hM
  have c1 : W.cell? ⟨w.heap.size, 1, none⟩ = some (.slice none 0 0) := cell_of_row _ _ 1 _ _ _ hM
  have f1 := frozen_of_row _ _ 1 _ _ hM
  have c2 : W.cell? ⟨w.heap.size, 2, none⟩ = some (.string ⟨#[]⟩) := cell_of_row _ _ 2 _ _ _ hM
  have f2 := frozen_of_row _ _ 2 _ _ hM
  have c3 : W.cell? ⟨w.heap.size, 3, none⟩ = some (.int .i64 0) := cell_of_row _ _ 3 _ _ _ hM
  have f3 := frozen_of_row _ _ 3 _ _ hM
  have c4 : W.cell? ⟨w.heap.size, 4, none⟩ = some (.int .i64 0) := cell_of_row _ _ 4 _ _ _ hM
  have f4 := frozen_of_row _ _ 4 _ _ hM
  have HW := Lib.hid hW
  have hnot : ∀ (x : Bool) (w : World), (Op.unary .not (.bool x)).run Tryz.prog w = .ok (.bool (!x)) w := fun _ _ => rfl
  clear hW
  generalize hH : w.heap.size = H at *
  have HH := Lib.hid hH
  clear hH
  go_enter Tryz.func5, Tryz.ntmps5
  go_wp2_with fail
  rw [← HW.out]
  (with_reducible refine (nilR _ W).mono ?_)
  rintro _ w1 ⟨rfl, rfl⟩
  rw [HH.out]
  go_wp2_with fail
  have hrow := row_set5 hM (.string ⟨#[]⟩) (.slice none 0 0) (.string ⟨#[]⟩) (.int .i64 0) (.int .i64 0)
  refine bodyPost_ret (mread_results _ _ H _ _ _ _ _ _ _ rfl rfl rfl hrow) rfl ⟨rfl, ?_⟩
  exact hbW.trans ((five_chg' W H _ _ _ _ _).below (by omega) (fun i hi => by omega))
set_option maxRecDepth 100000 in
theorem mwrite_nil (As : Option Addr) (cs : Nat) (m : Man) (w : World) : Calls Tryz.prog 7 #[.pointer none, manV As cs m] w fun e w' => e = .returned (.int .i64 8) ∧ Below w.heap.size w w' := by
  go_enter Tryz.func7, Tryz.ntmps7
  go_wp2_with fail
  go_ret
  exact ⟨rfl, Below.of_alloc _⟩
end Go.Proofs.YthjephhojngiaaaGreatDoor
