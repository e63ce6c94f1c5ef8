/-
  The reference of logs: Open.
-/
import Derived.Test.YtooojgokkigncaaRtB
import Derived.Test.YtooojgokkigncaaRefJ
import Derived.Test.YtooojgokkigncaaMem6
namespace Go.Proofs.Ytooojgokkigncaa
open Go.RowKit Go.Lib Go.IntWalk

/-- one cell is stored -/
theorem one_store (w : World) (H : Nat) (x a : Value) (t : TypeId) (h : w.heap[H]? = some (.cells #[x] t (0, 0))) :
    w.cell? ⟨H, 0, none⟩ = some x ∧ w.frozen? ⟨H, 0, none⟩ = false ∧ (w.setCell ⟨H, 0, none⟩ a).cell? ⟨H, 0, none⟩ = some a ∧ (w.setCell ⟨H, 0, none⟩ a).heap[H]? = some (.cells #[a] t (0, 0)) ∧ Chg (· = H) w (w.setCell ⟨H, 0, none⟩ a) := by
  have hr2 := heap_setCell_same w H 0 _ _ a h
  exact ⟨cell_of_row w _ 0 _ _ _ h, frozen_of_row w _ 0 _ _ h, cell_of_row _ _ 0 _ _ _ hr2, hr2, Chg.setCell (S := (· = H)) (Chg.refl _ w) (.inl rfl) _⟩
theorem FlsRd.boxL {B H : Nat} {w w' : World} {v : Value} {fl : FL} {cs : Array Value} {fr : Nat × Nat} (h : FlsRd B w v fl) (hB : B ≤ w.heap.size) (hH : B ≤ H) (hr : w.heap[H]? = some (.cells cs 64 fr)) (hc : Chg (· = H) w w') : FlsRd B w' v fl := by
  refine h.chg hB hc (fun b hb => BR_not_cells hH hr (by decide) hb) ?_
  rintro b (hb | ⟨cs, hb⟩) rfl
  · omega
  · rw [hr] at hb; simp only [Option.some.injEq, Obj.cells.injEq] at hb; exact absurd hb.2.1 (by decide)
theorem DosRd.boxL {B H : Nat} {w w' : World} {v : Value} {os : List DOp} {cs : Array Value} {fr : Nat × Nat} (h : DosRd B w v os) (hB : B ≤ w.heap.size) (hH : B ≤ H) (hr : w.heap[H]? = some (.cells cs 64 fr)) (hc : Chg (· = H) w w') : DosRd B w' v os := by
  refine h.chg hB hc (fun b hb => BR_not_cells hH hr (by decide) hb) ?_
  rintro b (hb | ⟨cs, hb⟩) rfl
  · omega
  · rw [hr] at hb; simp only [Option.some.injEq, Obj.cells.injEq] at hb; exact absurd hb.2.1 (by decide)
theorem DatL.box {B H : Nat} {w w' : World} {v : Value} {ls : List (List UInt8)} {cs : Array Value} {t : TypeId} {fr : Nat × Nat} (h : DatL B w v ls) (hB : B ≤ w.heap.size) (hH : B ≤ H) (hr : w.heap[H]? = some (.cells cs t fr)) (h1 : ¬ t = 5) (h2 : ¬ t = 23) (hc : Chg (· = H) w w') : DatL B w' v ls := by
  refine h.chg hB hc (fun b hb => BR_not_cells hH hr h1 hb) ?_
  rintro b (hb | ⟨cs, hb⟩) rfl
  · omega
  · rw [hr] at hb; simp only [Option.some.injEq, Obj.cells.injEq] at hb; exact h2 hb.2.1

/-- what the reference's Open leaves -/
def ROpen (B Z : Nat) (d : FM × List DOp) (recs : List (List UInt8)) (nm : List UInt8) (w0 : World) (e : Ending) (w : World) : Prop :=
  ∃ lv ov v fl, e = .returned (.tuple #[.agg #[lv, ov], .agg #[.string (strB nm)], v, .int .i64 0]) ∧ FlsRd B w lv fl ∧ DosRd B w ov d.2 ∧ IsL d.1 fl ∧ OkOps d.1 d.2 ∧ RSz Z fl d.2 ∧ DatL B w v recs ∧ Below w0.heap.size w0 w
def ROpenBad (B : Nat) (fl : FL) (os : List DOp) (w0 : World) (e : Ending) (w : World) : Prop :=
  ∃ lv ov, e = .returned (.tuple #[.agg #[lv, ov], .agg #[.string ⟨#[]⟩], .slice none 0 0, .int .i64 8]) ∧ FlsRd B w lv fl ∧ DosRd B w ov os ∧ Below w0.heap.size w0 w

set_option maxRecDepth 100000 in
set_option maxHeartbeats 4000000 in
theorem ropen_bad (B : Nat) (lv ov : Value) (fl : FL) (os : List DOp) (nm : List UInt8) (w : World) (hB : B ≤ w.heap.size) (hv : FlsRd B w lv fl) (ho : DosRd B w ov os) (hnl : nm.length ≤ maxLen) (hw : wordF nm = false) :
    Calls Try.prog 39 #[.agg #[lv, ov], .string (strB nm)] w (ROpenBad B fl os w) := by
  obtain ⟨A, c, rfl, a1, a2, a3⟩ := hv.open_
  obtain ⟨Ao, co, rfl, b1, b2, b3⟩ := ho.open_
  have HA3 := Lib.hid a3
  have HB3 := Lib.hid b3
  clear a3 b3
  obtain ⟨W, hW⟩ : ∃ W, W = ((w.alloc (.cells #[.slice A fl.length c, .slice Ao os.length co] 49)).alloc (.cells #[.slice none 0 0, .slice none 0 0] 49)).alloc (.cells #[.string ⟨#[]⟩] 64) := ⟨_, rfl⟩
  have hWs : W.heap.size = w.heap.size + 3 := by rw [hW]; simp
  have hb0 : Below w.heap.size w W := by rw [hW]; exact ((Below.of_alloc _).trans ((Below.of_alloc _).mono (by simp))).trans ((Below.of_alloc _).mono (by simp; omega))
  have hrX : W.heap[w.heap.size]? = some (.cells #[.slice A fl.length c, .slice Ao os.length co] 49 (0, 0)) := by
    rw [hW, Below.heap_alloc _ _ _ (by simp; omega), Below.heap_alloc _ _ _ (by simp)]; exact heap_alloc_new w _
  have hrD : W.heap[w.heap.size + 1]? = some (.cells #[.slice none 0 0, .slice none 0 0] 49 (0, 0)) := by
    rw [hW, Below.heap_alloc _ _ _ (by simp)]
    have := heap_alloc_new (w.alloc (.cells #[.slice A fl.length c, .slice Ao os.length co] 49)) (.cells #[.slice none 0 0, .slice none 0 0] 49)
    simpa using this
  have hrL : W.heap[w.heap.size + 2]? = some (.cells #[.string ⟨#[]⟩] 64 (0, 0)) := by
    have := heap_alloc_new ((w.alloc (.cells #[.slice A fl.length c, .slice Ao os.length co] 49)).alloc (.cells #[.slice none 0 0, .slice none 0 0] 49)) (.cells #[.string ⟨#[]⟩] 64)
    rw [hW]; simpa using this
  have hBW : B ≤ W.heap.size := by omega
  have hvW := hv.below hB hb0
  have hoW := ho.below hB hb0
  have k0 : W.cell? ⟨w.heap.size, 0, none⟩ = some (.slice A fl.length c) := cell_of_row _ _ 0 _ _ _ hrX
  have k1 : W.cell? ⟨w.heap.size, 1, none⟩ = some (.slice Ao os.length co) := cell_of_row _ _ 1 _ _ _ hrX
  have HW := Lib.hid hW
  clear hW hv ho
  have CN := Lib.hid (rname_any nm W hnl)
  rw [hw] at CN
  go_enter Try.func39, Try.ntmps39
  go_wp2_with fail
  rw [← HW.out]
  (with_reducible refine CN.out.mono ?_)
  rintro e W' ⟨rfl, rfl⟩
  clear CN
  obtain ⟨q0, q1, q2, q3, q6, q4, q5, hC⟩ := two_store W (w.heap.size + 1) (.slice none 0 0) (.slice none 0 0) (.slice A fl.length c) (.slice Ao os.length co) _ hrD
  have hlF := FlsRd.box hvW (by omega) (by omega) hrD hC
  have hoF := DosRd.box hoW (by omega) (by omega) hrD hC
  have hszF := hC.size
  have hL9 := (hC.block (w.heap.size + 2) (by omega) (by omega)).trans hrL
  generalize hWF : ((W).setCell ⟨w.heap.size + 1, 0, none⟩ (.slice A fl.length c)).setCell ⟨w.heap.size + 1, 1, none⟩ (.slice Ao os.length co) = WF at *
  obtain ⟨m0, m1, m2, m3, hC2⟩ := one_store WF (w.heap.size + 2) (.string ⟨#[]⟩) (.string ⟨#[]⟩) _ hL9
  have hlG := hlF.boxL (by omega) (by omega) hL9 hC2
  have hoG := hoF.boxL (by omega) (by omega) hL9 hC2
  have hRow := (hC2.block (w.heap.size + 1) (by omega) (by omega)).trans q6
  have q4' : (WF.setCell ⟨w.heap.size + 2, 0, none⟩ (.string ⟨#[]⟩)).cell? ⟨w.heap.size + 1, 0, none⟩ = some (.slice A fl.length c) := cell_of_row _ _ 0 _ _ _ hRow
  have q5' : (WF.setCell ⟨w.heap.size + 2, 0, none⟩ (.string ⟨#[]⟩)).cell? ⟨w.heap.size + 1, 1, none⟩ = some (.slice Ao os.length co) := cell_of_row _ _ 1 _ _ _ hRow
  have hbG : Below w.heap.size W (WF.setCell ⟨w.heap.size + 2, 0, none⟩ (.string ⟨#[]⟩)) := (hC.below (B := w.heap.size) (by omega) (fun i hi => by omega)).trans (hC2.below (B := w.heap.size) (by omega) (fun i hi => by omega))
  clear hRow hL9 q6 hlF hoF
  rw [← hWF] at m0 m1 m2 m3 q4' q5'
  have HWF := Lib.hid hWF
  clear hWF
  go_wp2_with fail
  refine bodyPost_ret (v := .tuple #[.agg #[.slice A fl.length c, .slice Ao os.length co], .agg #[.string ⟨#[]⟩], .slice none 0 0, .int .i64 8]) (by simp [results, Try.results39, go_sem, q4', q5', m2]) rfl ?_
  rw [HWF.out]
  exact ⟨_, _, rfl, hlG, hoG, hb0.trans hbG⟩

set_option maxRecDepth 100000 in
set_option maxHeartbeats 8000000 in
theorem ropen_ok (B Z : Nat) (lv ov : Value) (fm : FM) (fl : FL) (os : List DOp) (nm : List UInt8) (w : World) (hB : B ≤ w.heap.size) (hv : FlsRd B w lv fl) (ho : DosRd B w ov os) (hI : IsL fm fl) (hK : OkOps fm os) (hz : RSz Z fl os) (hZ : Z ≤ 1073741824) (hw : wordF nm = true) :
    Calls Try.prog 39 #[.agg #[lv, ov], .string (strB nm)] w (ROpen B (Z + ((viewF fm os nm).getD []).length + 3) (openD fm os nm) (scanF ((viewF fm os nm).getD [])).1 nm w) := by
  have hnl : nm.length ≤ maxLen := by
    unfold wordF at hw; simp only [Bool.and_eq_true, decide_eq_true_eq] at hw; unfold maxLen; omega
  obtain ⟨A, c, rfl, a1, a2, a3⟩ := hv.open_
  obtain ⟨Ao, co, rfl, b1, b2, b3⟩ := ho.open_
  have HA3 := Lib.hid a3
  have HB3 := Lib.hid b3
  clear a3 b3
  obtain ⟨W, hW⟩ : ∃ W, W = ((w.alloc (.cells #[.slice A fl.length c, .slice Ao os.length co] 49)).alloc (.cells #[.slice none 0 0, .slice none 0 0] 49)).alloc (.cells #[.string ⟨#[]⟩] 64) := ⟨_, rfl⟩
  have hWs : W.heap.size = w.heap.size + 3 := by rw [hW]; simp
  have hb0 : Below w.heap.size w W := by rw [hW]; exact ((Below.of_alloc _).trans ((Below.of_alloc _).mono (by simp))).trans ((Below.of_alloc _).mono (by simp; omega))
  have hrX : W.heap[w.heap.size]? = some (.cells #[.slice A fl.length c, .slice Ao os.length co] 49 (0, 0)) := by
    rw [hW, Below.heap_alloc _ _ _ (by simp; omega), Below.heap_alloc _ _ _ (by simp)]; exact heap_alloc_new w _
  have hrD : W.heap[w.heap.size + 1]? = some (.cells #[.slice none 0 0, .slice none 0 0] 49 (0, 0)) := by
    rw [hW, Below.heap_alloc _ _ _ (by simp)]
    have := heap_alloc_new (w.alloc (.cells #[.slice A fl.length c, .slice Ao os.length co] 49)) (.cells #[.slice none 0 0, .slice none 0 0] 49)
    simpa using this
  have hrL : W.heap[w.heap.size + 2]? = some (.cells #[.string ⟨#[]⟩] 64 (0, 0)) := by
    have := heap_alloc_new ((w.alloc (.cells #[.slice A fl.length c, .slice Ao os.length co] 49)).alloc (.cells #[.slice none 0 0, .slice none 0 0] 49)) (.cells #[.string ⟨#[]⟩] 64)
    rw [hW]; simpa using this
  have hBW : B ≤ W.heap.size := by omega
  have hvW := hv.below hB hb0
  have hoW := ho.below hB hb0
  have k0 : W.cell? ⟨w.heap.size, 0, none⟩ = some (.slice A fl.length c) := cell_of_row _ _ 0 _ _ _ hrX
  have k1 : W.cell? ⟨w.heap.size, 1, none⟩ = some (.slice Ao os.length co) := cell_of_row _ _ 1 _ _ _ hrX
  have HW := Lib.hid hW
  clear hW hv ho
  have CN := Lib.hid (rname_any nm W hnl)
  rw [hw] at CN
  have HIV := hI.view hK
  have CR := Lib.hid (rread_any B Z _ _ fl os nm W hBW hvW hoW hz (by omega))
  rw [HIV.2 nm] at CR
  have hgl : ((viewF fm os nm).getD []).length ≤ Z := by
    cases hx : viewF fm os nm with
    | none => simp
    | some l => have := hz.view.file (nm, l) (lookL_mem ((HIV.2 nm).trans hx)); simp only [Option.getD_some] at this ⊢; omega
  have HOD : Hid (openD fm os nm = if (scanF ((viewF fm os nm).getD [])).2 < ((viewF fm os nm).getD []).length then
    (viewF fm (repOps fm os nm (((viewF fm os nm).getD []).take (scanF ((viewF fm os nm).getD [])).2)), []) else (fm, os)) := Lib.hid rfl
  generalize openD fm os nm = od at *
  generalize viewF fm os nm = ob at *
  have hen := (scanF_inv (ob.getD [])).2.2
  generalize hbl : ob.getD [] = bl at *
  generalize hsc : scanF bl = sc at *
  obtain ⟨recs, en⟩ := sc
  simp only at *
  have HSC := Lib.hid hsc
  have HIVH := Lib.hid HIV
  clear hsc HIV
  obtain ⟨i1, hi1, hy0, hy1, hy2⟩ := info_parts infoB
  have hshi := fun (A : Option Addr) (n c h : Nat) (h1 : h ≤ c) (w : World) => run_slice_hi (P := Try.prog) Try.underlying23 hi1 A n c h h1 w
  have HSH := Lib.hid hshi
  clear hi1 hy0 hy1 hy2 hshi
  go_enter Try.func39, Try.ntmps39
  go_wp2_with fail
  rw [← HW.out]
  (with_reducible refine CN.out.mono ?_)
  rintro e W' ⟨rfl, rfl⟩
  clear CN
  go_wp2_with fail
  (with_reducible refine CR.out.mono ?_)
  rintro e w1 ⟨vb, rfl, hOb, hb1⟩
  rw [hbl] at hOb
  clear CR
  have hs1 := hb1.size
  obtain ⟨Ab, cb, rfl, z1, z2, z3⟩ := hOb.rd.open_
  have HZ3 := Lib.hid z3
  clear z3
  have CS := Lib.hid (tscan_any _ bl w1 hOb.rd (by omega))
  rw [HSC.out] at CS
  go_wp2_with fail
  (with_reducible refine CS.out.mono ?_)
  rintro e w2 ⟨vr, rfl, hOr, hb2⟩
  clear CS
  have hb12 : Below W.heap.size W w2 := hb1.trans (hb2.mono hs1)
  have hs2 := hb12.size
  have hB2 : B ≤ w2.heap.size := by omega
  have hv2 := hvW.below hBW hb12
  have ho2 := hoW.below hBW hb12
  have hX2 := (hb12.block w.heap.size (by omega)).trans hrX
  have hD2 := (hb12.block (w.heap.size + 1) (by omega)).trans hrD
  have hL2 := (hb12.block (w.heap.size + 2) (by omega)).trans hrL
  have hR2 : DatL B w2 vr recs := hOr.dat
  have hbb2 : DatB B w2 (.slice Ab bl.length cb) bl := (DatB.of_own hOb).below (by omega) hb2
  obtain ⟨Ar, cr, rfl, r1, r2, r3⟩ := hR2.open_
  have HR3 := Lib.hid r3
  clear r3 hOr
  generalize hnr : recs.length = nr at *
  clear hnr
  have g0 : w2.cell? ⟨w.heap.size, 0, none⟩ = some (.slice A fl.length c) := cell_of_row _ _ 0 _ _ _ hX2
  have g1 : w2.cell? ⟨w.heap.size, 1, none⟩ = some (.slice Ao os.length co) := cell_of_row _ _ 1 _ _ _ hX2
  by_cases hlt : en < bl.length
  · have q9 : (en : Int) < (bl.length : Int) := by omega
    have hod : od = (viewF fm (repOps fm os nm (bl.take en)), []) := by rw [HOD.out, if_pos hlt]
    have HODE := Lib.hid hod
    clear hod HOD
    have CT := Lib.hid (rread_any B Z _ _ fl os tornN w2 hB2 hv2 ho2 hz (by omega))
    rw [HIVH.out.2 tornN] at CT
    generalize hvt : viewF fm os tornN = ot at *
    cases hto' : ot.isSome with
    | true =>
      have hto : (viewF fm os tornN).isSome = true := by rw [hvt]; exact hto'
      go_wp2_with fail
      rw [tornV]
      (with_reducible refine CT.out.mono ?_)
      rintro e w3 ⟨vt, he, _, hb3⟩
      rw [hto'] at he
      subst he
      clear CT
      have hs3 := hb3.size
      have hv3 := hv2.below hB2 hb3
      have ho3 := ho2.below hB2 hb3
      have hX3 := (hb3.block w.heap.size (by omega)).trans hX2
      have hD3 := (hb3.block (w.heap.size + 1) (by omega)).trans hD2
      have hL3 := (hb3.block (w.heap.size + 2) (by omega)).trans hL2
      have hR3 := hR2.below hB2 hb3
      have hbb3 := hbb2.below hB2 hb3
      have f0 : w3.cell? ⟨w.heap.size, 0, none⟩ = some (.slice A fl.length c) := cell_of_row _ _ 0 _ _ _ hX3
      have f1 : w3.cell? ⟨w.heap.size, 1, none⟩ = some (.slice Ao os.length co) := cell_of_row _ _ 1 _ _ _ hX3
      have hol : os.length ≤ 1099511627776 := by have := hz.len; omega
      have CRM := Lib.hid (rremove_ok B Z _ _ fl os tornN w3 (by omega) hv3 ho3 hz (by omega) (by rw [HIVH.out.2 tornN]; exact hto) hol)
      obtain ⟨At, ct, rfl, _, _, _⟩ : ∃ A c, vt = .slice A (ot.getD []).length c ∧ True ∧ True ∧ True := by
        rename_i hot; obtain ⟨A, c, e, _⟩ := hot.rd.open_; exact ⟨A, c, e, trivial, trivial, trivial⟩
      go_wp2_with fail
      rw [tornV]
      (with_reducible refine CRM.out.mono ?_)
      rintro e w4 ⟨l4, o4, rfl, hl4, ho4, hb4⟩
      clear CRM f0 f1 g0 g1
      have hs4 := hb4.size
      obtain ⟨A4, c4, rfl, _, _, j3⟩ := hl4.open_
      obtain ⟨B4, d4, rfl, _, _, j4⟩ := ho4.open_
      have HJ3 := Lib.hid j3
      have HJ4 := Lib.hid j4
      clear j3 j4
      generalize hn4 : (os ++ [(⟨1, tornN, [], []⟩ : DOp)]).length = n4 at *
      clear hn4
      have hX4 := (hb4.block w.heap.size (by omega)).trans hX3
      obtain ⟨q0, q1, q2, q3, q6, q4, q5, hC5⟩ := two_store w4 w.heap.size (.slice A fl.length c) (.slice Ao os.length co) (.slice A4 fl.length c4) (.slice B4 n4 d4) _ hX4
      have hln := FlsRd.box hl4 (by omega) (by omega) hX4 hC5
      have hon := DosRd.box ho4 (by omega) (by omega) hX4 hC5
      have hRn := (hR3.below (by omega) hb4).box (by omega) (by omega) hX4 (by decide) (by decide) hC5
      have hbbn := (hbb3.below (by omega) hb4).chg (by omega) hC5 (fun b hb => BR_not_cells (by omega) hX4 (by decide) hb)
      have hDn := (hC5.block (w.heap.size + 1) (by omega) (by omega)).trans ((hb4.block (w.heap.size + 1) (by omega)).trans hD3)
      have hLn := (hC5.block (w.heap.size + 2) (by omega) (by omega)).trans ((hb4.block (w.heap.size + 2) (by omega)).trans hL3)
      have hs5 := hC5.size
      have hb5 := hC5.below (B := w.heap.size) (by omega) (fun i hi => by omega)
      have hbWn : Below w.heap.size w ((w4.setCell ⟨w.heap.size, 0, none⟩ (.slice A4 fl.length c4)).setCell ⟨w.heap.size, 1, none⟩ (.slice B4 n4 d4)) := ((((hb0.trans (hb12.mono (by omega))).trans (hb3.mono (by omega))).trans (hb4.mono (by omega))).trans hb5)
      have hXn := q6
      have g0 := q4
      have g1 := q5
      clear q4 q5 q6
      go_wp2_with fail
      clear q0 q1 q2 q3
      generalize (w4.setCell ⟨w.heap.size, 0, none⟩ (.slice A4 fl.length c4)).setCell ⟨w.heap.size, 1, none⟩ (.slice B4 n4 d4) = wn at *
      have hBn : B ≤ wn.heap.size := by omega
      have hK1 : OkOps fm (os ++ [(⟨1, tornN, [], []⟩ : DOp)]) := hK.snoc (by simp) (by simp)
      have hz1 : RSz (Z + 1) fl (os ++ [(⟨1, tornN, [], []⟩ : DOp)]) := (hz.push (o := ⟨1, tornN, [], []⟩) (by simp)).mono (by simp)
      have hol1 : (os ++ [(⟨1, tornN, [], []⟩ : DOp)]).length ≤ 1073741825 := by have := hz1.len; omega
      have HZ2 : Hid (RSz (Z + 2 + (bl.take en).length) fl ((os ++ [(⟨1, tornN, [], []⟩ : DOp)]) ++ [(⟨0, tornN, [], bl.take en⟩ : DOp)])) := Lib.hid ((hz1.push (o := ⟨0, tornN, [], bl.take en⟩) (by simp)).mono (by simp only; omega))
      have hK2 : OkOps fm ((os ++ [(⟨1, tornN, [], []⟩ : DOp)]) ++ [(⟨0, tornN, [], bl.take en⟩ : DOp)]) := hK1.snoc (by simp) (by simp)
      have HX2 : Hid ((lookL (viewL fl ((os ++ [(⟨1, tornN, [], []⟩ : DOp)]) ++ [(⟨0, tornN, [], bl.take en⟩ : DOp)])) tornN).isSome = true) := Lib.hid (by rw [(hI.view hK2).2 tornN]; exact view_add fm (os ++ [(⟨1, tornN, [], []⟩ : DOp)]) tornN (bl.take en))
      have HZ3' : Hid (RSz (Z + 3 + (bl.take en).length) fl (((os ++ [(⟨1, tornN, [], []⟩ : DOp)]) ++ [(⟨0, tornN, [], bl.take en⟩ : DOp)]) ++ [(⟨2, tornN, nm, []⟩ : DOp)])) := Lib.hid ((HZ2.out.push (o := ⟨2, tornN, nm, []⟩) (by simp)).mono (by simp only [List.length_nil]; omega))
      have hK3 : OkOps fm (((os ++ [(⟨1, tornN, [], []⟩ : DOp)]) ++ [(⟨0, tornN, [], bl.take en⟩ : DOp)]) ++ [(⟨2, tornN, nm, []⟩ : DOp)]) := hK2.snoc (by simp) (fun _ => view_add fm (os ++ [(⟨1, tornN, [], []⟩ : DOp)]) tornN (bl.take en))
      have HIV3 : Hid (IsL (viewF fm (repOps fm os nm (bl.take en))) (viewL fl (((os ++ [(⟨1, tornN, [], []⟩ : DOp)]) ++ [(⟨0, tornN, [], bl.take en⟩ : DOp)]) ++ [(⟨2, tornN, nm, []⟩ : DOp)]))) := Lib.hid (by rw [repOps, if_pos hto]; exact hI.view hK3)
      refine wp_region_noPanic ?_
      refine beginU (S := (fun w' => w'.heap[w.heap.size]? = wn.heap[w.heap.size]?)) 8 (by kernel_rfl) ?_ (fun hHeld => ?_)
      · rfl
      refine takeU 0 (some 46) (v := ?_) rfl rfl (by kernel_rfl) (by kernel_rfl) (by kernel_rfl) (by kernel_rfl) (by rfl) hHeld (fun _ _ _ h => h) ?_ ?_
      rotate_left
      · intro w' hSw; (try dsimp only at hSw); have q0 := (World.cell?_of_block (w := wn) (a := ⟨w.heap.size, 0, none⟩) hSw).trans g0; have q1 := (World.cell?_of_block (w := wn) (a := ⟨w.heap.size, 1, none⟩) hSw).trans g1; go_simp <;> with_reducible rfl
      simp only [Act.put, List.setIfInBounds_toArray, List.set_cons_zero, List.set_cons_succ]
      refine takeU 1 (some 47) (v := ?_) rfl rfl (by kernel_rfl) (by kernel_rfl) (by kernel_rfl) (by kernel_rfl) (by rfl) hHeld (fun _ _ _ h => h) ?_ ?_
      rotate_left
      · intro w' hSw; (try dsimp only at hSw); go_simp <;> with_reducible rfl
      simp only [Act.put, List.setIfInBounds_toArray, List.set_cons_zero, List.set_cons_succ]
      refine takeU 2 (some 48) (v := ?_) rfl rfl (by kernel_rfl) (by kernel_rfl) (by kernel_rfl) (by kernel_rfl) (by rfl) hHeld (fun _ _ _ h => h) ?_ ?_
      rotate_left
      · intro w' hSw; (try dsimp only at hSw); go_simp <;> with_reducible rfl
      simp only [Act.put, List.setIfInBounds_toArray, List.set_cons_zero, List.set_cons_succ]
      refine takeU 3 (some 49) (v := ?_) rfl rfl (by kernel_rfl) (by kernel_rfl) (by kernel_rfl) (by kernel_rfl) (by rfl) hHeld (fun _ _ _ h => h) ?_ ?_
      rotate_left
      · intro w' hSw; (try dsimp only at hSw); have q0 := HSH.out Ab bl.length cb en (by omega); go_simp <;> with_reducible rfl
      simp only [Act.put, List.setIfInBounds_toArray, List.set_cons_zero, List.set_cons_succ]
      refine forkU1 4 (by kernel_rfl) (by decide) ?_
      refine callF 4 (some 50) (f := ?_) (args := ?_) rfl rfl (by rfl) ?_ ?_
      rotate_left 2
      · go_simp <;> first | (constructor <;> with_reducible rfl) | with_reducible rfl
      rw [tornV]
      (with_reducible refine (rappend_ok B _ _ fl (os ++ [(⟨1, tornN, [], []⟩ : DOp)]) tornN (.slice Ab en cb) (bl.take en) wn.drew ?_ ?_ ?_ torn_len torn_word ?_ ?_ ?_).mono ?_)
      · exact hBn
      · exact hln
      · exact hon
      · exact Rd.drew ((hbbn.take en (by omega)).rd hBn)
      · exact Nat.le_trans hol1 (by omega)
      · rw [List.length_take]; omega
      rintro e w6 ⟨l6, o6, rfl, hl6, ho6, hb6'⟩
      have hb6 : Below wn.heap.size wn w6 := Below.undrew hb6'
      clear hb6'
      have hs6 := hb6.size
      obtain ⟨A6, c6, rfl, u1, u2, u3⟩ := hl6.open_
      obtain ⟨B6, d6, rfl, t1, t2, t3⟩ := ho6.open_
      have HU3 := Lib.hid u3
      have HT3 := Lib.hid t3
      clear u3 t3
      have hol2 : ((os ++ [(⟨1, tornN, [], []⟩ : DOp)]) ++ [(⟨0, tornN, [], bl.take en⟩ : DOp)]).length ≤ 1073741826 := by rw [List.length_append]; simp only [List.length_cons, List.length_nil]; omega
      generalize hn6 : ((os ++ [(⟨1, tornN, [], []⟩ : DOp)]) ++ [(⟨0, tornN, [], bl.take en⟩ : DOp)]).length = n6 at *
      have HN6 := Lib.hid hn6
      clear hn6
      have hX6 := (hb6.block w.heap.size (by omega)).trans hXn
      have hD6 := (hb6.block (w.heap.size + 1) (by omega)).trans hDn
      have hL6 := (hb6.block (w.heap.size + 2) (by omega)).trans hLn
      have hR6 := hRn.below hBn hb6
      obtain ⟨q0, q1, q2, q3, q6, q4, q5, hC7⟩ := two_store w6 w.heap.size (.slice A4 fl.length c4) (.slice B4 n4 d4) (.slice A6 fl.length c6) (.slice B6 n6 d6) _ hX6
      have hl7 := FlsRd.box hl6 (by omega) (by omega) hX6 hC7
      have ho7 := DosRd.box ho6 (by omega) (by omega) hX6 hC7
      have hR7 := hR6.box (by omega) (by omega) hX6 (by decide) (by decide) hC7
      have hD7 := (hC7.block (w.heap.size + 1) (by omega) (by omega)).trans hD6
      have hL7 := (hC7.block (w.heap.size + 2) (by omega) (by omega)).trans hL6
      have hs7 := hC7.size
      have hb7 : Below w.heap.size w6 ((w6.setCell ⟨w.heap.size, 0, none⟩ (.slice A6 fl.length c6)).setCell ⟨w.heap.size, 1, none⟩ (.slice B6 n6 d6)) := hC7.below (by omega) (fun i hi => by omega)
      refine ⟨_, rfl, ?_⟩
      refine keepAnd ?_ (fun hNew => ?_)
      · exact (hb6.block w.heap.size (by omega))
      clear hHeld
      have hHeld := hNew
      clear hNew
      simp only [Act.put, List.setIfInBounds_toArray, List.set_cons_zero, List.set_cons_succ]
      refine takeU 5 (some 45) (v := ?_) rfl rfl (by kernel_rfl) (by kernel_rfl) (by kernel_rfl) (by kernel_rfl) (by rfl) hHeld (fun _ _ _ h => h) ?_ ?_
      rotate_left
      · intro w' hSw; (try dsimp only at hSw); go_simp <;> with_reducible rfl
      simp only [Act.put, List.setIfInBounds_toArray, List.set_cons_zero, List.set_cons_succ]
      refine takeU 6 (some 51) (v := ?_) rfl rfl (by kernel_rfl) (by kernel_rfl) (by kernel_rfl) (by kernel_rfl) (by rfl) hHeld (fun _ _ _ h => h) ?_ ?_
      rotate_left
      · intro w' hSw; (try dsimp only at hSw); go_simp <;> with_reducible rfl
      simp only [Act.put, List.setIfInBounds_toArray, List.set_cons_zero, List.set_cons_succ]
      refine forkU2 7 (.inl (by kernel_rfl)) (by decide) ?_ ?_
      · refine runF 7 (some 52) (v := ?_) (w' := ?_) rfl rfl (by rfl) ?_ ?_
        rotate_left 2
        · go_simp <;> first | with_reducible rfl | (constructor <;> with_reducible rfl)
        refine keepAnd ?_ (fun hNew => ?_)
        · exact hHeld
        clear hHeld
        have hHeld := hNew
        clear hNew
        simp only [Act.put, List.setIfInBounds_toArray, List.set_cons_zero, List.set_cons_succ]
        refine lastU (by kernel_rfl) ?_
        refine skipRunF 8 none (w' := (w6.setCell ⟨w.heap.size, 0, none⟩ (.slice A6 fl.length c6)).setCell ⟨w.heap.size, 1, none⟩ (.slice B6 n6 d6)) rfl rfl (by rfl) ?_ ?_
        · go_simp <;> with_reducible rfl
        clear hHeld
        simp only [Act.put]
        refine wpAny_of_T (S := fun _ => True) (last := 9) _ _ _ _ ?_
        have hHeld : True := trivial
        refine doneT (by kernel_rfl) ?_ _
        refine NoPanic.normal ?_
        generalize (w6.setCell ⟨w.heap.size, 0, none⟩ (.slice A6 fl.length c6)).setCell ⟨w.heap.size, 1, none⟩ (.slice B6 n6 d6) = w7 at *
        clear q0 q1 q2 q3
        have CRN := Lib.hid (rrename_ok B (Z + 2 + (bl.take en).length) _ _ fl ((os ++ [(⟨1, tornN, [], []⟩ : DOp)]) ++ [(⟨0, tornN, [], bl.take en⟩ : DOp)]) tornN nm w7 (by omega) hl7 ho7 HZ2.out (by rw [List.length_take]; omega) HX2.out hnl hw (by rw [HN6.out]; omega))
        go_wp2_with fail
        rw [tornV]
        (with_reducible refine CRN.out.mono ?_)
        rintro e w8 ⟨l8, o8, rfl, hl8, ho8, hb8⟩
        clear CRN
        have hs8 := hb8.size
        obtain ⟨A8, c8, rfl, x1, x2, x3⟩ := hl8.open_
        obtain ⟨B8, d8, rfl, y1, y2, y3⟩ := ho8.open_
        have HX3 := Lib.hid x3
        have HY3 := Lib.hid y3
        clear x3 y3
        generalize hn8 : (((os ++ [(⟨1, tornN, [], []⟩ : DOp)]) ++ [(⟨0, tornN, [], bl.take en⟩ : DOp)]) ++ [(⟨2, tornN, nm, []⟩ : DOp)]).length = n8 at *
        clear hn8
        have hX8 := (hb8.block w.heap.size (by omega)).trans q6
        have hD8 := (hb8.block (w.heap.size + 1) (by omega)).trans hD7
        have hL8 := (hb8.block (w.heap.size + 2) (by omega)).trans hL7
        have hR8 := hR7.below (by omega) hb8
        clear q4 q5 q6
        obtain ⟨q0, q1, q2, q3, q6, q4, q5, hC9⟩ := two_store w8 w.heap.size (.slice A6 fl.length c6) (.slice B6 n6 d6) (.slice A8 fl.length c8) (.slice B8 n8 d8) _ hX8
        have hl9 := FlsRd.box hl8 (by omega) (by omega) hX8 hC9
        have ho9 := DosRd.box ho8 (by omega) (by omega) hX8 hC9
        have hR9 := hR8.box (by omega) (by omega) hX8 (by decide) (by decide) hC9
        have hD9 := (hC9.block (w.heap.size + 1) (by omega) (by omega)).trans hD8
        have hL9' := (hC9.block (w.heap.size + 2) (by omega) (by omega)).trans hL8
        have hs9 := hC9.size
        have hb9 := hC9.below (B := w.heap.size) (by omega) (fun i hi => by omega)
        have CSY := Lib.hid (rsync_any B (Z + 3 + (bl.take en).length) _ _ fl (((os ++ [(⟨1, tornN, [], []⟩ : DOp)]) ++ [(⟨0, tornN, [], bl.take en⟩ : DOp)]) ++ [(⟨2, tornN, nm, []⟩ : DOp)]) _ (by omega) hl9 ho9 HZ3'.out (by rw [List.length_take]; omega))
        go_wp2_with fail
        (with_reducible refine CSY.out.mono ?_)
        rintro e w10 ⟨l10, o10, rfl, hl10, ho10, hb10⟩
        clear CSY
        generalize (w8.setCell ⟨w.heap.size, 0, none⟩ (.slice A8 fl.length c8)).setCell ⟨w.heap.size, 1, none⟩ (.slice B8 n8 d8) = w9 at *
        have hs10 := hb10.size
        obtain ⟨A10, c10, rfl, x1, x2, x3⟩ := hl10.open_
        obtain ⟨B10, d10, rfl, y1, y2, y3⟩ := ho10.open_
        have HX3' := Lib.hid x3
        have HY3' := Lib.hid y3
        clear x3 y3
        generalize hn10 : (viewL fl (((os ++ [(⟨1, tornN, [], []⟩ : DOp)]) ++ [(⟨0, tornN, [], bl.take en⟩ : DOp)]) ++ [(⟨2, tornN, nm, []⟩ : DOp)])).length = n10 at *
        clear hn10
        have hX10 := (hb10.block w.heap.size (by omega)).trans q6
        have hD10 := (hb10.block (w.heap.size + 1) (by omega)).trans hD9
        have hL10 := (hb10.block (w.heap.size + 2) (by omega)).trans hL9'
        have hR10 := hR9.below (by omega) hb10
        clear q0 q1 q2 q3 q4 q5 q6
        rw [List.length_nil] at *
        obtain ⟨q0', q1', q2', q3', q6', q4x, q5x, hC11⟩ := two_store w10 w.heap.size (.slice A8 fl.length c8) (.slice B8 n8 d8) (.slice A10 n10 c10) (.slice B10 0 d10) _ hX10
        have hl11 := FlsRd.box hl10 (by omega) (by omega) hX10 hC11
        have ho11 := DosRd.box ho10 (by omega) (by omega) hX10 hC11
        have hR11 := hR10.box (by omega) (by omega) hX10 (by decide) (by decide) hC11
        have hD11 := (hC11.block (w.heap.size + 1) (by omega) (by omega)).trans hD10
        have hL11 := (hC11.block (w.heap.size + 2) (by omega) (by omega)).trans hL10
        have hs11 := hC11.size
        have hb11 := hC11.below (B := w.heap.size) (by omega) (fun i hi => by omega)
        obtain ⟨W11, hW11⟩ : ∃ W, W = (w10.setCell ⟨w.heap.size, 0, none⟩ (.slice A10 n10 c10)).setCell ⟨w.heap.size, 1, none⟩ (.slice B10 0 d10) := ⟨_, rfl⟩
        rw [← hW11] at hl11 ho11 hR11 hD11 hL11 hs11 hb11 hC11
        obtain ⟨q0, q1, q2, q3, q6, q4, q5, hC⟩ := two_store W11 (w.heap.size + 1) (.slice none 0 0) (.slice none 0 0) (.slice A10 n10 c10) (.slice B10 0 d10) _ hD11
        have hlF := FlsRd.box hl11 (by omega) (by omega) hD11 hC
        have hoF := DosRd.box ho11 (by omega) (by omega) hD11 hC
        have hszF := hC.size
        have hL9 := (hC.block (w.heap.size + 2) (by omega) (by omega)).trans hL11
        generalize hWF : ((W11).setCell ⟨w.heap.size + 1, 0, none⟩ (.slice A10 n10 c10)).setCell ⟨w.heap.size + 1, 1, none⟩ (.slice B10 0 d10) = WF at *
        obtain ⟨m0, m1, m2, m3, hC2⟩ := one_store WF (w.heap.size + 2) (.string ⟨#[]⟩) (.string (strB nm)) _ hL9
        have hlG := hlF.boxL (by omega) (by omega) hL9 hC2
        have hoG := hoF.boxL (by omega) (by omega) hL9 hC2
        have hRow := (hC2.block (w.heap.size + 1) (by omega) (by omega)).trans q6
        have q4' : (WF.setCell ⟨w.heap.size + 2, 0, none⟩ (.string (strB nm))).cell? ⟨w.heap.size + 1, 0, none⟩ = some (.slice A10 n10 c10) := cell_of_row _ _ 0 _ _ _ hRow
        have q5' : (WF.setCell ⟨w.heap.size + 2, 0, none⟩ (.string (strB nm))).cell? ⟨w.heap.size + 1, 1, none⟩ = some (.slice B10 0 d10) := cell_of_row _ _ 1 _ _ _ hRow
        have hbG : Below w.heap.size W11 (WF.setCell ⟨w.heap.size + 2, 0, none⟩ (.string (strB nm))) := (hC.below (B := w.heap.size) (by omega) (fun i hi => by omega)).trans (hC2.below (B := w.heap.size) (by omega) (fun i hi => by omega))
        have hRG := (hR11.box (by omega) (by omega) hD11 (by decide) (by decide) hC).box (by omega) (by omega) hL9 (by decide) (by decide) hC2
        rw [hW11] at q0 q1 q2 q3 hWF
        clear hRow hL9 q6 hlF hoF
        rw [← hWF] at m0 m1 m2 m3 q4' q5'
        have HWF := Lib.hid hWF
        clear hWF
        go_wp2_with fail
        refine bodyPost_ret (v := .tuple #[.agg #[.slice A10 n10 c10, .slice B10 0 d10], .agg #[.string (strB nm)], .slice Ar nr cr, .int .i64 0]) (by simp [results, Try.results39, go_sem, q4', q5', m2]) rfl ?_
        rw [HWF.out]
        have hodv := HODE.out
        subst hodv
        refine ⟨_, _, _, _, rfl, hlG, hoG, HIV3.out, trivial, ?_, hRG, ?_⟩
        · have := (HZ3'.out.view).mono (Z' := Z + bl.length + 3) (by rw [List.length_take]; omega)
          exact this
        · exact ((((((hbWn.trans (hb6.mono (by omega))).trans hb7).trans (hb8.mono (by omega))).trans hb9).trans (hb10.mono (by omega))).trans hb11).trans hbG
      · refine skipRunF 8 none (w' := (w6.setCell ⟨w.heap.size, 0, none⟩ (.slice A6 fl.length c6)).setCell ⟨w.heap.size, 1, none⟩ (.slice B6 n6 d6)) rfl rfl (by rfl) ?_ ?_
        · go_simp <;> with_reducible rfl
        clear hHeld
        simp only [Act.put]
        refine wpAny_of_T (S := fun _ => True) (last := 9) _ _ _ _ ?_
        have hHeld : True := trivial
        refine fork1 7 (by kernel_rfl) ?_
        refine runF 7 (some 52) (v := ?_) (w' := ?_) rfl rfl (by rfl) ?_ ?_
        rotate_left 2
        · go_simp <;> first | with_reducible rfl | (constructor <;> with_reducible rfl)
        refine ⟨fun _ => trivial, ?_⟩
        simp only [Act.put, List.setIfInBounds_toArray, List.set_cons_zero, List.set_cons_succ]
        refine doneT (by kernel_rfl) ?_ _
        refine NoPanic.normal ?_
        generalize (w6.setCell ⟨w.heap.size, 0, none⟩ (.slice A6 fl.length c6)).setCell ⟨w.heap.size, 1, none⟩ (.slice B6 n6 d6) = w7 at *
        clear q0 q1 q2 q3
        have CRN := Lib.hid (rrename_ok B (Z + 2 + (bl.take en).length) _ _ fl ((os ++ [(⟨1, tornN, [], []⟩ : DOp)]) ++ [(⟨0, tornN, [], bl.take en⟩ : DOp)]) tornN nm w7 (by omega) hl7 ho7 HZ2.out (by rw [List.length_take]; omega) HX2.out hnl hw (by rw [HN6.out]; omega))
        go_wp2_with fail
        rw [tornV]
        (with_reducible refine CRN.out.mono ?_)
        rintro e w8 ⟨l8, o8, rfl, hl8, ho8, hb8⟩
        clear CRN
        have hs8 := hb8.size
        obtain ⟨A8, c8, rfl, x1, x2, x3⟩ := hl8.open_
        obtain ⟨B8, d8, rfl, y1, y2, y3⟩ := ho8.open_
        have HX3 := Lib.hid x3
        have HY3 := Lib.hid y3
        clear x3 y3
        generalize hn8 : (((os ++ [(⟨1, tornN, [], []⟩ : DOp)]) ++ [(⟨0, tornN, [], bl.take en⟩ : DOp)]) ++ [(⟨2, tornN, nm, []⟩ : DOp)]).length = n8 at *
        clear hn8
        have hX8 := (hb8.block w.heap.size (by omega)).trans q6
        have hD8 := (hb8.block (w.heap.size + 1) (by omega)).trans hD7
        have hL8 := (hb8.block (w.heap.size + 2) (by omega)).trans hL7
        have hR8 := hR7.below (by omega) hb8
        clear q4 q5 q6
        obtain ⟨q0, q1, q2, q3, q6, q4, q5, hC9⟩ := two_store w8 w.heap.size (.slice A6 fl.length c6) (.slice B6 n6 d6) (.slice A8 fl.length c8) (.slice B8 n8 d8) _ hX8
        have hl9 := FlsRd.box hl8 (by omega) (by omega) hX8 hC9
        have ho9 := DosRd.box ho8 (by omega) (by omega) hX8 hC9
        have hR9 := hR8.box (by omega) (by omega) hX8 (by decide) (by decide) hC9
        have hD9 := (hC9.block (w.heap.size + 1) (by omega) (by omega)).trans hD8
        have hL9' := (hC9.block (w.heap.size + 2) (by omega) (by omega)).trans hL8
        have hs9 := hC9.size
        have hb9 := hC9.below (B := w.heap.size) (by omega) (fun i hi => by omega)
        have CSY := Lib.hid (rsync_any B (Z + 3 + (bl.take en).length) _ _ fl (((os ++ [(⟨1, tornN, [], []⟩ : DOp)]) ++ [(⟨0, tornN, [], bl.take en⟩ : DOp)]) ++ [(⟨2, tornN, nm, []⟩ : DOp)]) _ (by omega) hl9 ho9 HZ3'.out (by rw [List.length_take]; omega))
        go_wp2_with fail
        (with_reducible refine CSY.out.mono ?_)
        rintro e w10 ⟨l10, o10, rfl, hl10, ho10, hb10⟩
        clear CSY
        generalize (w8.setCell ⟨w.heap.size, 0, none⟩ (.slice A8 fl.length c8)).setCell ⟨w.heap.size, 1, none⟩ (.slice B8 n8 d8) = w9 at *
        have hs10 := hb10.size
        obtain ⟨A10, c10, rfl, x1, x2, x3⟩ := hl10.open_
        obtain ⟨B10, d10, rfl, y1, y2, y3⟩ := ho10.open_
        have HX3' := Lib.hid x3
        have HY3' := Lib.hid y3
        clear x3 y3
        generalize hn10 : (viewL fl (((os ++ [(⟨1, tornN, [], []⟩ : DOp)]) ++ [(⟨0, tornN, [], bl.take en⟩ : DOp)]) ++ [(⟨2, tornN, nm, []⟩ : DOp)])).length = n10 at *
        clear hn10
        have hX10 := (hb10.block w.heap.size (by omega)).trans q6
        have hD10 := (hb10.block (w.heap.size + 1) (by omega)).trans hD9
        have hL10 := (hb10.block (w.heap.size + 2) (by omega)).trans hL9'
        have hR10 := hR9.below (by omega) hb10
        clear q0 q1 q2 q3 q4 q5 q6
        rw [List.length_nil] at *
        obtain ⟨q0', q1', q2', q3', q6', q4x, q5x, hC11⟩ := two_store w10 w.heap.size (.slice A8 fl.length c8) (.slice B8 n8 d8) (.slice A10 n10 c10) (.slice B10 0 d10) _ hX10
        have hl11 := FlsRd.box hl10 (by omega) (by omega) hX10 hC11
        have ho11 := DosRd.box ho10 (by omega) (by omega) hX10 hC11
        have hR11 := hR10.box (by omega) (by omega) hX10 (by decide) (by decide) hC11
        have hD11 := (hC11.block (w.heap.size + 1) (by omega) (by omega)).trans hD10
        have hL11 := (hC11.block (w.heap.size + 2) (by omega) (by omega)).trans hL10
        have hs11 := hC11.size
        have hb11 := hC11.below (B := w.heap.size) (by omega) (fun i hi => by omega)
        obtain ⟨W11, hW11⟩ : ∃ W, W = (w10.setCell ⟨w.heap.size, 0, none⟩ (.slice A10 n10 c10)).setCell ⟨w.heap.size, 1, none⟩ (.slice B10 0 d10) := ⟨_, rfl⟩
        rw [← hW11] at hl11 ho11 hR11 hD11 hL11 hs11 hb11 hC11
        obtain ⟨q0, q1, q2, q3, q6, q4, q5, hC⟩ := two_store W11 (w.heap.size + 1) (.slice none 0 0) (.slice none 0 0) (.slice A10 n10 c10) (.slice B10 0 d10) _ hD11
        have hlF := FlsRd.box hl11 (by omega) (by omega) hD11 hC
        have hoF := DosRd.box ho11 (by omega) (by omega) hD11 hC
        have hszF := hC.size
        have hL9 := (hC.block (w.heap.size + 2) (by omega) (by omega)).trans hL11
        generalize hWF : ((W11).setCell ⟨w.heap.size + 1, 0, none⟩ (.slice A10 n10 c10)).setCell ⟨w.heap.size + 1, 1, none⟩ (.slice B10 0 d10) = WF at *
        obtain ⟨m0, m1, m2, m3, hC2⟩ := one_store WF (w.heap.size + 2) (.string ⟨#[]⟩) (.string (strB nm)) _ hL9
        have hlG := hlF.boxL (by omega) (by omega) hL9 hC2
        have hoG := hoF.boxL (by omega) (by omega) hL9 hC2
        have hRow := (hC2.block (w.heap.size + 1) (by omega) (by omega)).trans q6
        have q4' : (WF.setCell ⟨w.heap.size + 2, 0, none⟩ (.string (strB nm))).cell? ⟨w.heap.size + 1, 0, none⟩ = some (.slice A10 n10 c10) := cell_of_row _ _ 0 _ _ _ hRow
        have q5' : (WF.setCell ⟨w.heap.size + 2, 0, none⟩ (.string (strB nm))).cell? ⟨w.heap.size + 1, 1, none⟩ = some (.slice B10 0 d10) := cell_of_row _ _ 1 _ _ _ hRow
        have hbG : Below w.heap.size W11 (WF.setCell ⟨w.heap.size + 2, 0, none⟩ (.string (strB nm))) := (hC.below (B := w.heap.size) (by omega) (fun i hi => by omega)).trans (hC2.below (B := w.heap.size) (by omega) (fun i hi => by omega))
        have hRG := (hR11.box (by omega) (by omega) hD11 (by decide) (by decide) hC).box (by omega) (by omega) hL9 (by decide) (by decide) hC2
        rw [hW11] at q0 q1 q2 q3 hWF
        clear hRow hL9 q6 hlF hoF
        rw [← hWF] at m0 m1 m2 m3 q4' q5'
        have HWF := Lib.hid hWF
        clear hWF
        go_wp2_with fail
        refine bodyPost_ret (v := .tuple #[.agg #[.slice A10 n10 c10, .slice B10 0 d10], .agg #[.string (strB nm)], .slice Ar nr cr, .int .i64 0]) (by simp [results, Try.results39, go_sem, q4', q5', m2]) rfl ?_
        rw [HWF.out]
        have hodv := HODE.out
        subst hodv
        refine ⟨_, _, _, _, rfl, hlG, hoG, HIV3.out, trivial, ?_, hRG, ?_⟩
        · have := (HZ3'.out.view).mono (Z' := Z + bl.length + 3) (by rw [List.length_take]; omega)
          exact this
        · exact ((((((hbWn.trans (hb6.mono (by omega))).trans hb7).trans (hb8.mono (by omega))).trans hb9).trans (hb10.mono (by omega))).trans hb11).trans hbG
    | false =>
      have hto : (viewF fm os tornN).isSome = false := by rw [hvt]; exact hto'
      go_wp2_with fail
      rw [tornV]
      (with_reducible refine CT.out.mono ?_)
      rintro e wn ⟨vt, he, hot, hb3⟩
      rw [hto'] at he
      subst he
      clear CT
      have hs3 := hb3.size
      have hBn : B ≤ wn.heap.size := by omega
      have hln := hv2.below hB2 hb3
      have hon := ho2.below hB2 hb3
      have hXn := (hb3.block w.heap.size (by omega)).trans hX2
      have hDn := (hb3.block (w.heap.size + 1) (by omega)).trans hD2
      have hLn := (hb3.block (w.heap.size + 2) (by omega)).trans hL2
      have hRn := hR2.below hB2 hb3
      have hbbn := hbb2.below hB2 hb3
      have hbWn : Below w.heap.size w wn := (hb0.trans (hb12.mono (by omega))).trans (hb3.mono (by omega))
      clear g0 g1
      have g0 : wn.cell? ⟨w.heap.size, 0, none⟩ = some (.slice A fl.length c) := cell_of_row _ _ 0 _ _ _ hXn
      have g1 : wn.cell? ⟨w.heap.size, 1, none⟩ = some (.slice Ao os.length co) := cell_of_row _ _ 1 _ _ _ hXn
      obtain ⟨At, ct, rfl, _⟩ := hot.rd.open_
      go_wp2_with fail
      have hK1 : OkOps fm os := hK
      have hz1 : RSz (Z + 1) fl os := hz.mono (by omega)
      have hol1 : os.length ≤ 1073741825 := by have := hz1.len; omega
      have HZ2 : Hid (RSz (Z + 2 + (bl.take en).length) fl (os ++ [(⟨0, tornN, [], bl.take en⟩ : DOp)])) := Lib.hid ((hz1.push (o := ⟨0, tornN, [], bl.take en⟩) (by simp)).mono (by simp only; omega))
      have hK2 : OkOps fm (os ++ [(⟨0, tornN, [], bl.take en⟩ : DOp)]) := hK1.snoc (by simp) (by simp)
      have HX2 : Hid ((lookL (viewL fl (os ++ [(⟨0, tornN, [], bl.take en⟩ : DOp)])) tornN).isSome = true) := Lib.hid (by rw [(hI.view hK2).2 tornN]; exact view_add fm os tornN (bl.take en))
      have HZ3' : Hid (RSz (Z + 3 + (bl.take en).length) fl ((os ++ [(⟨0, tornN, [], bl.take en⟩ : DOp)]) ++ [(⟨2, tornN, nm, []⟩ : DOp)])) := Lib.hid ((HZ2.out.push (o := ⟨2, tornN, nm, []⟩) (by simp)).mono (by simp only [List.length_nil]; omega))
      have hK3 : OkOps fm ((os ++ [(⟨0, tornN, [], bl.take en⟩ : DOp)]) ++ [(⟨2, tornN, nm, []⟩ : DOp)]) := hK2.snoc (by simp) (fun _ => view_add fm os tornN (bl.take en))
      have HIV3 : Hid (IsL (viewF fm (repOps fm os nm (bl.take en))) (viewL fl ((os ++ [(⟨0, tornN, [], bl.take en⟩ : DOp)]) ++ [(⟨2, tornN, nm, []⟩ : DOp)]))) := Lib.hid (by rw [repOps, if_neg (by rw [hto]; simp)]; exact hI.view hK3)
      refine wp_region_noPanic ?_
      refine beginU (S := (fun w' => w'.heap[w.heap.size]? = wn.heap[w.heap.size]?)) 8 (by kernel_rfl) ?_ (fun hHeld => ?_)
      · rfl
      refine takeU 0 (some 46) (v := ?_) rfl rfl (by kernel_rfl) (by kernel_rfl) (by kernel_rfl) (by kernel_rfl) (by rfl) hHeld (fun _ _ _ h => h) ?_ ?_
      rotate_left
      · intro w' hSw; (try dsimp only at hSw); have q0 := (World.cell?_of_block (w := wn) (a := ⟨w.heap.size, 0, none⟩) hSw).trans g0; have q1 := (World.cell?_of_block (w := wn) (a := ⟨w.heap.size, 1, none⟩) hSw).trans g1; go_simp <;> with_reducible rfl
      simp only [Act.put, List.setIfInBounds_toArray, List.set_cons_zero, List.set_cons_succ]
      refine takeU 1 (some 47) (v := ?_) rfl rfl (by kernel_rfl) (by kernel_rfl) (by kernel_rfl) (by kernel_rfl) (by rfl) hHeld (fun _ _ _ h => h) ?_ ?_
      rotate_left
      · intro w' hSw; (try dsimp only at hSw); go_simp <;> with_reducible rfl
      simp only [Act.put, List.setIfInBounds_toArray, List.set_cons_zero, List.set_cons_succ]
      refine takeU 2 (some 48) (v := ?_) rfl rfl (by kernel_rfl) (by kernel_rfl) (by kernel_rfl) (by kernel_rfl) (by rfl) hHeld (fun _ _ _ h => h) ?_ ?_
      rotate_left
      · intro w' hSw; (try dsimp only at hSw); go_simp <;> with_reducible rfl
      simp only [Act.put, List.setIfInBounds_toArray, List.set_cons_zero, List.set_cons_succ]
      refine takeU 3 (some 49) (v := ?_) rfl rfl (by kernel_rfl) (by kernel_rfl) (by kernel_rfl) (by kernel_rfl) (by rfl) hHeld (fun _ _ _ h => h) ?_ ?_
      rotate_left
      · intro w' hSw; (try dsimp only at hSw); have q0 := HSH.out Ab bl.length cb en (by omega); go_simp <;> with_reducible rfl
      simp only [Act.put, List.setIfInBounds_toArray, List.set_cons_zero, List.set_cons_succ]
      refine forkU1 4 (by kernel_rfl) (by decide) ?_
      refine callF 4 (some 50) (f := ?_) (args := ?_) rfl rfl (by rfl) ?_ ?_
      rotate_left 2
      · go_simp <;> first | (constructor <;> with_reducible rfl) | with_reducible rfl
      rw [tornV]
      (with_reducible refine (rappend_ok B _ _ fl os tornN (.slice Ab en cb) (bl.take en) wn.drew ?_ ?_ ?_ torn_len torn_word ?_ ?_ ?_).mono ?_)
      · exact hBn
      · exact hln
      · exact hon
      · exact Rd.drew ((hbbn.take en (by omega)).rd hBn)
      · exact Nat.le_trans hol1 (by omega)
      · rw [List.length_take]; omega
      rintro e w6 ⟨l6, o6, rfl, hl6, ho6, hb6'⟩
      have hb6 : Below wn.heap.size wn w6 := Below.undrew hb6'
      clear hb6'
      have hs6 := hb6.size
      obtain ⟨A6, c6, rfl, u1, u2, u3⟩ := hl6.open_
      obtain ⟨B6, d6, rfl, t1, t2, t3⟩ := ho6.open_
      have HU3 := Lib.hid u3
      have HT3 := Lib.hid t3
      clear u3 t3
      have hol2 : (os ++ [(⟨0, tornN, [], bl.take en⟩ : DOp)]).length ≤ 1073741826 := by rw [List.length_append]; simp only [List.length_cons, List.length_nil]; omega
      generalize hn6 : (os ++ [(⟨0, tornN, [], bl.take en⟩ : DOp)]).length = n6 at *
      have HN6 := Lib.hid hn6
      clear hn6
      have hX6 := (hb6.block w.heap.size (by omega)).trans hXn
      have hD6 := (hb6.block (w.heap.size + 1) (by omega)).trans hDn
      have hL6 := (hb6.block (w.heap.size + 2) (by omega)).trans hLn
      have hR6 := hRn.below hBn hb6
      obtain ⟨q0, q1, q2, q3, q6, q4, q5, hC7⟩ := two_store w6 w.heap.size (.slice A fl.length c) (.slice Ao os.length co) (.slice A6 fl.length c6) (.slice B6 n6 d6) _ hX6
      have hl7 := FlsRd.box hl6 (by omega) (by omega) hX6 hC7
      have ho7 := DosRd.box ho6 (by omega) (by omega) hX6 hC7
      have hR7 := hR6.box (by omega) (by omega) hX6 (by decide) (by decide) hC7
      have hD7 := (hC7.block (w.heap.size + 1) (by omega) (by omega)).trans hD6
      have hL7 := (hC7.block (w.heap.size + 2) (by omega) (by omega)).trans hL6
      have hs7 := hC7.size
      have hb7 : Below w.heap.size w6 ((w6.setCell ⟨w.heap.size, 0, none⟩ (.slice A6 fl.length c6)).setCell ⟨w.heap.size, 1, none⟩ (.slice B6 n6 d6)) := hC7.below (by omega) (fun i hi => by omega)
      refine ⟨_, rfl, ?_⟩
      refine keepAnd ?_ (fun hNew => ?_)
      · exact (hb6.block w.heap.size (by omega))
      clear hHeld
      have hHeld := hNew
      clear hNew
      simp only [Act.put, List.setIfInBounds_toArray, List.set_cons_zero, List.set_cons_succ]
      refine takeU 5 (some 45) (v := ?_) rfl rfl (by kernel_rfl) (by kernel_rfl) (by kernel_rfl) (by kernel_rfl) (by rfl) hHeld (fun _ _ _ h => h) ?_ ?_
      rotate_left
      · intro w' hSw; (try dsimp only at hSw); go_simp <;> with_reducible rfl
      simp only [Act.put, List.setIfInBounds_toArray, List.set_cons_zero, List.set_cons_succ]
      refine takeU 6 (some 51) (v := ?_) rfl rfl (by kernel_rfl) (by kernel_rfl) (by kernel_rfl) (by kernel_rfl) (by rfl) hHeld (fun _ _ _ h => h) ?_ ?_
      rotate_left
      · intro w' hSw; (try dsimp only at hSw); go_simp <;> with_reducible rfl
      simp only [Act.put, List.setIfInBounds_toArray, List.set_cons_zero, List.set_cons_succ]
      refine forkU2 7 (.inl (by kernel_rfl)) (by decide) ?_ ?_
      · refine runF 7 (some 52) (v := ?_) (w' := ?_) rfl rfl (by rfl) ?_ ?_
        rotate_left 2
        · go_simp <;> first | with_reducible rfl | (constructor <;> with_reducible rfl)
        refine keepAnd ?_ (fun hNew => ?_)
        · exact hHeld
        clear hHeld
        have hHeld := hNew
        clear hNew
        simp only [Act.put, List.setIfInBounds_toArray, List.set_cons_zero, List.set_cons_succ]
        refine lastU (by kernel_rfl) ?_
        refine skipRunF 8 none (w' := (w6.setCell ⟨w.heap.size, 0, none⟩ (.slice A6 fl.length c6)).setCell ⟨w.heap.size, 1, none⟩ (.slice B6 n6 d6)) rfl rfl (by rfl) ?_ ?_
        · go_simp <;> with_reducible rfl
        clear hHeld
        simp only [Act.put]
        refine wpAny_of_T (S := fun _ => True) (last := 9) _ _ _ _ ?_
        have hHeld : True := trivial
        refine doneT (by kernel_rfl) ?_ _
        refine NoPanic.normal ?_
        generalize (w6.setCell ⟨w.heap.size, 0, none⟩ (.slice A6 fl.length c6)).setCell ⟨w.heap.size, 1, none⟩ (.slice B6 n6 d6) = w7 at *
        clear q0 q1 q2 q3
        have CRN := Lib.hid (rrename_ok B (Z + 2 + (bl.take en).length) _ _ fl (os ++ [(⟨0, tornN, [], bl.take en⟩ : DOp)]) tornN nm w7 (by omega) hl7 ho7 HZ2.out (by rw [List.length_take]; omega) HX2.out hnl hw (by rw [HN6.out]; omega))
        go_wp2_with fail
        rw [tornV]
        (with_reducible refine CRN.out.mono ?_)
        rintro e w8 ⟨l8, o8, rfl, hl8, ho8, hb8⟩
        clear CRN
        have hs8 := hb8.size
        obtain ⟨A8, c8, rfl, x1, x2, x3⟩ := hl8.open_
        obtain ⟨B8, d8, rfl, y1, y2, y3⟩ := ho8.open_
        have HX3 := Lib.hid x3
        have HY3 := Lib.hid y3
        clear x3 y3
        generalize hn8 : ((os ++ [(⟨0, tornN, [], bl.take en⟩ : DOp)]) ++ [(⟨2, tornN, nm, []⟩ : DOp)]).length = n8 at *
        clear hn8
        have hX8 := (hb8.block w.heap.size (by omega)).trans q6
        have hD8 := (hb8.block (w.heap.size + 1) (by omega)).trans hD7
        have hL8 := (hb8.block (w.heap.size + 2) (by omega)).trans hL7
        have hR8 := hR7.below (by omega) hb8
        clear q4 q5 q6
        obtain ⟨q0, q1, q2, q3, q6, q4, q5, hC9⟩ := two_store w8 w.heap.size (.slice A6 fl.length c6) (.slice B6 n6 d6) (.slice A8 fl.length c8) (.slice B8 n8 d8) _ hX8
        have hl9 := FlsRd.box hl8 (by omega) (by omega) hX8 hC9
        have ho9 := DosRd.box ho8 (by omega) (by omega) hX8 hC9
        have hR9 := hR8.box (by omega) (by omega) hX8 (by decide) (by decide) hC9
        have hD9 := (hC9.block (w.heap.size + 1) (by omega) (by omega)).trans hD8
        have hL9' := (hC9.block (w.heap.size + 2) (by omega) (by omega)).trans hL8
        have hs9 := hC9.size
        have hb9 := hC9.below (B := w.heap.size) (by omega) (fun i hi => by omega)
        have CSY := Lib.hid (rsync_any B (Z + 3 + (bl.take en).length) _ _ fl ((os ++ [(⟨0, tornN, [], bl.take en⟩ : DOp)]) ++ [(⟨2, tornN, nm, []⟩ : DOp)]) _ (by omega) hl9 ho9 HZ3'.out (by rw [List.length_take]; omega))
        go_wp2_with fail
        (with_reducible refine CSY.out.mono ?_)
        rintro e w10 ⟨l10, o10, rfl, hl10, ho10, hb10⟩
        clear CSY
        generalize (w8.setCell ⟨w.heap.size, 0, none⟩ (.slice A8 fl.length c8)).setCell ⟨w.heap.size, 1, none⟩ (.slice B8 n8 d8) = w9 at *
        have hs10 := hb10.size
        obtain ⟨A10, c10, rfl, x1, x2, x3⟩ := hl10.open_
        obtain ⟨B10, d10, rfl, y1, y2, y3⟩ := ho10.open_
        have HX3' := Lib.hid x3
        have HY3' := Lib.hid y3
        clear x3 y3
        generalize hn10 : (viewL fl ((os ++ [(⟨0, tornN, [], bl.take en⟩ : DOp)]) ++ [(⟨2, tornN, nm, []⟩ : DOp)])).length = n10 at *
        clear hn10
        have hX10 := (hb10.block w.heap.size (by omega)).trans q6
        have hD10 := (hb10.block (w.heap.size + 1) (by omega)).trans hD9
        have hL10 := (hb10.block (w.heap.size + 2) (by omega)).trans hL9'
        have hR10 := hR9.below (by omega) hb10
        clear q0 q1 q2 q3 q4 q5 q6
        rw [List.length_nil] at *
        obtain ⟨q0', q1', q2', q3', q6', q4x, q5x, hC11⟩ := two_store w10 w.heap.size (.slice A8 fl.length c8) (.slice B8 n8 d8) (.slice A10 n10 c10) (.slice B10 0 d10) _ hX10
        have hl11 := FlsRd.box hl10 (by omega) (by omega) hX10 hC11
        have ho11 := DosRd.box ho10 (by omega) (by omega) hX10 hC11
        have hR11 := hR10.box (by omega) (by omega) hX10 (by decide) (by decide) hC11
        have hD11 := (hC11.block (w.heap.size + 1) (by omega) (by omega)).trans hD10
        have hL11 := (hC11.block (w.heap.size + 2) (by omega) (by omega)).trans hL10
        have hs11 := hC11.size
        have hb11 := hC11.below (B := w.heap.size) (by omega) (fun i hi => by omega)
        obtain ⟨W11, hW11⟩ : ∃ W, W = (w10.setCell ⟨w.heap.size, 0, none⟩ (.slice A10 n10 c10)).setCell ⟨w.heap.size, 1, none⟩ (.slice B10 0 d10) := ⟨_, rfl⟩
        rw [← hW11] at hl11 ho11 hR11 hD11 hL11 hs11 hb11 hC11
        obtain ⟨q0, q1, q2, q3, q6, q4, q5, hC⟩ := two_store W11 (w.heap.size + 1) (.slice none 0 0) (.slice none 0 0) (.slice A10 n10 c10) (.slice B10 0 d10) _ hD11
        have hlF := FlsRd.box hl11 (by omega) (by omega) hD11 hC
        have hoF := DosRd.box ho11 (by omega) (by omega) hD11 hC
        have hszF := hC.size
        have hL9 := (hC.block (w.heap.size + 2) (by omega) (by omega)).trans hL11
        generalize hWF : ((W11).setCell ⟨w.heap.size + 1, 0, none⟩ (.slice A10 n10 c10)).setCell ⟨w.heap.size + 1, 1, none⟩ (.slice B10 0 d10) = WF at *
        obtain ⟨m0, m1, m2, m3, hC2⟩ := one_store WF (w.heap.size + 2) (.string ⟨#[]⟩) (.string (strB nm)) _ hL9
        have hlG := hlF.boxL (by omega) (by omega) hL9 hC2
        have hoG := hoF.boxL (by omega) (by omega) hL9 hC2
        have hRow := (hC2.block (w.heap.size + 1) (by omega) (by omega)).trans q6
        have q4' : (WF.setCell ⟨w.heap.size + 2, 0, none⟩ (.string (strB nm))).cell? ⟨w.heap.size + 1, 0, none⟩ = some (.slice A10 n10 c10) := cell_of_row _ _ 0 _ _ _ hRow
        have q5' : (WF.setCell ⟨w.heap.size + 2, 0, none⟩ (.string (strB nm))).cell? ⟨w.heap.size + 1, 1, none⟩ = some (.slice B10 0 d10) := cell_of_row _ _ 1 _ _ _ hRow
        have hbG : Below w.heap.size W11 (WF.setCell ⟨w.heap.size + 2, 0, none⟩ (.string (strB nm))) := (hC.below (B := w.heap.size) (by omega) (fun i hi => by omega)).trans (hC2.below (B := w.heap.size) (by omega) (fun i hi => by omega))
        have hRG := (hR11.box (by omega) (by omega) hD11 (by decide) (by decide) hC).box (by omega) (by omega) hL9 (by decide) (by decide) hC2
        rw [hW11] at q0 q1 q2 q3 hWF
        clear hRow hL9 q6 hlF hoF
        rw [← hWF] at m0 m1 m2 m3 q4' q5'
        have HWF := Lib.hid hWF
        clear hWF
        go_wp2_with fail
        refine bodyPost_ret (v := .tuple #[.agg #[.slice A10 n10 c10, .slice B10 0 d10], .agg #[.string (strB nm)], .slice Ar nr cr, .int .i64 0]) (by simp [results, Try.results39, go_sem, q4', q5', m2]) rfl ?_
        rw [HWF.out]
        have hodv := HODE.out
        subst hodv
        refine ⟨_, _, _, _, rfl, hlG, hoG, HIV3.out, trivial, ?_, hRG, ?_⟩
        · have := (HZ3'.out.view).mono (Z' := Z + bl.length + 3) (by rw [List.length_take]; omega)
          exact this
        · exact ((((((hbWn.trans (hb6.mono (by omega))).trans hb7).trans (hb8.mono (by omega))).trans hb9).trans (hb10.mono (by omega))).trans hb11).trans hbG
      · refine skipRunF 8 none (w' := (w6.setCell ⟨w.heap.size, 0, none⟩ (.slice A6 fl.length c6)).setCell ⟨w.heap.size, 1, none⟩ (.slice B6 n6 d6)) rfl rfl (by rfl) ?_ ?_
        · go_simp <;> with_reducible rfl
        clear hHeld
        simp only [Act.put]
        refine wpAny_of_T (S := fun _ => True) (last := 9) _ _ _ _ ?_
        have hHeld : True := trivial
        refine fork1 7 (by kernel_rfl) ?_
        refine runF 7 (some 52) (v := ?_) (w' := ?_) rfl rfl (by rfl) ?_ ?_
        rotate_left 2
        · go_simp <;> first | with_reducible rfl | (constructor <;> with_reducible rfl)
        refine ⟨fun _ => trivial, ?_⟩
        simp only [Act.put, List.setIfInBounds_toArray, List.set_cons_zero, List.set_cons_succ]
        refine doneT (by kernel_rfl) ?_ _
        refine NoPanic.normal ?_
        generalize (w6.setCell ⟨w.heap.size, 0, none⟩ (.slice A6 fl.length c6)).setCell ⟨w.heap.size, 1, none⟩ (.slice B6 n6 d6) = w7 at *
        clear q0 q1 q2 q3
        have CRN := Lib.hid (rrename_ok B (Z + 2 + (bl.take en).length) _ _ fl (os ++ [(⟨0, tornN, [], bl.take en⟩ : DOp)]) tornN nm w7 (by omega) hl7 ho7 HZ2.out (by rw [List.length_take]; omega) HX2.out hnl hw (by rw [HN6.out]; omega))
        go_wp2_with fail
        rw [tornV]
        (with_reducible refine CRN.out.mono ?_)
        rintro e w8 ⟨l8, o8, rfl, hl8, ho8, hb8⟩
        clear CRN
        have hs8 := hb8.size
        obtain ⟨A8, c8, rfl, x1, x2, x3⟩ := hl8.open_
        obtain ⟨B8, d8, rfl, y1, y2, y3⟩ := ho8.open_
        have HX3 := Lib.hid x3
        have HY3 := Lib.hid y3
        clear x3 y3
        generalize hn8 : ((os ++ [(⟨0, tornN, [], bl.take en⟩ : DOp)]) ++ [(⟨2, tornN, nm, []⟩ : DOp)]).length = n8 at *
        clear hn8
        have hX8 := (hb8.block w.heap.size (by omega)).trans q6
        have hD8 := (hb8.block (w.heap.size + 1) (by omega)).trans hD7
        have hL8 := (hb8.block (w.heap.size + 2) (by omega)).trans hL7
        have hR8 := hR7.below (by omega) hb8
        clear q4 q5 q6
        obtain ⟨q0, q1, q2, q3, q6, q4, q5, hC9⟩ := two_store w8 w.heap.size (.slice A6 fl.length c6) (.slice B6 n6 d6) (.slice A8 fl.length c8) (.slice B8 n8 d8) _ hX8
        have hl9 := FlsRd.box hl8 (by omega) (by omega) hX8 hC9
        have ho9 := DosRd.box ho8 (by omega) (by omega) hX8 hC9
        have hR9 := hR8.box (by omega) (by omega) hX8 (by decide) (by decide) hC9
        have hD9 := (hC9.block (w.heap.size + 1) (by omega) (by omega)).trans hD8
        have hL9' := (hC9.block (w.heap.size + 2) (by omega) (by omega)).trans hL8
        have hs9 := hC9.size
        have hb9 := hC9.below (B := w.heap.size) (by omega) (fun i hi => by omega)
        have CSY := Lib.hid (rsync_any B (Z + 3 + (bl.take en).length) _ _ fl ((os ++ [(⟨0, tornN, [], bl.take en⟩ : DOp)]) ++ [(⟨2, tornN, nm, []⟩ : DOp)]) _ (by omega) hl9 ho9 HZ3'.out (by rw [List.length_take]; omega))
        go_wp2_with fail
        (with_reducible refine CSY.out.mono ?_)
        rintro e w10 ⟨l10, o10, rfl, hl10, ho10, hb10⟩
        clear CSY
        generalize (w8.setCell ⟨w.heap.size, 0, none⟩ (.slice A8 fl.length c8)).setCell ⟨w.heap.size, 1, none⟩ (.slice B8 n8 d8) = w9 at *
        have hs10 := hb10.size
        obtain ⟨A10, c10, rfl, x1, x2, x3⟩ := hl10.open_
        obtain ⟨B10, d10, rfl, y1, y2, y3⟩ := ho10.open_
        have HX3' := Lib.hid x3
        have HY3' := Lib.hid y3
        clear x3 y3
        generalize hn10 : (viewL fl ((os ++ [(⟨0, tornN, [], bl.take en⟩ : DOp)]) ++ [(⟨2, tornN, nm, []⟩ : DOp)])).length = n10 at *
        clear hn10
        have hX10 := (hb10.block w.heap.size (by omega)).trans q6
        have hD10 := (hb10.block (w.heap.size + 1) (by omega)).trans hD9
        have hL10 := (hb10.block (w.heap.size + 2) (by omega)).trans hL9'
        have hR10 := hR9.below (by omega) hb10
        clear q0 q1 q2 q3 q4 q5 q6
        rw [List.length_nil] at *
        obtain ⟨q0', q1', q2', q3', q6', q4x, q5x, hC11⟩ := two_store w10 w.heap.size (.slice A8 fl.length c8) (.slice B8 n8 d8) (.slice A10 n10 c10) (.slice B10 0 d10) _ hX10
        have hl11 := FlsRd.box hl10 (by omega) (by omega) hX10 hC11
        have ho11 := DosRd.box ho10 (by omega) (by omega) hX10 hC11
        have hR11 := hR10.box (by omega) (by omega) hX10 (by decide) (by decide) hC11
        have hD11 := (hC11.block (w.heap.size + 1) (by omega) (by omega)).trans hD10
        have hL11 := (hC11.block (w.heap.size + 2) (by omega) (by omega)).trans hL10
        have hs11 := hC11.size
        have hb11 := hC11.below (B := w.heap.size) (by omega) (fun i hi => by omega)
        obtain ⟨W11, hW11⟩ : ∃ W, W = (w10.setCell ⟨w.heap.size, 0, none⟩ (.slice A10 n10 c10)).setCell ⟨w.heap.size, 1, none⟩ (.slice B10 0 d10) := ⟨_, rfl⟩
        rw [← hW11] at hl11 ho11 hR11 hD11 hL11 hs11 hb11 hC11
        obtain ⟨q0, q1, q2, q3, q6, q4, q5, hC⟩ := two_store W11 (w.heap.size + 1) (.slice none 0 0) (.slice none 0 0) (.slice A10 n10 c10) (.slice B10 0 d10) _ hD11
        have hlF := FlsRd.box hl11 (by omega) (by omega) hD11 hC
        have hoF := DosRd.box ho11 (by omega) (by omega) hD11 hC
        have hszF := hC.size
        have hL9 := (hC.block (w.heap.size + 2) (by omega) (by omega)).trans hL11
        generalize hWF : ((W11).setCell ⟨w.heap.size + 1, 0, none⟩ (.slice A10 n10 c10)).setCell ⟨w.heap.size + 1, 1, none⟩ (.slice B10 0 d10) = WF at *
        obtain ⟨m0, m1, m2, m3, hC2⟩ := one_store WF (w.heap.size + 2) (.string ⟨#[]⟩) (.string (strB nm)) _ hL9
        have hlG := hlF.boxL (by omega) (by omega) hL9 hC2
        have hoG := hoF.boxL (by omega) (by omega) hL9 hC2
        have hRow := (hC2.block (w.heap.size + 1) (by omega) (by omega)).trans q6
        have q4' : (WF.setCell ⟨w.heap.size + 2, 0, none⟩ (.string (strB nm))).cell? ⟨w.heap.size + 1, 0, none⟩ = some (.slice A10 n10 c10) := cell_of_row _ _ 0 _ _ _ hRow
        have q5' : (WF.setCell ⟨w.heap.size + 2, 0, none⟩ (.string (strB nm))).cell? ⟨w.heap.size + 1, 1, none⟩ = some (.slice B10 0 d10) := cell_of_row _ _ 1 _ _ _ hRow
        have hbG : Below w.heap.size W11 (WF.setCell ⟨w.heap.size + 2, 0, none⟩ (.string (strB nm))) := (hC.below (B := w.heap.size) (by omega) (fun i hi => by omega)).trans (hC2.below (B := w.heap.size) (by omega) (fun i hi => by omega))
        have hRG := (hR11.box (by omega) (by omega) hD11 (by decide) (by decide) hC).box (by omega) (by omega) hL9 (by decide) (by decide) hC2
        rw [hW11] at q0 q1 q2 q3 hWF
        clear hRow hL9 q6 hlF hoF
        rw [← hWF] at m0 m1 m2 m3 q4' q5'
        have HWF := Lib.hid hWF
        clear hWF
        go_wp2_with fail
        refine bodyPost_ret (v := .tuple #[.agg #[.slice A10 n10 c10, .slice B10 0 d10], .agg #[.string (strB nm)], .slice Ar nr cr, .int .i64 0]) (by simp [results, Try.results39, go_sem, q4', q5', m2]) rfl ?_
        rw [HWF.out]
        have hodv := HODE.out
        subst hodv
        refine ⟨_, _, _, _, rfl, hlG, hoG, HIV3.out, trivial, ?_, hRG, ?_⟩
        · have := (HZ3'.out.view).mono (Z' := Z + bl.length + 3) (by rw [List.length_take]; omega)
          exact this
        · exact ((((((hbWn.trans (hb6.mono (by omega))).trans hb7).trans (hb8.mono (by omega))).trans hb9).trans (hb10.mono (by omega))).trans hb11).trans hbG
  · have q9 : ¬ (en : Int) < (bl.length : Int) := by omega
    have hod : od = (fm, os) := by rw [HOD.out, if_neg hlt]
    subst hod
    obtain ⟨q0, q1, q2, q3, q6, q4, q5, hC⟩ := two_store w2 (w.heap.size + 1) (.slice none 0 0) (.slice none 0 0) (.slice A fl.length c) (.slice Ao os.length co) _ hD2
    have hlF := FlsRd.box hv2 (by omega) (by omega) hD2 hC
    have hoF := DosRd.box ho2 (by omega) (by omega) hD2 hC
    have hszF := hC.size
    have hL9 := (hC.block (w.heap.size + 2) (by omega) (by omega)).trans hL2
    generalize hWF : ((w2).setCell ⟨w.heap.size + 1, 0, none⟩ (.slice A fl.length c)).setCell ⟨w.heap.size + 1, 1, none⟩ (.slice Ao os.length co) = WF at *
    obtain ⟨m0, m1, m2, m3, hC2⟩ := one_store WF (w.heap.size + 2) (.string ⟨#[]⟩) (.string (strB nm)) _ hL9
    have hlG := hlF.boxL (by omega) (by omega) hL9 hC2
    have hoG := hoF.boxL (by omega) (by omega) hL9 hC2
    have hRow := (hC2.block (w.heap.size + 1) (by omega) (by omega)).trans q6
    have q4' : (WF.setCell ⟨w.heap.size + 2, 0, none⟩ (.string (strB nm))).cell? ⟨w.heap.size + 1, 0, none⟩ = some (.slice A fl.length c) := cell_of_row _ _ 0 _ _ _ hRow
    have q5' : (WF.setCell ⟨w.heap.size + 2, 0, none⟩ (.string (strB nm))).cell? ⟨w.heap.size + 1, 1, none⟩ = some (.slice Ao os.length co) := cell_of_row _ _ 1 _ _ _ hRow
    have hbG : Below w.heap.size w2 (WF.setCell ⟨w.heap.size + 2, 0, none⟩ (.string (strB nm))) := (hC.below (B := w.heap.size) (by omega) (fun i hi => by omega)).trans (hC2.below (B := w.heap.size) (by omega) (fun i hi => by omega))
    have hRG := (hR2.box (by omega) (by omega) hD2 (by decide) (by decide) hC).box (by omega) (by omega) hL9 (by decide) (by decide) hC2
    clear hRow hL9 q6 hlF hoF
    rw [← hWF] at m0 m1 m2 m3 q4' q5'
    have HWF := Lib.hid hWF
    clear hWF
    go_wp2_with fail
    refine bodyPost_ret (v := .tuple #[.agg #[.slice A fl.length c, .slice Ao os.length co], .agg #[.string (strB nm)], .slice Ar nr cr, .int .i64 0]) (by simp [results, Try.results39, go_sem, q4', q5', m2]) rfl ?_
    rw [HWF.out]
    exact ⟨_, _, _, _, rfl, hlG, hoG, hI, hK, hz.mono (by omega), hRG, (hb0.trans (hb12.mono (by omega))).trans hbG⟩
end Go.Proofs.Ytooojgokkigncaa
