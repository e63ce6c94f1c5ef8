/-
  The reference of logs: Append, Size, Len; the nil log.
-/
import Derived.Test.YtooojgokkigncaaRtC
namespace Go.Proofs.Ytooojgokkigncaa
open Go.RowKit Go.Lib Go.IntWalk

set_option maxRecDepth 100000 in
set_option maxHeartbeats 4000000 in
theorem r36append_ok (B : Nat) (lv ov : Value) (fl : FL) (os : List DOp) (nm : List UInt8) (vb : Value) (body : List UInt8) (w : World) (hB : B ≤ w.heap.size) (hv : FlsRd B w lv fl) (ho : DosRd B w ov os) (hw : wordF nm = true) (hd : RdB w (· < w.heap.size) vb body) (hol : os.length ≤ 1099511627776) (hdl : body.length ≤ 1048576) :
    Calls Try.prog 42 #[.agg #[lv, ov], .agg #[.string (strB nm)], vb] w (RefOut2 B fl (os ++ [⟨0, nm, [], frm body⟩]) 0 w) := by
  have hnl : nm.length ≤ maxLen := by
    unfold wordF at hw; simp only [Bool.and_eq_true, decide_eq_true_eq] at hw; unfold maxLen; omega
  obtain ⟨A, c, rfl, a1, a2, a3⟩ := hv.open_
  obtain ⟨Ao, co, rfl, b1, b2, b3⟩ := ho.open_
  have HA3 := Lib.hid a3
  have HB3 := Lib.hid b3
  clear a3 b3
  obtain ⟨W, hW⟩ : ∃ W, W = ((w.alloc (.cells #[.slice A fl.length c, .slice Ao os.length co] 49)).alloc (.cells #[.string (strB nm)] 64)).alloc (.cells #[.slice none 0 0, .slice none 0 0] 49) := ⟨_, rfl⟩
  have hWs : W.heap.size = w.heap.size + 3 := by rw [hW]; simp
  have hb0 : Below w.heap.size w W := by rw [hW]; exact ((Below.of_alloc _).trans ((Below.of_alloc _).mono (by simp))).trans ((Below.of_alloc _).mono (by simp; omega))
  have hrX : W.heap[w.heap.size]? = some (.cells #[.slice A fl.length c, .slice Ao os.length co] 49 (0, 0)) := by
    rw [hW, Below.heap_alloc _ _ _ (by simp; omega), Below.heap_alloc _ _ _ (by simp)]; exact heap_alloc_new w _
  have hrN : W.heap[w.heap.size + 1]? = some (.cells #[.string (strB nm)] 64 (0, 0)) := by
    have := heap_alloc_new (w.alloc (.cells #[.slice A fl.length c, .slice Ao os.length co] 49)) (.cells #[.string (strB nm)] 64)
    rw [hW, Below.heap_alloc _ _ _ (by simp)]; simpa using this
  have hrR : W.heap[w.heap.size + 2]? = some (.cells #[.slice none 0 0, .slice none 0 0] 49 (0, 0)) := by
    have := heap_alloc_new ((w.alloc (.cells #[.slice A fl.length c, .slice Ao os.length co] 49)).alloc (.cells #[.string (strB nm)] 64)) (.cells #[.slice none 0 0, .slice none 0 0] 49)
    rw [hW]; simpa using this
  have hBW : B ≤ W.heap.size := by omega
  have hvW := hv.below hB hb0
  have hoW := ho.below hB hb0
  have k0 : W.cell? ⟨w.heap.size, 0, none⟩ = some (.slice A fl.length c) := cell_of_row _ _ 0 _ _ _ hrX
  have k1 : W.cell? ⟨w.heap.size, 1, none⟩ = some (.slice Ao os.length co) := cell_of_row _ _ 1 _ _ _ hrX
  have k2 : W.cell? ⟨w.heap.size + 1, 0, none⟩ = some (.string (strB nm)) := cell_of_row _ _ 0 _ _ _ hrN
  have HW := Lib.hid hW
  clear hW hv ho
  have hdW : RdB W (· < W.heap.size) vb body := (Rd.keep hd (fun b hb => hb0.block b hb)).wide (fun b hb => by omega)
  obtain ⟨X, x, rfl, x1, x2, x3⟩ := Rd.open_ hd
  have HX3 := Lib.hid x3
  clear x3
  have CA := Lib.hid (tappend_any _ body W hdW hdl)
  have hfl : (frm body).length ≤ 1099511627776 := by rw [frm_len]; omega
  generalize frm body = fb at *
  go_enter Try.func42, Try.ntmps42
  go_wp2_with fail
  rw [← HW.out]
  (with_reducible refine CA.out.mono ?_)
  rintro e w1 ⟨v1, rfl, hO1, hb1⟩
  clear CA
  have hs1 := hb1.size
  have hv1 := hvW.below hBW hb1
  have ho1 := hoW.below hBW hb1
  have hX1 := (hb1.block w.heap.size (by omega)).trans hrX
  have hR1 := (hb1.block (w.heap.size + 2) (by omega)).trans hrR
  have g0 := (hb1.cell (p := ⟨w.heap.size, 0, none⟩) (show w.heap.size < W.heap.size by omega)).trans k0
  have g1 := (hb1.cell (p := ⟨w.heap.size, 1, none⟩) (show w.heap.size < W.heap.size by omega)).trans k1
  have g2 := (hb1.cell (p := ⟨w.heap.size + 1, 0, none⟩) (show w.heap.size + 1 < W.heap.size by omega)).trans k2
  obtain ⟨Y, y, rfl, y1, y2, y3⟩ := Rd.open_ hO1.rd
  have HY3 := Lib.hid y3
  clear y3
  have CB := Lib.hid (rappend_ok B _ _ fl os nm _ fb w1 (by omega) hv1 ho1 hnl hw (Rd.wide hO1.rd (fun b hb => by omega)) hol hfl)
  go_wp2_with fail
  (with_reducible refine CB.out.mono ?_)
  rintro e w2 ⟨l2, o2, rfl, hl2, ho2, hb2⟩
  clear CB
  have hs2 := hb2.size
  obtain ⟨A2, c2, rfl, s1, s2, s3⟩ := hl2.open_
  obtain ⟨B2, d2, rfl, t1, t2, t3⟩ := ho2.open_
  have HS3 := Lib.hid s3
  have HT3 := Lib.hid t3
  clear s3 t3
  generalize hn2 : (os ++ [(⟨0, nm, [], fb⟩ : DOp)]).length = n2 at *
  clear hn2
  have hR2 := (hb2.block (w.heap.size + 2) (by omega)).trans hR1
  obtain ⟨q0, q1, q2, q3, q6, q4, q5, hC3⟩ := two_store w2 (w.heap.size + 2) (.slice none 0 0) (.slice none 0 0) (.slice A2 fl.length c2) (.slice B2 n2 d2) _ hR2
  have hl3 := FlsRd.box hl2 (by omega) (by omega) hR2 hC3
  have ho3 := DosRd.box ho2 (by omega) (by omega) hR2 hC3
  have hb3 := hC3.below (B := w.heap.size) (by omega) (fun i hi => by omega)
  clear q6
  go_wp2_with fail
  refine bodyPost_ret (v := .tuple #[.agg #[.slice A2 fl.length c2, .slice B2 n2 d2], .int .i64 0]) (by simp [results, Try.results42, go_sem, q4, q5]) rfl ?_
  exact ⟨_, _, rfl, hl3, ho3, ((hb0.trans (hb1.mono (by omega))).trans (hb2.mono (by omega))).trans hb3⟩

set_option maxRecDepth 100000 in
set_option maxHeartbeats 4000000 in
theorem r36size_any (B Z : Nat) (lv ov : Value) (fl : FL) (os : List DOp) (nm : List UInt8) (w : World) (hB : B ≤ w.heap.size) (hv : FlsRd B w lv fl) (ho : DosRd B w ov os) (hz : RSz Z fl os) (hZ : Z ≤ 1099511627776) :
    Calls Try.prog 46 #[.agg #[lv, ov], .agg #[.string (strB nm)]] w fun e w' => e = .returned (.int .i64 ((((lookL (viewL fl os) nm).getD []).length : Nat) : Int)) ∧ Below w.heap.size w w' := by
  obtain ⟨A, c, rfl, a1, a2, a3⟩ := hv.open_
  obtain ⟨Ao, co, rfl, b1, b2, b3⟩ := ho.open_
  have HA3 := Lib.hid a3
  have HB3 := Lib.hid b3
  clear a3 b3
  obtain ⟨W, hW⟩ : ∃ W, W = ((w.alloc (.cells #[.slice A fl.length c, .slice Ao os.length co] 49)).alloc (.cells #[.string (strB nm)] 64)) := ⟨_, rfl⟩
  have hWs : W.heap.size = w.heap.size + 2 := by rw [hW]; simp
  have hb0 : Below w.heap.size w W := by rw [hW]; exact (Below.of_alloc _).trans ((Below.of_alloc _).mono (by simp))
  have hrX : W.heap[w.heap.size]? = some (.cells #[.slice A fl.length c, .slice Ao os.length co] 49 (0, 0)) := by
    rw [hW, Below.heap_alloc _ _ _ (by simp)]; exact heap_alloc_new w _
  have hrN : W.heap[w.heap.size + 1]? = some (.cells #[.string (strB nm)] 64 (0, 0)) := by
    have := heap_alloc_new (w.alloc (.cells #[.slice A fl.length c, .slice Ao os.length co] 49)) (.cells #[.string (strB nm)] 64)
    rw [hW]; simpa using this
  have hBW : B ≤ W.heap.size := by omega
  have hvW := hv.below hB hb0
  have hoW := ho.below hB hb0
  have k0 : W.cell? ⟨w.heap.size, 0, none⟩ = some (.slice A fl.length c) := cell_of_row _ _ 0 _ _ _ hrX
  have k1 : W.cell? ⟨w.heap.size, 1, none⟩ = some (.slice Ao os.length co) := cell_of_row _ _ 1 _ _ _ hrX
  have k2 : W.cell? ⟨w.heap.size + 1, 0, none⟩ = some (.string (strB nm)) := cell_of_row _ _ 0 _ _ _ hrN
  have HW := Lib.hid hW
  clear hW hv ho
  have CR := Lib.hid (rread_any B Z _ _ fl os nm W hBW hvW hoW hz hZ)
  generalize lookL (viewL fl os) nm = ob at *
  go_enter Try.func46, Try.ntmps46
  go_wp2_with fail
  rw [← HW.out]
  (with_reducible refine CR.out.mono ?_)
  rintro e w1 ⟨vb, rfl, hOb, hb1⟩
  clear CR
  obtain ⟨Ab, cb, rfl, z1, z2, z3⟩ := hOb.rd.open_
  have HZ3 := Lib.hid z3
  clear z3
  generalize hn : (ob.getD []).length = n at *
  have HN := Lib.hid hn
  clear hn
  go_wp2_with fail
  go_ret
  exact ⟨by rw [HN.out]; rfl, hb0.trans (hb1.mono (by omega))⟩

set_option maxRecDepth 100000 in
set_option maxHeartbeats 4000000 in
theorem r36len_any (B Z : Nat) (lv ov : Value) (fl : FL) (os : List DOp) (nm : List UInt8) (w : World) (hB : B ≤ w.heap.size) (hv : FlsRd B w lv fl) (ho : DosRd B w ov os) (hz : RSz Z fl os) (hZ : Z ≤ 1073741824) (hl : ((lookL (viewL fl os) nm).getD []).length ≤ 1099511627776) :
    Calls Try.prog 45 #[.agg #[lv, ov], .agg #[.string (strB nm)]] w fun e w' => e = .returned (.int .i64 (((scanF ((lookL (viewL fl os) nm).getD [])).1.length : Nat) : Int)) ∧ Below w.heap.size w w' := by
  obtain ⟨A, c, rfl, a1, a2, a3⟩ := hv.open_
  obtain ⟨Ao, co, rfl, b1, b2, b3⟩ := ho.open_
  have HA3 := Lib.hid a3
  have HB3 := Lib.hid b3
  clear a3 b3
  obtain ⟨W, hW⟩ : ∃ W, W = ((w.alloc (.cells #[.slice A fl.length c, .slice Ao os.length co] 49)).alloc (.cells #[.string (strB nm)] 64)) := ⟨_, rfl⟩
  have hWs : W.heap.size = w.heap.size + 2 := by rw [hW]; simp
  have hb0 : Below w.heap.size w W := by rw [hW]; exact (Below.of_alloc _).trans ((Below.of_alloc _).mono (by simp))
  have hrX : W.heap[w.heap.size]? = some (.cells #[.slice A fl.length c, .slice Ao os.length co] 49 (0, 0)) := by
    rw [hW, Below.heap_alloc _ _ _ (by simp)]; exact heap_alloc_new w _
  have hrN : W.heap[w.heap.size + 1]? = some (.cells #[.string (strB nm)] 64 (0, 0)) := by
    have := heap_alloc_new (w.alloc (.cells #[.slice A fl.length c, .slice Ao os.length co] 49)) (.cells #[.string (strB nm)] 64)
    rw [hW]; simpa using this
  have hBW : B ≤ W.heap.size := by omega
  have hvW := hv.below hB hb0
  have hoW := ho.below hB hb0
  have k0 : W.cell? ⟨w.heap.size, 0, none⟩ = some (.slice A fl.length c) := cell_of_row _ _ 0 _ _ _ hrX
  have k1 : W.cell? ⟨w.heap.size, 1, none⟩ = some (.slice Ao os.length co) := cell_of_row _ _ 1 _ _ _ hrX
  have k2 : W.cell? ⟨w.heap.size + 1, 0, none⟩ = some (.string (strB nm)) := cell_of_row _ _ 0 _ _ _ hrN
  have HW := Lib.hid hW
  clear hW hv ho
  have CR := Lib.hid (rread_any B Z _ _ fl os nm W hBW hvW hoW hz (by omega))
  generalize lookL (viewL fl os) nm = ob at *
  go_enter Try.func45, Try.ntmps45
  go_wp2_with fail
  rw [← HW.out]
  (with_reducible refine CR.out.mono ?_)
  rintro e w1 ⟨vb, rfl, hOb, hb1⟩
  clear CR
  generalize hbl : ob.getD [] = bl at *
  have HBL := Lib.hid hbl
  clear hbl
  have hs1 := hb1.size
  obtain ⟨Ab, cb, rfl, z1, z2, z3⟩ := hOb.rd.open_
  have HZ3 := Lib.hid z3
  clear z3
  have CS := Lib.hid (tscan_any _ bl w1 hOb.rd (by omega))
  generalize hsc : scanF bl = sc at *
  have HSC := Lib.hid hsc
  clear hsc
  obtain ⟨recs, en⟩ := sc
  simp only at *
  go_wp2_with fail
  (with_reducible refine CS.out.mono ?_)
  rintro e w2 ⟨vr, rfl, hOr, hb2⟩
  clear CS
  have hR2 : DatL w2.heap.size w2 vr recs := hOr.dat
  obtain ⟨Ar, cr, rfl, r1, r2, r3⟩ := hR2.open_
  have HR3 := Lib.hid r3
  clear r3 hOr hR2
  generalize hnr : recs.length = nr at *
  have HNR := Lib.hid hnr
  clear hnr
  go_wp2_with fail
  go_ret
  exact ⟨by rw [HBL.out, HSC.out]; simp only; rw [HNR.out]; rfl, (hb0.trans (hb1.mono (by omega))).trans (hb2.mono (by omega))⟩

set_option maxHeartbeats 1000000 in
theorem nilw_sync (w : World) : Calls Try.prog 15 #[.pointer none] w fun e w' => (∃ u, e = .returned u) ∧ w = w' := by
  go_enter Try.func15, Try.ntmps15
  go_wp2_with fail
  go_end0
  exact ⟨⟨_, rfl⟩, rfl⟩
set_option maxHeartbeats 1000000 in
theorem nilw_append (v : Value) (w : World) : Calls Try.prog 16 #[.pointer none, v] w fun e w' => e = .returned (.int .i64 0) ∧ w = w' := by
  go_enter Try.func16, Try.ntmps16
  go_wp2_with fail
  go_ret
  exact ⟨rfl, rfl⟩
set_option maxHeartbeats 1000000 in
theorem nilw_len (w : World) : Calls Try.prog 20 #[.pointer none] w fun e w' => e = .returned (.int .i64 0) ∧ w = w' := by
  go_enter Try.func20, Try.ntmps20
  go_wp2_with fail
  go_ret
  exact ⟨rfl, rfl⟩
set_option maxHeartbeats 1000000 in
theorem nilw_size (w : World) : Calls Try.prog 37 #[.pointer none] w fun e w' => e = .returned (.int .i64 0) ∧ w = w' := by
  go_enter Try.func37, Try.ntmps37
  go_wp2_with fail
  go_ret
  exact ⟨rfl, rfl⟩
set_option maxHeartbeats 1000000 in
theorem nilw_name (w : World) : Calls Try.prog 38 #[.pointer none] w fun e w' => e = .returned (.string ⟨#[]⟩) ∧ w = w' := by
  go_enter Try.func38, Try.ntmps38
  go_wp2_with fail
  go_ret
  exact ⟨rfl, rfl⟩
set_option maxHeartbeats 1000000 in
theorem nilw_open (s : ByteArray) (w : World) : Calls Try.prog 13 #[.pointer none, .string s] w fun e w' => e = .returned (.tuple #[.pointer none, .slice none 0 0, .int .i64 8]) ∧ w = w' := by
  go_enter Try.func13, Try.ntmps13
  go_wp2_with fail
  go_ret3
  exact ⟨rfl, rfl⟩
end Go.Proofs.Ytooojgokkigncaa
