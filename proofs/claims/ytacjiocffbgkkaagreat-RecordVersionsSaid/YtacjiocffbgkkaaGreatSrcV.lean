/-
  The reference's DecodeVersions.
-/
import Derived.Test.YtacjiocffbgkkaaGreatSrcU
namespace Go.Proofs.YtacjiocffbgkkaaGreat
open Go.RowKit Go.Lib Go.IntWalk Go.Sort Go.Shelf

set_option maxRecDepth 1000000 in
set_option maxHeartbeats 4000000 in
theorem refDecodeVersions_any (v : Value) (l : List UInt8) (w : World) (hv : RdB w (· < w.heap.size) v l) :
    Calls Tryz.prog 25 #[v] w (DecVOut (decVersions l) w) := by
  obtain ⟨bA, bc, rfl, y1, y2, y3⟩ := Rd.open_ hv
  unfold maxLen at y2
  have HV := Lib.hid hv
  clear hv y3
  by_cases hl : 1048576 < l.length
  case pos =>
    rw [show decVersions l = ([], 5) from if_pos hl]
    have hli : (1048576 : Int) < (l.length : Int) := by omega
    go_enter Tryz.func25, Tryz.ntmps25
    go_wp2_with fail
    go_ret2
    exact DecVOut.no rfl (Below.refl _ _)
  case neg =>
    have hli : ¬ (1048576 : Int) < (l.length : Int) := by omega
    rw [show decVersions l = _ from if_neg hl]
    have KR := readVersions_any bA bc 0 InR.zero l w HV.out (by omega)
    obtain ⟨r, hr⟩ : ∃ r, r = rdVs l (0, 0) := ⟨_, rfl⟩
    rw [← hr] at KR
    rw [← hr]
    obtain ⟨vs, k, e⟩ := r
    clear hr
    obtain ⟨ee, hee⟩ : ∃ ee, ee = endE (k, e) l.length := ⟨_, rfl⟩
    simp only
    rw [← hee]
    have KD : ∀ n g W, Calls Tryz.prog 63 #[inV bA l.length bc (k, e) n g] W fun x w' => x = .returned (.int .i64 ee) ∧ Below W.heap.size W w' := fun n g W => by
      have h := done_any bA bc k e n g l W
      rw [← hee] at h
      exact h
    obtain ⟨res, hres⟩ : ∃ r, r = (if ee ≠ 0 then (([] : List Ver), ee) else if 4096 < vs.length then ([], 5) else if chkFrom none vs ≠ 0 then ([], chkFrom none vs) else (vs, 0)) := ⟨_, rfl⟩
    rw [← hres]
    have HRES : Hid (res = if ee ≠ 0 then (([] : List Ver), ee) else if chkV vs ≠ 0 then ([], chkV vs) else (vs, 0)) := Lib.hid (by
      rw [hres, chkV]
      by_cases h1 : ee ≠ 0
      · rw [if_pos h1, if_pos h1]
      · rw [if_neg h1, if_neg h1]
        by_cases h2 : 4096 < vs.length
        · rw [if_pos h2, if_pos h2, if_pos (by decide)]
        · rw [if_neg h2, if_neg h2])
    simp only [inV, InR.zero] at KR
    clear hres hee
    go_enter Tryz.func25, Tryz.ntmps25
    go_wp2_with fail
    (with_reducible refine KR.mono ?_)
    rintro _ w1 ⟨nn, ⟨sx, vkx, vix, vsx, rAx, rnx, rcx, p1x, p2x, lAx, lnx, lcx⟩, u, Q, rfl, hQ, hQm, hb1⟩
    simp only [inV] at hQm ⊢
    obtain ⟨Aq, cq, rfl, q1, q2, q3⟩ := hQ.1.open_
    unfold maxLen at q2
    obtain ⟨W, hW⟩ : ∃ W, W = w1.alloc (.cells #[.slice bA l.length bc, .int .i64 k, .int .i64 e, .int .i64 nn, .string sx, .int .i64 vkx, .int .i64 vix, .string vsx, .slice rAx rnx rcx, .int .i64 p1x, .int .i64 p2x, .slice lAx lnx lcx] 125) := ⟨_, rfl⟩
    have hbW : Below w1.heap.size w1 W := by rw [hW]; exact Below.of_alloc _
    have hT : W.heap[w1.heap.size]? = some (.cells #[.slice bA l.length bc, .int .i64 k, .int .i64 e, .int .i64 nn, .string sx, .int .i64 vkx, .int .i64 vix, .string vsx, .slice rAx rnx rcx, .int .i64 p1x, .int .i64 p2x, .slice lAx lnx lcx] 125 (0, 0)) := by rw [hW]; exact heap_alloc_new _ _
    have hB := hb1.trans (hbW.mono hb1.size)
    have HB := Lib.hid hB
    have HQ : Hid (RdVs W (fun b => w.heap.size ≤ b ∧ b < W.heap.size) (.slice Aq Q.length cq) Q) := Lib.hid ((hQ.keep (fun b hb => hbW.block b hb.2)).wide (fun b hb => ⟨hb.1, by have := hbW.size; have := hb.2; omega⟩))
    have HQM := Lib.hid hQm
    have g0 : W.cell? ⟨w1.heap.size, 0, none⟩ = some (.slice bA l.length bc) := cell_of_row W _ 0 _ _ _ hT
    have g1 : W.cell? ⟨w1.heap.size, 1, none⟩ = some (.int .i64 k) := cell_of_row W _ 1 _ _ _ hT
    have g2 : W.cell? ⟨w1.heap.size, 2, none⟩ = some (.int .i64 e) := cell_of_row W _ 2 _ _ _ hT
    have g3 : W.cell? ⟨w1.heap.size, 3, none⟩ = some (.int .i64 nn) := cell_of_row W _ 3 _ _ _ hT
    have g4 : W.cell? ⟨w1.heap.size, 4, none⟩ = some (.string sx) := cell_of_row W _ 4 _ _ _ hT
    have g5 : W.cell? ⟨w1.heap.size, 5, none⟩ = some (.int .i64 vkx) := cell_of_row W _ 5 _ _ _ hT
    have g6 : W.cell? ⟨w1.heap.size, 6, none⟩ = some (.int .i64 vix) := cell_of_row W _ 6 _ _ _ hT
    have g7 : W.cell? ⟨w1.heap.size, 7, none⟩ = some (.string vsx) := cell_of_row W _ 7 _ _ _ hT
    have g8 : W.cell? ⟨w1.heap.size, 8, none⟩ = some (.slice rAx rnx rcx) := cell_of_row W _ 8 _ _ _ hT
    have g9 : W.cell? ⟨w1.heap.size, 9, none⟩ = some (.int .i64 p1x) := cell_of_row W _ 9 _ _ _ hT
    have g10 : W.cell? ⟨w1.heap.size, 10, none⟩ = some (.int .i64 p2x) := cell_of_row W _ 10 _ _ _ hT
    have g11 : W.cell? ⟨w1.heap.size, 11, none⟩ = some (.slice lAx lnx lcx) := cell_of_row W _ 11 _ _ _ hT
    have KD := KD nn ⟨sx, vkx, vix, vsx, rAx, rnx, rcx, p1x, p2x, lAx, lnx, lcx⟩ W
    simp only [inV] at KD
    clear hB hbW hb1 hQ hQm hT q3 KR
    go_upto_region 4 with (fail)
    rw [← hW]
    clear hW
    go_wp2_with fail
    (with_reducible refine KD.mono ?_)
    rintro _ w2 ⟨rfl, hb2⟩
    have HB2 : Hid (Below w.heap.size w w2) := Lib.hid (HB.out.trans (hb2.mono HB.out.size))
    have HQ2 : Hid (RdVs w2 (fun b => w.heap.size ≤ b ∧ b < w2.heap.size) (.slice Aq Q.length cq) Q) := Lib.hid ((HQ.out.keep (fun b hb => hb2.block b hb.2)).wide (fun b hb => ⟨hb.1, by have := hb2.size; have := hb.2; omega⟩))
    clear hb2 KD g0 g1 g2 g3 g4 g5 g6 g7 g8 g9 g10 g11
    by_cases he : ee = 0
    case neg =>
      have HR : Hid (res = ([], ee)) := Lib.hid (by rw [HRES.out, if_pos he])
      go_wp2_with fail
      go_ret2
      rw [HR.out]
      exact DecVOut.no rfl HB2.out
    case pos =>
      have KC := refCheckVersions_any _ Q w2 (HQ2.out.wide (fun b hb => hb.2))
      rw [HQM.out] at KC
      obtain ⟨ce, hce⟩ : ∃ c, c = chkV vs := ⟨_, rfl⟩
      rw [← hce] at KC
      have HR2 : Hid (res = if ce ≠ 0 then ([], ce) else (vs, 0)) := Lib.hid (by rw [HRES.out, if_neg (by simpa using he), hce])
      clear hce
      go_wp2_with fail
      (with_reducible refine KC.mono ?_)
      rintro _ w3 ⟨rfl, hb3⟩
      have HB3 : Hid (Below w.heap.size w w3) := Lib.hid (HB2.out.trans (hb3.mono HB2.out.size))
      have HQ3 : Hid (RdVs w3 (fun b => w.heap.size ≤ b ∧ b < w3.heap.size) (.slice Aq Q.length cq) Q) := Lib.hid ((HQ2.out.keep (fun b hb => hb3.block b hb.2)).wide (fun b hb => ⟨hb.1, by have := hb3.size; have := hb.2; omega⟩))
      clear KC hb3
      by_cases hc : ce = 0
      case neg =>
        have HR : Hid (res = ([], ce)) := Lib.hid (by rw [HR2.out, if_pos hc])
        go_wp2_with fail
        go_ret2
        rw [HR.out]
        exact DecVOut.no rfl HB3.out
      case pos =>
        have HR : Hid (res = (vs, 0)) := Lib.hid (by rw [HR2.out, if_neg (by simpa using hc)])
        go_wp2_with fail
        go_ret2
        rw [HR.out]
        exact ⟨_, Q, rfl, HQ3.out, HQM.out, HB3.out⟩
end Go.Proofs.YtacjiocffbgkkaaGreat
