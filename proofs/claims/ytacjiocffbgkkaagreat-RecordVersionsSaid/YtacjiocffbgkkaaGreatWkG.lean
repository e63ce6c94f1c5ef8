/-
  RecordVersions.
-/
import Derived.Test.YtacjiocffbgkkaaGreatWkF
namespace Go.Proofs.YtacjiocffbgkkaaGreat
open Go.RowKit Go.Lib Go.IntWalk Go.Sort Go.Shelf

theorem encV_rd {ps : List VP} {w0 w : World} {u : Value} (h0 : encVsE (ps.map (·.2)) = 0 → OwnB w w0.heap.size u (encVsB (ps.map (·.2)))) (h1 : encVsE (ps.map (·.2)) ≠ 0 → u = .slice none 0 0) : RdB w (· < w.heap.size) u (if encVsE (ps.map (·.2)) = 0 then encVsB (ps.map (·.2)) else []) := by
  by_cases h : encVsE (ps.map (·.2)) = 0
  · rw [if_pos h]
    exact (h0 h).rd
  · rw [if_neg h, h1 h]
    exact RdB.nil _ _
set_option maxRecDepth 1000000 in
set_option maxHeartbeats 8000000 in
theorem lawRVers_any (v : Value) (ps : List VP) (vb : Value) (b : List UInt8) (w : World) (hv : RdVs w (· < w.heap.size) v ps) (hb : RdB w (· < w.heap.size) vb b) :
    Calls Tryz.prog 5 #[v, vb] w fun e w' => e = .returned (.bool true) ∧ Below w.heap.size w w' := by
  have HV := Lib.hid hv
  have HB := Lib.hid hb
  obtain ⟨A, c, rfl, x1, x2, x3⟩ := hv.1.open_
  obtain ⟨Ab, cb, rfl, y1, y2, y3⟩ := Rd.open_ hb
  unfold maxLen at x2 y2
  clear hv hb x3 y3
  by_cases h1 : 300 < ps.length
  case pos =>
    have h1i : (300 : Int) < (ps.length : Int) := by omega
    go_enter Tryz.func5, Tryz.ntmps5
    go_wp2_with fail
    (with_reducible refine (works35_any w).mono ?_)
    rintro _ z9 ⟨rfl, hb9⟩
    have HZ9 : Hid (Below w.heap.size w z9) := Lib.hid ((Below.refl w.heap.size w).trans (hb9.mono (Below.refl w.heap.size w).size))
    clear hb9
    go_wp2_with fail
    go_ret
    exact ⟨rfl, HZ9.out⟩
  have h1i : ¬ (300 : Int) < (ps.length : Int) := by omega
  by_cases h2 : 2000 < b.length
  case pos =>
    have h2i : (2000 : Int) < (b.length : Int) := by omega
    go_enter Tryz.func5, Tryz.ntmps5
    go_wp2_with fail
    (with_reducible refine (works35_any w).mono ?_)
    rintro _ z9 ⟨rfl, hb9⟩
    have HZ9 : Hid (Below w.heap.size w z9) := Lib.hid ((Below.refl w.heap.size w).trans (hb9.mono (Below.refl w.heap.size w).size))
    clear hb9
    go_wp2_with fail
    go_ret
    exact ⟨rfl, HZ9.out⟩
  have h2i : ¬ (2000 : Int) < (b.length : Int) := by omega
  have K1 := encodeVersions_any _ ps w HV.out
  go_enter Tryz.func5, Tryz.ntmps5
  go_wp2_with fail
  (with_reducible refine K1.mono ?_)
  rintro _ w1 ⟨u1, rfl, hb1, ho1, hn1⟩
  have HU1 := Lib.hid (encV_rd ho1 hn1)
  have HB1 := Lib.hid hb1
  have K2 := refEncodeVersions_any _ ps w1 (HV.out.below hb1)
  clear hb1 ho1 hn1 K1
  go_wp2_with fail
  (with_reducible refine K2.mono ?_)
  rintro _ w2 ⟨u2, rfl, hb2, ho2, hn2⟩
  have HU2 := Lib.hid (encV_rd ho2 hn2)
  have HU1b := Lib.hid (RdB.below HU1.out hb2)
  have HB2 : Hid (Below w.heap.size w w2) := Lib.hid (HB1.out.trans (hb2.mono HB1.out.size))
  have K3 := decodeVersions_any _ b w2 (RdB.below HB.out HB2.out)
  generalize encVsE (ps.map (·.2)) = ee at *
  generalize (if ee = 0 then encVsB (ps.map (·.2)) else []) = L at *
  obtain ⟨rd, hrd⟩ : ∃ r, r = decVersions b := ⟨_, rfl⟩
  rw [← hrd] at K3
  have HRD := Lib.hid hrd
  clear hb2 ho2 hn2 K2 hrd HU1
  go_wp2_with fail
  (with_reducible refine K3.mono ?_)
  rintro _ w3 ⟨u3, Q3, rfl, hq3, hm3, hb3⟩
  have HQ3 : Hid (RdVs w3 (· < w3.heap.size) u3 Q3) := Lib.hid (hq3.wide fun b hb => hb.2)
  have HM3 := Lib.hid hm3
  have HB3 : Hid (Below w.heap.size w w3) := Lib.hid (HB2.out.trans (hb3.mono HB2.out.size))
  have HUa := Lib.hid (RdB.below HU1b.out hb3)
  have HUb := Lib.hid (RdB.below HU2.out hb3)
  have K4 := refDecodeVersions_any _ b w3 (RdB.below HB.out HB3.out)
  rw [← HRD.out] at K4
  clear hq3 hm3 hb3 K3
  go_wp2_with fail
  (with_reducible refine K4.mono ?_)
  rintro _ w4 ⟨u4, Q4, rfl, hq4, hm4, hb4⟩
  have HB4 : Hid (Below w.heap.size w w4) := Lib.hid (HB3.out.trans (hb4.mono HB3.out.size))
  have KE := equal35_any u1 u2 L _ _ w4 (RdB.below HUa.out hb4) (RdB.below HUb.out hb4)
  have KS := sameVersions_any _ _ Q3 Q4 w4 (HQ3.out.below hb4) (hq4.wide fun b hb => hb.2) (by rw [HM3.out, hm4])
  clear hq4 hm4 hb4 K4
  go_wp2_with fail
  (with_reducible refine KE.mono ?_)
  rintro _ w5 ⟨rfl, hw5⟩
  rw [hw5]
  clear hw5 w5 KE
  go_wp2_with fail
  (with_reducible refine KS.mono ?_)
  rintro _ w6 ⟨rfl, hb6⟩
  have HB6 : Hid (Below w.heap.size w w6) := Lib.hid (HB4.out.trans (hb6.mono HB4.out.size))
  clear hb6 KS
  go_wp2_with fail
  (with_reducible refine (works35_any w6).mono ?_)
  rintro _ z9 ⟨rfl, hb9⟩
  have HZ9 : Hid (Below w.heap.size w z9) := Lib.hid ((HB6.out).trans (hb9.mono (HB6.out).size))
  clear hb9
  go_wp2_with fail
  go_ret
  exact ⟨rfl, HZ9.out⟩
end Go.Proofs.YtacjiocffbgkkaaGreat
