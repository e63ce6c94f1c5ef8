/-
  ref37.header.
-/
import Derived.Test.YtacjiocffbgkkaaGreatSegT
import Derived.Test.YtacjiocffbgkkaaGreatRtB7
namespace Go.Proofs.YtacjiocffbgkkaaGreat
open Go.RowKit Go.Lib Go.IntWalk Go.Sort Go.Shelf

def HdrOut (r : List UInt8 × Int × Int) (w0 : World) (e : Ending) (w : World) : Prop := ∃ (s : ByteArray) (n : Int), e = .returned (.tuple #[.string s, .int .i64 n, .int .i64 r.2.2]) ∧ Below w0.heap.size w0 w ∧ (r.2.2 = 0 → s = strB r.1 ∧ n = r.2.1)
theorem HdrOut.no {r : List UInt8 × Int × Int} {c : Int} {s : ByteArray} {n : Int} {w0 w : World} {e : Ending} (hr : r.2.2 = c) (he : e = .returned (.tuple #[.string s, .int .i64 n, .int .i64 c])) (hb : Below w0.heap.size w0 w) (hc : c ≠ 0) : HdrOut r w0 e w := by
  subst hr
  exact ⟨s, n, he, hb, fun h => absurd h hc⟩

set_option maxRecDepth 1000000 in
set_option maxHeartbeats 8000000 in
theorem header_any (v : Value) (l : List UInt8) (w : World) (hv : RdB w (· < w.heap.size) v l) :
    Calls Tryz.prog 41 #[v] w (HdrOut (prsF l) w) := by
  obtain ⟨Av, cv, rfl, y1, y2, y3⟩ := Rd.open_ hv
  unfold maxLen at y2
  have HV := Lib.hid hv
  obtain ⟨res, hres⟩ : ∃ r, r = prsF l := ⟨_, rfl⟩
  rw [← hres]
  unfold prsF at hres
  have K1 := refText_any (· < w.heap.size) _ l 0 200 w hv
  rcases hT : decT l 0 200 with ⟨tb, k0, e0⟩
  rw [hT] at hres K1
  simp only at hres
  rcases hA : decI l k0 with ⟨n1, k1, e1⟩
  rw [hA] at hres
  simp only at hres
  rcases hB : decI l k1 with ⟨n2, k2, e2⟩
  rw [hB] at hres
  simp only at hres
  have KA : Calls Tryz.prog 81 #[.slice Av l.length cv, .int .i64 k0] w (Int3 (n1, k1, e1) w) := by
    rw [← hA]
    exact refInt_any (· < w.heap.size) _ l k0 w HV.out
  have KB : Calls Tryz.prog 81 #[.slice Av l.length cv, .int .i64 k1] w (Int3 (n2, k2, e2) w) := by
    rw [← hB]
    exact refInt_any (· < w.heap.size) _ l k1 w HV.out
  have KP : ∀ k W, Below w.heap.size w W → Calls Tryz.prog 82 #[.slice Av l.length cv, .int .i64 k] W (Period3 (decP l k) W) := fun k W hW => refPeriod_any _ l k W (RdB.below HV.out hW)
  have hbd := (decI_bd l k1)
  rw [hB] at hbd
  simp only at hbd
  have hbd2 := hbd.2.1
  have HRES := Lib.hid hres
  have HKP := Lib.hid KP
  have HKA := Lib.hid KA
  have HKB := Lib.hid KB
  clear hv hres hT hA hB hbd y3 KP KA KB
  go_enter Tryz.func41, Tryz.ntmps41
  go_wp2_with fail
  (with_reducible refine K1.mono ?_)
  rintro _ w1 ⟨rfl, hw1⟩
  rw [← hw1]
  clear hw1 w1 K1
  generalize hS : strB tb = S
  by_cases h0 : e0 = 0
  case neg =>
    have HF : Hid (res.2.2 = e0) := Lib.hid (by rw [HRES.out, if_pos h0])
    go_wp2_with fail
    go_loopw [6, 7, 10] (fun a e i wr => (∃ k : Int, a = .int .i64 k) ∧ e = .int .i64 e0 ∧ i = .int .i64 0 ∧ wr = w) (fun _ _ _ _ => 0)
    case atStart => exact ⟨⟨_, rfl⟩, rfl, rfl, rfl⟩
    case round =>
      obtain ⟨⟨k, rfl⟩, rfl, rfl, hw⟩ := hrel
      rw [hw]
      clear hw
      go_wp2_with fail
      go_ret3
      exact HdrOut.no HF.out rfl (Below.refl _ _) h0
  case pos =>
    have HR1 : Hid (res = if e1 ≠ 0 then ([], 0, e1) else if n1 < 0 then ([], 0, 1) else if e2 ≠ 0 then ([], 0, e2) else if n2 < 0 then ([], 0, 1) else if (skipP l n2.toNat k2).2 ≠ 0 then ([], 0, (skipP l n2.toNat k2).2) else if (skipP l n2.toNat k2).1 < l.length then ([], 0, 3) else (tb, n2, 0)) := Lib.hid (by rw [HRES.out, if_neg (by simpa using h0)])
    subst h0
    clear HRES
    have KA := HKA.out
    go_wp2_with fail
    (with_reducible refine KA.mono ?_)
    rintro _ w1 ⟨rfl, hw1⟩
    rw [← hw1]
    clear hw1 w1 KA HKA
    by_cases h1 : e1 = 0
    case neg =>
      have HF : Hid (res.2.2 = e1) := Lib.hid (by rw [HR1.out, if_pos h1])
      go_wp2_with fail
      go_loopw [6, 7, 10] (fun a e i wr => (∃ k : Int, a = .int .i64 k) ∧ e = .int .i64 e1 ∧ i = .int .i64 0 ∧ wr = w) (fun _ _ _ _ => 0)
      case atStart => exact ⟨⟨_, rfl⟩, rfl, rfl, rfl⟩
      case round =>
        obtain ⟨⟨k, rfl⟩, rfl, rfl, hw⟩ := hrel
        rw [hw]
        clear hw
        go_wp2_with fail
        go_ret3
        exact HdrOut.no HF.out rfl (Below.refl _ _) h1
    case pos =>
      subst h1
      by_cases h2 : n1 < 0
      case pos =>
        have HF : Hid (res.2.2 = 1) := Lib.hid (by rw [HR1.out, if_neg (by simp), if_pos h2])
        go_wp2_with fail
        go_loopw [6, 7, 10] (fun a e i wr => (∃ k : Int, a = .int .i64 k) ∧ e = .int .i64 1 ∧ i = .int .i64 0 ∧ wr = w) (fun _ _ _ _ => 0)
        case atStart => exact ⟨⟨_, rfl⟩, rfl, rfl, rfl⟩
        case round =>
          obtain ⟨⟨k, rfl⟩, rfl, rfl, hw⟩ := hrel
          rw [hw]
          clear hw
          go_wp2_with fail
          go_ret3
          exact HdrOut.no HF.out rfl (Below.refl _ _) (by decide)
      case neg =>
        have HR2 : Hid (res = if e2 ≠ 0 then ([], 0, e2) else if n2 < 0 then ([], 0, 1) else if (skipP l n2.toNat k2).2 ≠ 0 then ([], 0, (skipP l n2.toNat k2).2) else if (skipP l n2.toNat k2).1 < l.length then ([], 0, 3) else (tb, n2, 0)) := Lib.hid (by rw [HR1.out, if_neg (by simp), if_neg h2])
        clear HR1
        have KB := HKB.out
        go_wp2_with fail
        (with_reducible refine KB.mono ?_)
        rintro _ w1 ⟨rfl, hw1⟩
        rw [← hw1]
        clear hw1 w1 KB HKB
        by_cases h3 : e2 = 0
        case neg =>
          have HF : Hid (res.2.2 = e2) := Lib.hid (by rw [HR2.out, if_pos h3])
          go_wp2_with fail
          go_loopw [6, 7, 10] (fun a e i wr => (∃ k : Int, a = .int .i64 k) ∧ e = .int .i64 e2 ∧ i = .int .i64 0 ∧ wr = w) (fun _ _ _ _ => 0)
          case atStart => exact ⟨⟨_, rfl⟩, rfl, rfl, rfl⟩
          case round =>
            obtain ⟨⟨k, rfl⟩, rfl, rfl, hw⟩ := hrel
            rw [hw]
            clear hw
            by_cases hbl : 0 < n2
            · go_wp2_with fail
              go_ret3
              exact HdrOut.no HF.out rfl (Below.refl _ _) h3
            · go_wp2_with fail
              go_ret3
              exact HdrOut.no HF.out rfl (Below.refl _ _) h3
        case pos =>
          subst h3
          by_cases h4 : n2 < 0
          case pos =>
            have HF : Hid (res.2.2 = 1) := Lib.hid (by rw [HR2.out, if_neg (by simp), if_pos h4])
            go_wp2_with fail
            go_loopw [6, 7, 10] (fun a e i wr => (∃ k : Int, a = .int .i64 k) ∧ e = .int .i64 1 ∧ i = .int .i64 0 ∧ wr = w) (fun _ _ _ _ => 0)
            case atStart => exact ⟨⟨_, rfl⟩, rfl, rfl, rfl⟩
            case round =>
              obtain ⟨⟨k, rfl⟩, rfl, rfl, hw⟩ := hrel
              rw [hw]
              clear hw
              by_cases hbl : 0 < n2
              · go_wp2_with fail
                go_ret3
                exact HdrOut.no HF.out rfl (Below.refl _ _) (by decide)
              · go_wp2_with fail
                go_ret3
                exact HdrOut.no HF.out rfl (Below.refl _ _) (by decide)
          case neg =>
            obtain ⟨N, hN⟩ : ∃ N : Nat, n2 = (N : Int) := ⟨n2.toNat, by omega⟩
            have HR3 : Hid (res = if (skipP l N k2).2 ≠ 0 then ([], 0, (skipP l N k2).2) else if (skipP l N k2).1 < l.length then ([], 0, 3) else (tb, (N : Int), 0)) := Lib.hid (by rw [HR2.out, if_neg (by simp), if_neg h4, hN, Int.toNat_natCast])
            subst hN
            obtain ⟨sk, hsk⟩ : ∃ s, s = skipP l N k2 := ⟨_, rfl⟩
            rw [← hsk] at HR3
            have HSK := Lib.hid hsk
            clear hsk HR2
            go_wp2_with fail
            go_loopw [6, 7, 10] (fun a e i wr => ∃ (i' : Nat) (k x : Int), i = .int .i64 (i' : Int) ∧ a = .int .i64 k ∧ e = .int .i64 x ∧ i' ≤ N ∧ Hid ((x = 0 ∧ skipP l (N - i') k = sk) ∨ (x ≠ 0 ∧ sk.2 = x)) ∧ Hid (Below w.heap.size w wr)) (fun _ _ i _ => N - (intOf i).toNat)
            case atStart => exact ⟨0, k2, 0, rfl, rfl, rfl, Nat.zero_le _, Lib.hid (.inl ⟨rfl, HSK.out.symm⟩), Lib.hid (Below.refl _ _)⟩
            case round =>
              obtain ⟨i', k, x, rfl, rfl, rfl, hi', HS, HB⟩ := hrel
              obtain ⟨wo, rfl⟩ : ∃ wo : World, wo = wr := ⟨_, rfl⟩
              by_cases hx : x = 0
              case neg =>
                have HF : Hid (res.2.2 = x) := Lib.hid (by
                  rcases HS.out with h | h
                  · exact absurd h.1 hx
                  · rw [HR3.out, if_pos (by rw [h.2]; exact hx), h.2])
                by_cases hni : (i' : Int) < (N : Int)
                · go_wp2_with fail
                  go_ret3
                  exact HdrOut.no HF.out rfl HB.out hx
                · go_wp2_with fail
                  go_ret3
                  exact HdrOut.no HF.out rfl HB.out hx
              case pos =>
                subst hx
                have HS : Hid (skipP l (N - i') k = sk) := Lib.hid (by
                  rcases HS.out with h | h
                  · exact h.2
                  · exact absurd rfl h.1)
                by_cases hlt : i' < N
                case neg =>
                  have hs : sk = (k, 0) := by rw [← HS.out, show N - i' = 0 by omega]; rfl
                  have HR4 : Hid (res = if k < l.length then ([], 0, 3) else (tb, (N : Int), 0)) := Lib.hid (by rw [HR3.out, hs]; exact if_neg (by simp))
                  have hni : ¬ (i' : Int) < (N : Int) := by omega
                  clear hs
                  by_cases hkl : k < (l.length : Int)
                  · have HF : Hid (res.2.2 = 3) := Lib.hid (by rw [HR4.out, if_pos hkl])
                    go_wp2_with fail
                    go_ret3
                    exact HdrOut.no HF.out rfl HB.out (by decide)
                  · have HF : Hid (res = (tb, (N : Int), 0)) := Lib.hid (by rw [HR4.out, if_neg hkl])
                    go_wp2_with fail
                    go_ret3
                    rw [HF.out]
                    exact ⟨_, _, rfl, HB.out, fun _ => ⟨hS.symm, rfl⟩⟩
                case pos =>
                  have hni : (i' : Int) < (N : Int) := by omega
                  have hstep : sk = if (decP l k).2.2 ≠ 0 then (0, (decP l k).2.2) else if (decP l (decP l k).2.1).2.2 ≠ 0 then (0, (decP l (decP l k).2.1).2.2) else skipP l (N - (i' + 1)) (decP l (decP l k).2.1).2.1 := by
                    rw [← HS.out, show N - i' = (N - (i' + 1)) + 1 by omega]; rfl
                  have KP1 := HKP.out k wo HB.out
                  have KP2 := fun W (hW : Below w.heap.size w W) => HKP.out (decP l k).2.1 W hW
                  rcases hP : decP l k with ⟨⟨f1, t1⟩, q1, x1⟩
                  rw [hP] at hstep KP1 KP2
                  simp only at hstep KP2
                  rcases hP2 : decP l q1 with ⟨⟨f2, t2⟩, q2, x2⟩
                  rw [hP2] at hstep KP2
                  simp only at hstep
                  have HST := Lib.hid hstep
                  have HKP2 := Lib.hid KP2
                  clear hstep hP hP2 KP2
                  go_wp2_with fail
                  (with_reducible refine KP1.mono ?_)
                  rintro _ w3 ⟨rfl, hb3⟩
                  simp only
                  have HB3 := Lib.hid (HB.out.trans (hb3.mono HB.out.size))
                  clear hb3 KP1
                  by_cases hx1 : x1 = 0
                  case neg =>
                    have HN : Hid ((x1 = 0 ∧ skipP l (N - (i' + 1)) q1 = sk) ∨ (x1 ≠ 0 ∧ sk.2 = x1)) := Lib.hid (.inr ⟨hx1, by rw [HST.out, if_pos hx1]⟩)
                    go_wp2_with fail
                    go_roundw
                    case rel => exact ⟨i' + 1, q1, x1, by go_num, rfl, rfl, by omega, HN, HB3⟩
                    case measure => simp [intOf]; omega
                  case pos =>
                    subst hx1
                    have KP2 := HKP2.out w3 HB3.out
                    have HN : Hid ((x2 = 0 ∧ skipP l (N - (i' + 1)) q2 = sk) ∨ (x2 ≠ 0 ∧ sk.2 = x2)) := Lib.hid (by
                      by_cases hx2 : x2 = 0
                      · exact .inl ⟨hx2, by rw [HST.out, if_neg (by simp), if_neg (by simpa using hx2)]⟩
                      · exact .inr ⟨hx2, by rw [HST.out, if_neg (by simp), if_pos hx2]⟩)
                    go_wp2_with fail
                    (with_reducible refine KP2.mono ?_)
                    rintro _ w4 ⟨rfl, hb4⟩
                    simp only
                    have HB4 := Lib.hid (HB3.out.trans (hb4.mono HB3.out.size))
                    clear hb4 KP2
                    go_wp2_with fail
                    go_roundw
                    case rel => exact ⟨i' + 1, q2, x2, by go_num, rfl, rfl, by omega, HN, HB4⟩
                    case measure => simp [intOf]; omega
end Go.Proofs.YtacjiocffbgkkaaGreat
