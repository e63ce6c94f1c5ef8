/-
  segment.parse.
-/
import Derived.Test.YtacjiocffbgkkaaGreatSegI
namespace Go.Proofs.YtacjiocffbgkkaaGreat
open Go.RowKit Go.Lib Go.IntWalk Go.Sort Go.Shelf

def skipP (l : List UInt8) : Nat → Int → Int × Int
  | 0, k => (k, 0)
  | n + 1, k => if (decP l k).2.2 ≠ 0 then (0, (decP l k).2.2) else if (decP l (decP l k).2.1).2.2 ≠ 0 then (0, (decP l (decP l k).2.1).2.2) else skipP l n (decP l (decP l k).2.1).2.1
/-- the table and the number of blocks of a first frame, or the error -/
def prsF (l : List UInt8) : List UInt8 × Int × Int :=
  if (decT l 0 200).2.2 ≠ 0 then ([], 0, (decT l 0 200).2.2)
  else if (decI l (decT l 0 200).2.1).2.2 ≠ 0 then ([], 0, (decI l (decT l 0 200).2.1).2.2)
  else if (decI l (decT l 0 200).2.1).1 < 0 then ([], 0, 1)
  else if (decI l (decI l (decT l 0 200).2.1).2.1).2.2 ≠ 0 then ([], 0, (decI l (decI l (decT l 0 200).2.1).2.1).2.2)
  else if (decI l (decI l (decT l 0 200).2.1).2.1).1 < 0 then ([], 0, 1)
  else if (skipP l (decI l (decI l (decT l 0 200).2.1).2.1).1.toNat (decI l (decI l (decT l 0 200).2.1).2.1).2.1).2 ≠ 0 then ([], 0, (skipP l (decI l (decI l (decT l 0 200).2.1).2.1).1.toNat (decI l (decI l (decT l 0 200).2.1).2.1).2.1).2)
  else if (skipP l (decI l (decI l (decT l 0 200).2.1).2.1).1.toNat (decI l (decI l (decT l 0 200).2.1).2.1).2.1).1 < l.length then ([], 0, 3)
  else ((decT l 0 200).1, (decI l (decI l (decT l 0 200).2.1).2.1).1, 0)
def PrsOut (r : List UInt8 × Int × Int) (w0 : World) (e : Ending) (w : World) : Prop := e = .returned (.tuple #[.string (strB r.1), .int .i64 r.2.1, .int .i64 r.2.2]) ∧ Below w0.heap.size w0 w
theorem PrsOut.no {r : List UInt8 × Int × Int} {c : Int} {w0 w : World} {e : Ending} (hr : r = ([], 0, c)) (he : e = .returned (.tuple #[.string ⟨#[]⟩, .int .i64 0, .int .i64 c])) (hb : Below w0.heap.size w0 w) : PrsOut r w0 e w := by
  subst hr
  exact ⟨he, hb⟩

set_option maxRecDepth 1000000 in
set_option maxHeartbeats 8000000 in
theorem parse_any (v : Value) (l : List UInt8) (w : World) (hv : RdB w (· < w.heap.size) v l) :
    Calls Tryz.prog 37 #[v] w (PrsOut (prsF l) w) := by
  obtain ⟨Av, cv, rfl, y1, y2, y3⟩ := Rd.open_ hv
  unfold maxLen at y2
  have HV := Lib.hid hv
  obtain ⟨res, hres⟩ : ∃ r, r = prsF l := ⟨_, rfl⟩
  rw [← hres]
  unfold prsF at hres
  have K1 := text_any (· < w.heap.size) _ l 0 200 w hv
  rcases hT : decT l 0 200 with ⟨tb, k0, e0⟩
  rw [hT] at hres K1
  simp only at hres
  rcases hA : decI l k0 with ⟨n1, k1, e1⟩
  rw [hA] at hres
  simp only at hres
  rcases hB : decI l k1 with ⟨n2, k2, e2⟩
  rw [hB] at hres
  simp only at hres
  have KA : ∀ W, Below w.heap.size w W → Calls Tryz.prog 77 #[.slice Av l.length cv, .int .i64 k0] W (Int3 (n1, k1, e1) W) := fun W hW => by
    rw [← hA]
    exact int_any (· < w.heap.size) _ l k0 W (Rd.keep HV.out (Keeps.below hW))
  have KB : ∀ W, Below w.heap.size w W → Calls Tryz.prog 77 #[.slice Av l.length cv, .int .i64 k1] W (Int3 (n2, k2, e2) W) := fun W hW => by
    rw [← hB]
    exact int_any (· < w.heap.size) _ l k1 W (Rd.keep HV.out (Keeps.below hW))
  have hbd := (decI_bd l k1)
  rw [hB] at hbd
  simp only at hbd
  have hbd2 := hbd.2.1
  have KP : ∀ k W, Below w.heap.size w W → Calls Tryz.prog 78 #[.slice Av l.length cv, .int .i64 k] W (Period3 (decP l k) W) := fun k W hW => period_any _ l k W (RdB.below HV.out hW)
  have HRES := Lib.hid hres
  have HKA := Lib.hid KA
  have HKB := Lib.hid KB
  have HKP := Lib.hid KP
  clear hv hres hT hA hB hbd y3 KA KB KP
  go_enter Tryz.func37, Tryz.ntmps37
  go_wp2_with fail
  (with_reducible refine K1.mono ?_)
  rintro _ w1 ⟨rfl, hw1⟩
  rw [← hw1]
  clear hw1 w1 K1
  by_cases h0 : e0 = 0
  case neg =>
    have HF : Hid (res = ([], 0, e0)) := Lib.hid (by rw [HRES.out]; exact if_pos h0)
    go_wp2_with fail
    go_ret3
    exact PrsOut.no HF.out rfl (Below.refl _ _)
  case pos =>
    have HR1 : Hid (res = if e1 ≠ 0 then ([], 0, e1) else if n1 < 0 then ([], 0, 1) else if e2 ≠ 0 then ([], 0, e2) else if n2 < 0 then ([], 0, 1) else if (skipP l n2.toNat k2).2 ≠ 0 then ([], 0, (skipP l n2.toNat k2).2) else if (skipP l n2.toNat k2).1 < l.length then ([], 0, 3) else (tb, n2, 0)) := Lib.hid (by rw [HRES.out, if_neg (by simpa using h0)])
    subst h0
    clear HRES
    obtain ⟨W, hW⟩ : ∃ W, W = w.alloc (.cells #[.int .i64 0, .int .i64 0] 140) := ⟨_, rfl⟩
    have hbW : Below w.heap.size w W := by rw [hW]; exact Below.of_alloc _
    have hT0 : W.heap[w.heap.size]? = some (.cells #[.int .i64 0, .int .i64 0] 140 (0, 0)) := by rw [hW]; exact heap_alloc_new _ _
    have HBW := Lib.hid hbW
    have HT0 := Lib.hid hT0
    clear hbW hT0
    go_wp2_with fail
    rw [← hW]
    clear hW
    go_loopw [6, 21] (fun a i wr => Hid (Below w.heap.size w wr) ∧ ((i = .int .i64 0 ∧ a = .int .i64 k0 ∧ Hid (wr.heap[w.heap.size]? = some (.cells #[.int .i64 0, .int .i64 0] 140 (0, 0)))) ∨ (i = .int .i64 1 ∧ a = .int .i64 k1 ∧ Hid (wr.heap[w.heap.size]? = some (.cells #[.int .i64 n1, .int .i64 0] 140 (0, 0))) ∧ Hid (e1 = 0 ∧ 0 ≤ n1)) ∨ (i = .int .i64 2 ∧ a = .int .i64 k2 ∧ Hid (wr.heap[w.heap.size]? = some (.cells #[.int .i64 n1, .int .i64 n2] 140 (0, 0))) ∧ Hid ((e1 = 0 ∧ 0 ≤ n1) ∧ (e2 = 0 ∧ 0 ≤ n2))))) (fun _ i _ => 2 - (intOf i).toNat)
    case atStart => exact ⟨HBW, .inl ⟨rfl, rfl, HT0⟩⟩
    case round =>
      obtain ⟨HBr, hrel⟩ := hrel
      obtain ⟨wi, rfl⟩ : ∃ wi : World, wi = wr := ⟨_, rfl⟩
      rcases hrel with ⟨rfl, rfl, HT⟩ | ⟨rfl, rfl, HT, HE1⟩ | ⟨rfl, rfl, HT, HE2⟩
      · have c0 : wi.cell? ⟨w.heap.size, 0, none⟩ = some (.int .i64 0) := cell_of_row wi _ 0 _ _ _ HT.out
        have f0 : wi.frozen? ⟨w.heap.size, 0, none⟩ = false := frozen_of_row wi _ 0 _ _ HT.out
        have KA := HKA.out wi HBr.out
        have hTN := heap_setCell_same wi w.heap.size 0 _ _ (.int .i64 n1) HT.out
        have HTN : Hid ((wi.setCell ⟨w.heap.size, 0, none⟩ (.int .i64 n1)).heap[w.heap.size]? = some (.cells #[.int .i64 n1, .int .i64 0] 140 (0, 0))) := Lib.hid (by simpa using hTN)
        have d0 : (wi.setCell ⟨w.heap.size, 0, none⟩ (.int .i64 n1)).cell? ⟨w.heap.size, 0, none⟩ = some (.int .i64 n1) := cell_of_row _ _ 0 _ _ _ HTN.out
        have HBN : Hid (Below w.heap.size w (wi.setCell ⟨w.heap.size, 0, none⟩ (.int .i64 n1))) := Lib.hid (HBr.out.setCell (p := ⟨w.heap.size, 0, none⟩) (Nat.le_refl _) _)
        clear hTN
        go_wp2_with fail
        (with_reducible refine KA.mono ?_)
        rintro _ w1 ⟨rfl, hw1⟩
        rw [← hw1]
        clear hw1 w1 KA
        by_cases h1 : e1 = 0
        · by_cases h2 : n1 < 0
          · have HF : Hid (res = ([], 0, 1)) := Lib.hid (by rw [HR1.out, if_neg (by simpa using h1), if_pos h2])
            go_wp2_with fail
            go_ret3
            exact PrsOut.no HF.out rfl HBN.out
          · have HE : Hid (e1 = 0 ∧ 0 ≤ n1) := Lib.hid ⟨h1, Int.not_lt.1 h2⟩
            go_wp2_with fail
            go_roundw
            case rel => exact ⟨HBN, .inr (.inl ⟨rfl, rfl, HTN, HE⟩)⟩
            case measure => simp [intOf]
        · have HF : Hid (res = ([], 0, e1)) := Lib.hid (by rw [HR1.out, if_pos h1])
          go_wp2_with fail
          go_ret3
          exact PrsOut.no HF.out rfl HBN.out
      · have c1 : wi.cell? ⟨w.heap.size, 1, none⟩ = some (.int .i64 0) := cell_of_row wi _ 1 _ _ _ HT.out
        have f1 : wi.frozen? ⟨w.heap.size, 1, none⟩ = false := frozen_of_row wi _ 1 _ _ HT.out
        have KB := HKB.out wi HBr.out
        have hTN := heap_setCell_same wi w.heap.size 1 _ _ (.int .i64 n2) HT.out
        have HTN : Hid ((wi.setCell ⟨w.heap.size, 1, none⟩ (.int .i64 n2)).heap[w.heap.size]? = some (.cells #[.int .i64 n1, .int .i64 n2] 140 (0, 0))) := Lib.hid (by simpa using hTN)
        have d1 : (wi.setCell ⟨w.heap.size, 1, none⟩ (.int .i64 n2)).cell? ⟨w.heap.size, 1, none⟩ = some (.int .i64 n2) := cell_of_row _ _ 1 _ _ _ HTN.out
        have HBN : Hid (Below w.heap.size w (wi.setCell ⟨w.heap.size, 1, none⟩ (.int .i64 n2))) := Lib.hid (HBr.out.setCell (p := ⟨w.heap.size, 1, none⟩) (Nat.le_refl _) _)
        clear hTN
        go_wp2_with fail
        (with_reducible refine KB.mono ?_)
        rintro _ w1 ⟨rfl, hw1⟩
        rw [← hw1]
        clear hw1 w1 KB
        by_cases h1 : e2 = 0
        · by_cases h2 : n2 < 0
          · have HF : Hid (res = ([], 0, 1)) := Lib.hid (by rw [HR1.out, if_neg (by simpa using HE1.out.1), if_neg (Int.not_lt.2 HE1.out.2), if_neg (by simpa using h1), if_pos h2])
            go_wp2_with fail
            go_ret3
            exact PrsOut.no HF.out rfl HBN.out
          · have HE : Hid ((e1 = 0 ∧ 0 ≤ n1) ∧ (e2 = 0 ∧ 0 ≤ n2)) := Lib.hid ⟨HE1.out, h1, Int.not_lt.1 h2⟩
            go_wp2_with fail
            go_roundw
            case rel => exact ⟨HBN, .inr (.inr ⟨rfl, rfl, HTN, HE⟩)⟩
            case measure => simp [intOf]
        · have HF : Hid (res = ([], 0, e2)) := Lib.hid (by rw [HR1.out, if_neg (by simpa using HE1.out.1), if_neg (Int.not_lt.2 HE1.out.2), if_pos h1])
          go_wp2_with fail
          go_ret3
          exact PrsOut.no HF.out rfl HBN.out
      · have c1 : wi.cell? ⟨w.heap.size, 1, none⟩ = some (.int .i64 n2) := cell_of_row wi _ 1 _ _ _ HT.out
        obtain ⟨N, hN⟩ : ∃ N : Nat, n2 = (N : Int) := ⟨n2.toNat, by have := HE2.out.2.2; omega⟩
        have HR2 : Hid (res = if (skipP l N k2).2 ≠ 0 then ([], 0, (skipP l N k2).2) else if (skipP l N k2).1 < l.length then ([], 0, 3) else (tb, (N : Int), 0)) := Lib.hid (by rw [HR1.out, if_neg (by simpa using HE2.out.1.1), if_neg (Int.not_lt.2 HE2.out.1.2), if_neg (by simpa using HE2.out.2.1), if_neg (Int.not_lt.2 HE2.out.2.2), hN, Int.toNat_natCast])
        subst hN
        obtain ⟨sk, hsk⟩ : ∃ s, s = skipP l N k2 := ⟨_, rfl⟩
        rw [← hsk] at HR2
        have HSK := Lib.hid hsk
        clear hsk HR1 HE2
        go_wp2_with fail
        go_loopw [6, 11] (fun a i wr => ∃ (i' : Nat) (k : Int), i = .int .i64 (i' : Int) ∧ a = .int .i64 k ∧ i' ≤ N ∧ Hid (skipP l (N - i') k = sk) ∧ Hid (Below w.heap.size w wr)) (fun _ i _ => N - (intOf i).toNat)
        case atStart => exact ⟨0, k2, rfl, rfl, Nat.zero_le _, Lib.hid HSK.out.symm, HBr⟩
        case round =>
          obtain ⟨i', k, rfl, rfl, hi', HS, HB⟩ := hrel
          obtain ⟨wo, rfl⟩ : ∃ wo : World, wo = wr := ⟨_, rfl⟩
          by_cases hlt : i' < N
          case neg =>
            have hs : sk = (k, 0) := by rw [← HS.out, show N - i' = 0 by omega]; rfl
            have HR3 : Hid (res = if k < l.length then ([], 0, 3) else (tb, (N : Int), 0)) := Lib.hid (by rw [HR2.out, hs]; exact if_neg (by simp))
            have hni : ¬ (i' : Int) < (N : Int) := by omega
            clear hs
            by_cases hkl : k < (l.length : Int)
            · have HF : Hid (res = ([], 0, 3)) := Lib.hid (by rw [HR3.out, if_pos hkl])
              go_wp2_with fail
              go_ret3
              exact PrsOut.no HF.out rfl HB.out
            · have HF : Hid (res = (tb, (N : Int), 0)) := Lib.hid (by rw [HR3.out, if_neg hkl])
              go_wp2_with fail
              go_ret3
              rw [HF.out]
              exact ⟨rfl, HB.out⟩
          case pos =>
            have hni : (i' : Int) < (N : Int) := by omega
            have hstep : sk = if (decP l k).2.2 ≠ 0 then (0, (decP l k).2.2) else if (decP l (decP l k).2.1).2.2 ≠ 0 then (0, (decP l (decP l k).2.1).2.2) else skipP l (N - (i' + 1)) (decP l (decP l k).2.1).2.1 := by
              rw [← HS.out, show N - i' = (N - (i' + 1)) + 1 by omega]; rfl
            have KP1 := fun W (hW : Below w.heap.size w W) => HKP.out k W hW
            rcases hP : decP l k with ⟨⟨f1, t1⟩, q1, x1⟩
            rw [hP] at hstep
            have KP1 : ∀ W, Below w.heap.size w W → Calls Tryz.prog 78 #[.slice Av l.length cv, .int .i64 k] W (Period3 ((f1, t1), q1, x1) W) := fun W hW => by have h := KP1 W hW; rw [hP] at h; exact h
            simp only at hstep
            have KP2 := fun W (hW : Below w.heap.size w W) => HKP.out q1 W hW
            rcases hP2 : decP l q1 with ⟨⟨f2, t2⟩, q2, x2⟩
            rw [hP2] at hstep
            have KP2 : ∀ W, Below w.heap.size w W → Calls Tryz.prog 78 #[.slice Av l.length cv, .int .i64 q1] W (Period3 ((f2, t2), q2, x2) W) := fun W hW => by have h := KP2 W hW; rw [hP2] at h; exact h
            simp only at hstep
            have HST := Lib.hid hstep
            have HKP1 := Lib.hid KP1
            have HKP2 := Lib.hid KP2
            clear hstep hP hP2 KP1 KP2
            go_wp2_with fail
            go_loopw [6, 48] (fun a j wr => Hid (Below w.heap.size w wr) ∧ ((j = .int .i64 0 ∧ a = .int .i64 k) ∨ (j = .int .i64 1 ∧ a = .int .i64 q1 ∧ Hid (x1 = 0)) ∨ (j = .int .i64 2 ∧ a = .int .i64 q2 ∧ Hid (x1 = 0 ∧ x2 = 0)))) (fun _ j _ => 2 - (intOf j).toNat)
            case atStart => exact ⟨HB, .inl ⟨rfl, rfl⟩⟩
            case round =>
              obtain ⟨HBq, hrel⟩ := hrel
              obtain ⟨wq, rfl⟩ : ∃ wq : World, wq = wr := ⟨_, rfl⟩
              rcases hrel with ⟨rfl, rfl⟩ | ⟨rfl, rfl, HX1⟩ | ⟨rfl, rfl, HX2⟩
              · have KP := HKP1.out wq HBq.out
                go_wp2_with fail
                (with_reducible refine KP.mono ?_)
                rintro _ w3 ⟨rfl, hb3⟩
                have HB3 := Lib.hid (HBq.out.trans (hb3.mono HBq.out.size))
                clear hb3 KP
                by_cases h1 : x1 = 0
                · have HE := Lib.hid h1
                  go_wp2_with fail
                  go_roundw
                  case rel => exact ⟨HB3, .inr (.inl ⟨rfl, rfl, HE⟩)⟩
                  case measure => simp [intOf]
                · have HF : Hid (res = ([], 0, x1)) := Lib.hid (by rw [HR2.out, HST.out, if_pos h1]; exact if_pos h1)
                  go_wp2_with fail
                  go_ret3
                  exact PrsOut.no HF.out rfl HB3.out
              · have KP := HKP2.out wq HBq.out
                go_wp2_with fail
                (with_reducible refine KP.mono ?_)
                rintro _ w3 ⟨rfl, hb3⟩
                have HB3 := Lib.hid (HBq.out.trans (hb3.mono HBq.out.size))
                clear hb3 KP
                by_cases h1 : x2 = 0
                · have HE := Lib.hid (And.intro HX1.out h1)
                  go_wp2_with fail
                  go_roundw
                  case rel => exact ⟨HB3, .inr (.inr ⟨rfl, rfl, HE⟩)⟩
                  case measure => simp [intOf]
                · have HF : Hid (res = ([], 0, x2)) := Lib.hid (by
                    have hs : sk = (0, x2) := by rw [HST.out, if_neg (fun h => h HX1.out), if_pos h1]
                    rw [HR2.out, hs]; exact if_pos h1)
                  go_wp2_with fail
                  go_ret3
                  exact PrsOut.no HF.out rfl HB3.out
              · have HN : Hid (skipP l (N - (i' + 1)) q2 = sk) := Lib.hid (by rw [HST.out, if_neg (fun h => h HX2.out.1), if_neg (fun h => h HX2.out.2)])
                go_wp2_with fail
                go_roundw
                case rel => exact ⟨i' + 1, q2, by go_num, rfl, by omega, HN, HBq⟩
                case measure => simp [intOf]; omega
end Go.Proofs.YtacjiocffbgkkaaGreat
