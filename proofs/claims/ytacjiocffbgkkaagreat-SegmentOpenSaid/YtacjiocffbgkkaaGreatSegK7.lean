/-
  segment.Open.
-/
import Derived.Test.YtacjiocffbgkkaaGreatSegJ
namespace Go.Proofs.YtacjiocffbgkkaaGreat
open Go.RowKit Go.Lib Go.IntWalk Go.Sort Go.Shelf

theorem bytesEq_any (va vb : Value) (la lb : List UInt8) (F G : Nat → Prop) (w : World) (ha : RdB w F va la) (hb : RdB w G vb lb) :
    Calls Tryz.prog 38 #[va, vb] w fun e w' => e = .returned (.bool (la == lb)) ∧ w = w' := by
  have h1 := run_bytes_str ha
  have h2 := run_bytes_str hb
  go_enter Tryz.func38, Tryz.ntmps38
  go_wp2
  go_ret
  exact ⟨by simp [strB_toList], rfl⟩
theorem nextF_gt {l b : List UInt8} {k m : Int} (h : nextF l k = (b, m, 0)) : 0 ≤ k ∧ m = k + 8 + b.length ∧ m ≤ l.length := by
  unfold nextF at h
  split at h
  · simp at h
  · rename_i h1
    split at h
    · simp at h
    · split at h
      · simp at h
      · split at h
        · simp at h
        · rename_i h4
          split at h
          · simp at h
          · simp only [Prod.mk.injEq, and_true] at h
            obtain ⟨rfl, rfl⟩ := h
            rw [List.length_take, List.length_drop]
            omega
theorem prsF_tab (l : List UInt8) : (prsF l).1.length ≤ 200 := by
  unfold prsF
  have := decT_bd l 0 200
  repeat' split
  all_goals first | (simp; done) | (simp only; omega)
theorem prsF_num (l : List UInt8) : 0 ≤ (prsF l).2.1 := by
  unfold prsF
  repeat' split
  all_goals first | exact Int.le_refl 0 | (simp only; omega)

def opnL (l : List UInt8) : Nat → Int → List (List Ver) × Int × Int
  | 0, k => ([], k, 0)
  | n + 1, k => if (nextF l k).2.2 ≠ 0 then ([], 0, (nextF l k).2.2) else if (decVersions (nextF l k).1).2 ≠ 0 then ([], 0, (decVersions (nextF l k).1).2)
    else ((decVersions (nextF l k).1).1 :: (opnL l n (nextF l k).2.1).1, (opnL l n (nextF l k).2.1).2)
def szF : List (List Ver) → Nat
  | [] => 1
  | x :: _ => max 1 x.length
/-- the table and the lists of versions of a file, or the error -/
def opnF (l : List UInt8) : (List UInt8 × List (List Ver)) × Int :=
  if (nextF l 0).2.2 ≠ 0 then (([], []), (nextF l 0).2.2)
  else if (prsF (nextF l 0).1).2.2 ≠ 0 then (([], []), (prsF (nextF l 0).1).2.2)
  else if (opnL l (prsF (nextF l 0).1).2.1.toNat (nextF l 0).2.1).2.2 ≠ 0 then (([], []), (opnL l (prsF (nextF l 0).1).2.1.toNat (nextF l 0).2.1).2.2)
  else if (opnL l (prsF (nextF l 0).1).2.1.toNat (nextF l 0).2.1).2.1 < l.length then (([], []), 3)
  else if (bldF (prsF (nextF l 0).1).1 (opnL l (prsF (nextF l 0).1).2.1.toNat (nextF l 0).2.1).1.flatten (szF (opnL l (prsF (nextF l 0).1).2.1.toNat (nextF l 0).2.1).1)).2 ≠ 0 ∨ (bldF (prsF (nextF l 0).1).1 (opnL l (prsF (nextF l 0).1).2.1.toNat (nextF l 0).2.1).1.flatten (szF (opnL l (prsF (nextF l 0).1).2.1.toNat (nextF l 0).2.1).1)).1 ≠ l then (([], []), 24)
  else (((prsF (nextF l 0).1).1, (opnL l (prsF (nextF l 0).1).2.1.toNat (nextF l 0).2.1).1), 0)
/-- block P holds a segment: its table and its blocks -/
def SegAt (w : World) (P : Nat) (t : List UInt8) (cs : List (List Ver)) : Prop := ∃ u ls, w.heap[P]? = some (.cells #[.string (strB t), u] 77 (0, 0)) ∧ RdBk w (· < w.heap.size) u ls ∧ ls.map (fun p => p.2.map (·.2)) = cs
theorem SegAt.lt {w : World} {P : Nat} {t : List UInt8} {cs : List (List Ver)} (h : SegAt w P t cs) : P < w.heap.size := by
  obtain ⟨u, ls, h1, _⟩ := h
  exact (Array.getElem?_eq_some_iff.1 h1).1
theorem SegAt.below {w w' : World} {P : Nat} {t : List UInt8} {cs : List (List Ver)} (h : SegAt w P t cs) (hb : Below w.heap.size w w') : SegAt w' P t cs := by
  have hl := h.lt
  obtain ⟨u, ls, h1, h2, h3⟩ := h
  exact ⟨u, ls, (hb.block P hl).trans h1, h2.below hb, h3⟩
def OpnOut (res : (List UInt8 × List (List Ver)) × Int) (w0 : World) (e : Ending) (w : World) : Prop :=
  Below w0.heap.size w0 w ∧ ((res.2 ≠ 0 ∧ e = .returned (.tuple #[.pointer none, .int .i64 res.2])) ∨ (res.2 = 0 ∧ ∃ P, e = .returned (.tuple #[.pointer (some ⟨P, 0, none⟩), .int .i64 0]) ∧ SegAt w P res.1.1 (chunks (szF res.1.2) res.1.2.flatten)))
theorem OpnOut.no {res : (List UInt8 × List (List Ver)) × Int} {c : Int} {w0 w : World} {e : Ending} (hr : res = (([], []), c)) (hc : c ≠ 0) (he : e = .returned (.tuple #[.pointer none, .int .i64 c])) (hb : Below w0.heap.size w0 w) : OpnOut res w0 e w := by
  subst hr
  exact ⟨hb, .inl ⟨hc, he⟩⟩

set_option maxRecDepth 1000000 in
set_option maxHeartbeats 16000000 in
theorem open_any (v : Value) (l : List UInt8) (w : World) (hv : RdB w (· < w.heap.size) v l) (hl : l.length ≤ 1048576) :
    Calls Tryz.prog 9 #[v] w (OpnOut (opnF l) w) := by
  obtain ⟨Av, cv, rfl, y1, y2, y3⟩ := Rd.open_ hv
  unfold maxLen at y2
  have HV := Lib.hid hv
  obtain ⟨res, hres⟩ : ∃ r, r = opnF l := ⟨_, rfl⟩
  rw [← hres]
  unfold opnF at hres
  have K1 := next_any _ l 0 w hv
  rcases hT : nextF l 0 with ⟨b0, k0, e0⟩
  rw [hT] at hres K1
  simp only at hres
  have HNX := Lib.hid hT
  have HRES := Lib.hid hres
  obtain ⟨i0, hi, hz0, hz1, hz2⟩ := info_parts infoVer
  have HI := Lib.hid hi
  have HZ0 := Lib.hid hz0
  have HZ1 := Lib.hid hz1
  have HZ2 := Lib.hid hz2
  clear hv hres hT y3 hi hz0 hz1 hz2
  go_enter Tryz.func9, Tryz.ntmps9
  go_wp2_with fail
  (with_reducible refine K1.mono ?_)
  rintro _ w1 ⟨vb, rfl, hO1, hb1⟩
  simp only at hO1 ⊢
  have HO1 := Lib.hid hO1
  have HB1 := Lib.hid hb1
  clear hO1 hb1 K1
  by_cases h0 : e0 = 0
  case neg =>
    have HF : Hid (res = (([], []), e0)) := Lib.hid (by rw [HRES.out]; exact if_pos h0)
    go_wp2_with fail
    go_ret2
    exact OpnOut.no HF.out h0 rfl HB1.out
  case pos =>
    have hn0 := nextF_gt (h0 ▸ HNX.out)
    have K2 := parse_any vb b0 w1 HO1.out.rd
    have htab := prsF_tab b0
    have hnum := prsF_num b0
    rcases hP : prsF b0 with ⟨tb, nb, e1⟩
    rw [hP] at K2 htab hnum
    simp only at htab hnum
    obtain ⟨N, rfl⟩ := Int.eq_ofNat_of_zero_le hnum
    have HR1 : Hid (res = if e1 ≠ 0 then (([], []), e1) else if (opnL l N k0).2.2 ≠ 0 then (([], []), (opnL l N k0).2.2) else if (opnL l N k0).2.1 < l.length then (([], []), 3)
        else if (bldF tb (opnL l N k0).1.flatten (szF (opnL l N k0).1)).2 ≠ 0 ∨ (bldF tb (opnL l N k0).1.flatten (szF (opnL l N k0).1)).1 ≠ l then (([], []), 24) else ((tb, (opnL l N k0).1), 0)) := Lib.hid (by
      rw [HRES.out, if_neg (by simpa using h0), hP]
      simp only [Int.toNat_natCast])
    have HTB := Lib.hid htab
    have HN0 := Lib.hid hn0
    subst h0
    clear HRES hP hn0 hnum htab
    go_wp2_with fail
    (with_reducible refine K2.mono ?_)
    rintro _ w2 ⟨rfl, hb2⟩
    have HB2 : Hid (Below w.heap.size w w2) := Lib.hid (HB1.out.trans (hb2.mono HB1.out.size))
    clear hb2 K2
    simp only
    by_cases h1 : e1 = 0
    case neg =>
      have HF : Hid (res = (([], []), e1)) := Lib.hid (by rw [HR1.out]; exact if_pos h1)
      go_wp2_with fail
      go_ret2
      exact OpnOut.no HF.out h1 rfl HB2.out
    case pos =>
      obtain ⟨rl, hrl⟩ : ∃ r, r = opnL l N k0 := ⟨_, rfl⟩
      have HR2 : Hid (res = if rl.2.2 ≠ 0 then (([], []), rl.2.2) else if rl.2.1 < l.length then (([], []), 3) else if (bldF tb rl.1.flatten (szF rl.1)).2 ≠ 0 ∨ (bldF tb rl.1.flatten (szF rl.1)).1 ≠ l then (([], []), 24) else ((tb, rl.1), 0)) := Lib.hid (by rw [HR1.out, if_neg (by simpa using h1), hrl])
      have HRL := Lib.hid hrl
      subst h1
      clear HR1 hrl
      go_wp2_with fail
      go_loopw [5, 9, 10, 11] (fun a o z i wr => ∃ (i' : Nat) (k : Int) (Q : List VP) (dn : List (List Ver)), i = .int .i64 (i' : Int) ∧ a = .int .i64 k ∧ z = .int .i64 (szF dn : Nat) ∧ i' ≤ N ∧ (i' : Int) ≤ k ∧ dn.length = i' ∧ (Q.length : Int) ≤ k ∧ k ≤ l.length ∧ (szF dn) ≤ 1048576 ∧ Hid (OwnP wr w.heap.size o Q) ∧ Hid (∀ p ∈ Q, VerIs wr (fun b => b < wr.heap.size ∧ some b ≠ Value.ownBlock o) p.1 p.2) ∧ Hid (Q.map (·.2) = dn.flatten) ∧ Hid ((dn ++ (opnL l (N - i') k).1, (opnL l (N - i') k).2) = rl ∨ rl.2.2 ≠ 0 ∧ (opnL l (N - i') k).2 = rl.2) ∧ Hid (Below w.heap.size w wr)) (fun _ _ _ i _ => N - (intOf i).toNat)
      case atStart => exact ⟨0, k0, [], [], rfl, rfl, rfl, Nat.zero_le _, by have := HN0.out; simp; omega, rfl, by have := HN0.out; simp; omega, by have := HN0.out; omega, by decide, Lib.hid (World.ownsRow_nil _ _ _ _), Lib.hid (fun p hp => by cases hp), Lib.hid rfl, Lib.hid (.inl HRL.out.symm), HB2⟩
      case round =>
        obtain ⟨i', k, Q, dn, rfl, rfl, rfl, hi', hik, hdl, hQk, hkl, hsz, HO, HR, HQ, HG, HB⟩ := hrel
        obtain ⟨wi, rfl⟩ : ∃ wi : World, wi = wr := ⟨_, rfl⟩
        have hsi := HB.out.size
        obtain ⟨Ao, co, rfl, o1, o2, o3⟩ := Rd.open_ (Rd.of_own HO.out)
        unfold maxLen at o2
        clear o3
        have hQl : Q.length ≤ 1048576 := by omega
        by_cases hlt : i' < N
        case neg =>
          have hni : ¬ (i' : Int) < (N : Int) := by omega
          have hRL : rl = (dn, k, 0) := by
            have h0 : opnL l (N - i') k = ([], k, 0) := by rw [show N - i' = 0 by omega]; rfl
            rcases HG.out with h | ⟨h1, h2⟩
            · rw [← h, h0]; simp
            · rw [h0] at h2; exact absurd (by rw [← h2]) h1
          have HR3 : Hid (res = if k < l.length then (([], []), 3) else if (bldF tb dn.flatten (szF dn)).2 ≠ 0 ∨ (bldF tb dn.flatten (szF dn)).1 ≠ l then (([], []), 24) else ((tb, dn), 0)) := Lib.hid (by rw [HR2.out, hRL]; exact if_neg (by simp))
          clear hRL
          by_cases hk : k < (l.length : Int)
          case pos =>
            have HF : Hid (res = (([], []), 3)) := Lib.hid (by rw [HR3.out]; exact if_pos hk)
            go_wp2_with fail
            go_ret2
            exact OpnOut.no HF.out (by decide) rfl HB.out
          case neg =>
            have hRd : RdVs wi (· < wi.heap.size) (.slice Ao Q.length co) Q := ⟨(Rd.of_own HO.out).wide (fun b hb => hb.2), fun p hp => (HR.out p hp).wide fun b hb => hb.1⟩
            have KB := build_any tb _ Q (szF dn : Nat) wi hRd (by have := HTB.out; omega) hQl
            rw [HQ.out] at KB
            obtain ⟨bf, hbf⟩ : ∃ b, b = bldF tb dn.flatten (szF dn : Nat) := ⟨_, rfl⟩
            rw [← hbf] at KB
            have HR4 : Hid (res = if bf.2 ≠ 0 ∨ bf.1 ≠ l then (([], []), 24) else ((tb, dn), 0)) := Lib.hid (by rw [HR3.out, if_neg hk, hbf])
            have HRd := Lib.hid hRd
            have hsz1 : 1 ≤ szF dn := by cases dn <;> simp [szF]; omega
            clear hbf hRd HR3 HG
            obtain ⟨bb, eb⟩ := bf
            simp only at HR4
            go_wp2_with fail
            (with_reducible refine KB.mono ?_)
            rintro _ w3 ⟨u3, rfl, hO3, hb3⟩
            simp only at hO3 ⊢
            have HB3 : Hid (Below w.heap.size w w3) := Lib.hid (HB.out.trans (hb3.mono hsi))
            have HB3i := Lib.hid hb3
            have HO3 := Lib.hid hO3
            clear hb3 hO3 KB
            by_cases he : eb = 0
            case neg =>
              have HF : Hid (res = (([], []), 24)) := Lib.hid (by rw [HR4.out]; exact if_pos (.inl he))
              go_wp2_with fail
              go_ret2
              exact OpnOut.no HF.out (by decide) rfl HB3.out
            case pos =>
              have KE := bytesEq_any u3 _ bb l _ _ w3 HO3.out.rd (RdB.below HV.out HB3.out)
              obtain ⟨be, hbe⟩ : ∃ b, b = (bb == l) := ⟨_, rfl⟩
              rw [← hbe] at KE
              have HBE := Lib.hid hbe
              subst he
              clear hbe
              go_wp2_with fail
              (with_reducible refine KE.mono ?_)
              rintro _ w4 ⟨rfl, hw4⟩
              rw [← hw4]
              clear hw4 w4 KE
              cases be
              case false =>
                have HF : Hid (res = (([], []), 24)) := Lib.hid (by
                  rw [HR4.out]
                  refine if_pos (.inr (fun h => ?_))
                  have := HBE.out
                  rw [h] at this
                  simp at this)
                go_wp2_with fail
                go_ret2
                exact OpnOut.no HF.out (by decide) rfl HB3.out
              case true =>
                have hbl : bb = l := by have := HBE.out; simpa using this.symm
                have HF : Hid (res = ((tb, dn), 0)) := Lib.hid (by rw [HR4.out]; exact if_neg (fun h => h.elim (fun h => h rfl) (fun h => h hbl)))
                have KC := cut_any _ Q (szF dn) w3 (HRd.out.below HB3i.out) hsz1 hsz hQl
                clear hbl
                go_wp2_with fail
                (with_reducible refine KC.mono ?_)
                rintro _ w5 ⟨u5, ls, rfl, hO5, hR5, hM5, hb5⟩
                have HBk := Lib.hid (CutOut.rd hO5 (hR5 _ (HRd.out.below HB3i.out)) hb5)
                have HB5 : Hid (Below w.heap.size w w5) := Lib.hid (HB3.out.trans (hb5.mono HB3.out.size))
                have HM5 : Hid (ls.map (fun p => p.2.map (·.2)) = chunks (szF dn) dn.flatten) := Lib.hid (by
                  rw [← HQ.out, ← chunks_map (·.2) (szF dn) hsz1 Q.length Q (Nat.le_refl _), ← hM5, List.map_map]; rfl)
                obtain ⟨A5, c5, rfl, x1, x2, x3⟩ := Rd.open_ (Rd.of_own hO5)
                have hSA : SegAt (w5.alloc (.cells #[.string (strB tb), .slice A5 ls.length c5] 77)) w5.heap.size tb (chunks (szF dn) dn.flatten) := ⟨_, ls, heap_alloc_new _ _, HBk.out.below (Below.of_alloc _), HM5.out⟩
                have HSA := Lib.hid hSA
                have HBF : Hid (Below w.heap.size w (w5.alloc (.cells #[.string (strB tb), .slice A5 ls.length c5] 77))) := Lib.hid (HB5.out.trans ((Below.of_alloc _).mono HB5.out.size))
                clear hO5 hR5 hM5 hb5 x2 x3 hSA KC
                go_wp2_with fail
                go_ret2
                rw [HF.out]
                exact ⟨HBF.out, .inr ⟨rfl, _, rfl, HSA.out⟩⟩
        case pos =>
          have hni : (i' : Int) < (N : Int) := by omega
          have hstep : opnL l (N - i') k = if (nextF l k).2.2 ≠ 0 then ([], 0, (nextF l k).2.2) else if (decVersions (nextF l k).1).2 ≠ 0 then ([], 0, (decVersions (nextF l k).1).2) else ((decVersions (nextF l k).1).1 :: (opnL l (N - (i' + 1)) (nextF l k).2.1).1, (opnL l (N - (i' + 1)) (nextF l k).2.1).2) := by
            rw [show N - i' = (N - (i' + 1)) + 1 by omega]; rfl
          have KN := next_any _ l k wi (RdB.below HV.out HB.out)
          rcases hT : nextF l k with ⟨bd, k2, e2⟩
          rw [hT] at hstep KN
          simp only at hstep
          have HNX2 := Lib.hid hT
          have HST := Lib.hid hstep
          clear hstep hT
          go_wp2_with fail
          (with_reducible refine KN.mono ?_)
          rintro _ w3 ⟨vd, rfl, hO3, hb3⟩
          simp only at hO3 ⊢
          have HO3 := Lib.hid hO3
          have HB3i := Lib.hid hb3
          have HB3 : Hid (Below w.heap.size w w3) := Lib.hid (HB.out.trans (hb3.mono hsi))
          clear hO3 hb3 KN
          by_cases he2 : e2 = 0
          case neg =>
            have HF : Hid (res = (([], []), e2)) := Lib.hid (by
              have h0 : rl.2 = (0, e2) := by
                have hs := HST.out
                rw [if_pos he2] at hs
                rcases HG.out with h | ⟨h1, h2⟩
                · rw [← h, hs]
                · rw [← h2, hs]
              rw [HR2.out, h0]; exact if_pos he2)
            go_wp2_with fail
            go_ret2
            exact OpnOut.no HF.out he2 rfl HB3.out
          case pos =>
            have hnx := nextF_gt (he2 ▸ HNX2.out)
            have KD := decodeVersions_any vd bd w3 HO3.out.rd
            have hdl2 := decVersions_len bd
            rcases hD : decVersions bd with ⟨vs, e3⟩
            rw [hD] at KD hdl2
            simp only at hdl2
            have hst2 : opnL l (N - i') k = if e3 ≠ 0 then ([], 0, e3) else (vs :: (opnL l (N - (i' + 1)) k2).1, (opnL l (N - (i' + 1)) k2).2) := by
              rw [HST.out, if_neg (by simpa using he2), hD]
            have HST2 := Lib.hid hst2
            have HNXB := Lib.hid hnx
            subst he2
            clear hst2 hD hnx HST
            go_wp2_with fail
            (with_reducible refine KD.mono ?_)
            rintro _ w4 ⟨u4, Q4, rfl, hQ4, hM4, hb4⟩
            simp only at hM4 ⊢
            have HB4i := Lib.hid hb4
            have HB4 : Hid (Below w.heap.size w w4) := Lib.hid (HB3.out.trans (hb4.mono HB3.out.size))
            have HQ4 := Lib.hid hQ4
            have HM4 := Lib.hid hM4
            have hq4 : Q4.length = vs.length := by rw [← hM4, List.length_map]
            have HQ4L := Lib.hid hq4
            clear hb4 hM4 KD
            by_cases he3 : e3 = 0
            case neg =>
              have HF : Hid (res = (([], []), e3)) := Lib.hid (by
                have h0 : rl.2 = (0, e3) := by
                  have hs := HST2.out
                  rw [if_pos he3] at hs
                  rcases HG.out with h | ⟨h1, h2⟩
                  · rw [← h, hs]
                  · rw [← h2, hs]
                rw [HR2.out, h0]; exact if_pos he3)
              clear hq4 hQ4
              go_wp2_with fail
              go_ret2
              exact OpnOut.no HF.out he3 rfl HB4.out
            case pos =>
              obtain ⟨A4, c4, rfl, x1, x2, x3⟩ := hQ4.1.open_
              unfold maxLen at x2
              have hs4 : wi.heap.size ≤ w4.heap.size := by have := HB3i.out.size; have := HB4i.out.size; omega
              have hws4 : w.heap.size ≤ w4.heap.size := by omega
              have hq4l : Q4.length ≤ 1048576 := by have := HNXB.out; omega
              have HOA : Hid (OwnP w4 w.heap.size (.slice Ao Q.length co) Q) := Lib.hid (own_below (own_below HO.out HB3i.out) HB4i.out)
              have HOL : Hid (∀ b, some b = (Value.slice Ao Q.length co).ownBlock → w.heap.size ≤ b ∧ b < wi.heap.size) := Lib.hid (fun b hb => by
                obtain ⟨g1, cur, g2⟩ := own_block HO.out hb
                exact ⟨g1, (Array.getElem?_eq_some_iff.1 g2).1⟩)
              have HDN : Hid (dn.length = i') := Lib.hid hdl
              obtain ⟨zz, hzz, hz1, hz2, hz3⟩ : ∃ zz : Nat, szF (dn ++ [vs]) = zz ∧ zz ≤ 1048576 ∧ ((i' : Int) = 0 → max (1 : Int) (Q4.length : Int) = (zz : Int)) ∧ (¬ (i' : Int) = 0 → zz = szF dn) := by
                have hd := hdl
                cases dn with
                | nil =>
                  simp only [List.length_nil] at hd
                  refine ⟨max 1 vs.length, rfl, by rw [← hq4]; omega, fun _ => by rw [← hq4]; omega, fun h => absurd (by omega) h⟩
                | cons a r =>
                  simp only [List.length_cons] at hd
                  exact ⟨szF (a :: r), rfl, hsz, fun h => by omega, fun _ => rfl⟩
              have HZZ := Lib.hid hzz
              have HZL := Lib.hid hz1
              have HNI : Hid (i' < N) := Lib.hid hlt
              have hi0 : (i' : Int) = 0 ∨ ¬ (i' : Int) = 0 := by omega
              subst he3
              clear x3 hQ4 hq4
              clear hzz hz1
              rcases hi0 with hi0 | hi0
              case' inl => have hz5 := hz2 hi0
              case' inr => have hz5 := hz3 hi0
              all_goals
                have HZ5 := Lib.hid hz5
                clear hz2 hz3
                go_wp2_with (at_builtin; refine wpList_append_app w4 rfl (.tmp 62) (.tmp 63) 22 rfl w.heap.size 61 i0 _ 9 88 Tryz.underlying22 HI.out HZ0.out HZ1.out HZ2.out rfl (by omega) (.slice Ao Q.length co) Q.length (cellsP Q) rfl (.inl HOA.out) (fun b => w3.heap.size ≤ b ∧ b < w4.heap.size) _ Q4.length (cellsP Q4) rfl HQ4.out.1 (cellsP_one Q4) (by unfold maxLen; omega) (by omega) (by omega) ?_; intro v5 w5 hA5 hO5 hg5 hb5 hv5)
                all_goals skip
                have hO5' : OwnP w5 w.heap.size v5 (Q ++ Q4) := by
                  have h := hO5 (.inr HOA.out)
                  unfold OwnP
                  rw [List.length_append, cellsP_append]
                  exact h
                have hbk : ∀ b, b < w4.heap.size → some b ≠ (Value.slice Ao Q.length co).ownBlock → w5.heap[b]? = w4.heap[b]? := fun b hb hne => hg5.block b hb hne
                have hs5 : w4.heap.size ≤ w5.heap.size := hg5.size
                have hR5 : ∀ p ∈ Q ++ Q4, VerIs w5 (fun b => b < w5.heap.size ∧ some b ≠ Value.ownBlock v5) p.1 p.2 := fun p hp => by
                  rcases List.mem_append.1 hp with hp | hp
                  · refine ((HR.out p hp).keep (w' := w5) (fun b hb => ?_)).wide (fun b hb => ?_)
                    · exact (hbk b (by omega) hb.2).trans ((HB4i.out.block b (by have := HB3i.out.size; omega)).trans (HB3i.out.block b hb.1))
                    · refine ⟨by omega, ?_⟩
                      rcases hv5 with hv5 | hv5
                      · rw [hv5]; exact hb.2
                      · rw [hv5]; simp; omega
                  · refine ((HQ4.out.2 p hp).keep (w' := w5) (fun b hb => ?_)).wide (fun b hb => ?_)
                    · exact hbk b hb.2 (fun e => by have := (HOL.out b e).2; have := HB3i.out.size; omega)
                    · refine ⟨by omega, ?_⟩
                      rcases hv5 with hv5 | hv5
                      · rw [hv5]; exact fun e => by have := (HOL.out b e).2; have := HB3i.out.size; omega
                      · rw [hv5]; simp; omega
                have HB5 : Hid (Below w.heap.size w w5) := Lib.hid (HB4.out.trans hb5)
                have HO6 := Lib.hid hO5'
                have HR6 := Lib.hid hR5
                have HQ6 : Hid ((Q ++ Q4).map (·.2) = (dn ++ [vs]).flatten) := Lib.hid (by rw [List.map_append, HQ.out, HM4.out]; simp)
                have HG6 : Hid (((dn ++ [vs]) ++ (opnL l (N - (i' + 1)) k2).1, (opnL l (N - (i' + 1)) k2).2) = rl ∨ rl.2.2 ≠ 0 ∧ (opnL l (N - (i' + 1)) k2).2 = rl.2) := Lib.hid (by
                  have hs := HST2.out
                  rw [if_neg (by simp)] at hs
                  rcases HG.out with h | ⟨h1, h2⟩
                  · left; rw [← h, hs]; simp
                  · right; rw [hs] at h2; exact ⟨h1, h2⟩)
                have HQL : Hid (((Q ++ Q4).length : Int) ≤ k2) := Lib.hid (by have h1 := HNXB.out.2.1; have h2 := HQ4L.out; rw [List.length_append]; omega)
                have HKL : Hid (k2 ≤ l.length) := Lib.hid HNXB.out.2.2
                clear hA5 hO5 hO5' hg5 hb5 hv5 hbk hR5
                go_wp2_with fail
                go_roundw
                case rel => exact ⟨i' + 1, k2, Q ++ Q4, dn ++ [vs], by go_num, rfl, by first | (rw [HZZ.out]; done) | (rw [HZZ.out, HZ5.out]), by have := HNI.out; omega, by have := HNXB.out; omega, by rw [List.length_append, HDN.out]; rfl, HQL.out, HKL.out, by rw [HZZ.out]; exact HZL.out, HO6, HR6, HQ6, HG6, HB5⟩
                case measure => have := HNI.out; simp [intOf]; omega
end Go.Proofs.YtacjiocffbgkkaaGreat
