/-
  The walk of WalDurable.
-/
import Derived.Test.YtooojgokkigncaaWal
namespace Go.Proofs.Ytooojgokkigncaa
open Go.RowKit Go.Lib Go.IntWalk

def nm3 : List UInt8 := [108, 111, 103]
theorem nm3V : Value.string ⟨#[108, 111, 103]⟩ = .string (strB nm3) := rfl
theorem nm3_word : wordF nm3 = true := by decide
def lsum (ls : List (List UInt8)) : Nat := (ls.map List.length).sum
theorem lsum_append (a b : List (List UInt8)) : lsum (a ++ b) = lsum a + lsum b := by simp [lsum]
theorem lsum_take {ls : List (List UInt8)} {k : Nat} {r : List UInt8} (h : ls[k]? = some r) : lsum (ls.take (k + 1)) = lsum (ls.take k) + r.length := by
  obtain ⟨hk, e⟩ := List.getElem?_eq_some_iff.1 h
  rw [List.take_succ_eq_append_getElem hk, lsum_append, e]
  simp [lsum]
theorem lsum_take_le (ls : List (List UInt8)) (k : Nat) : lsum (ls.take k) ≤ lsum ls := by
  conv => rhs; rw [← List.take_append_drop k ls]
  rw [lsum_append]; omega
theorem fsum_lsum (ls : List (List UInt8)) : fsum ls = lsum ls + 8 * ls.length := by
  induction ls with
  | nil => rfl
  | cons r rs ih => rw [fsum_cons, ih]; simp [lsum]; omega
theorem len_le_lsum {ls : List (List UInt8)} {r : List UInt8} (h : r ∈ ls) : r.length ≤ lsum ls := by
  induction ls with
  | nil => cases h
  | cons x rs ih =>
    simp only [lsum, List.map_cons, List.sum_cons] at *
    rcases List.mem_cons.1 h with rfl | h
    · omega
    · have := ih h; omega
theorem frs_append (a b : List (List UInt8)) : frs (a ++ b) = frs a ++ frs b := by simp [frs]
theorem drop_snoc {α : Type} (ls : List α) (j s : Nat) (hs : s ≤ j) (hj : j < ls.length) : (ls.take j).drop s ++ [ls[j]] = (ls.take (j + 1)).drop s := by
  rw [List.take_succ_eq_append_getElem hj, List.drop_append_of_le_length (by rw [List.length_take]; omega)]
theorem crash_keep (nm : List UInt8) (fm : FM) (rs : List (List UInt8)) (keep : Int) : (viewF fm (crashOps (aps nm rs) keep 0) nm).getD [] = (fm nm).getD [] ++ frs (rs.take keep.toNat) := by
  have h : crashOps (aps nm rs) keep 0 = aps nm (rs.take keep.toNat) := by
    have ht : (aps nm rs).take keep.toNat = aps nm (rs.take keep.toNat) := by simp [aps, List.map_take]
    cases ho : (aps nm rs)[keep.toNat]? with
    | none => rw [crash_none rfl ho, ht]
    | some o => rw [crash_some rfl ho, ht]; simp [tornOp]
  rw [h, view_aps]

/-- a list of slices of bytes that the input has -/
def InL (B : Nat) (w : World) (v : Value) (ls : List (List UInt8)) : Prop :=
  ∃ vs : List Value, Rd w (· < B) 1 v ls.length vs ∧ ∀ (i : Nat) (u : Value) (l : List UInt8), vs[i]? = some u → ls[i]? = some l → RdB w (· < B) u l
theorem InL.dat {B : Nat} {w w' : World} {v : Value} {ls : List (List UInt8)} (h : InL B w v ls) (hb : Below B w w') : DatL B w' v ls := by
  obtain ⟨vs, h, hv⟩ := h
  exact ⟨vs, Rd.wide (Rd.keep h (fun b hb' => hb.block b hb')) (fun b hb => .inl hb), fun i u l hu hl => Rd.wide (Rd.keep (hv i u l hu hl) (fun b hb' => hb.block b hb')) (fun b hb => .inl hb)⟩
theorem DatL.take {B : Nat} {w : World} {A : Option Addr} {c : Nat} {ls : List (List UInt8)} (h : DatL B w (.slice A ls.length c) ls) (m : Nat) (hm : m ≤ ls.length) : DatL B w (.slice A m c) (ls.take m) := by
  obtain ⟨vs, hr, hv⟩ := h
  have hl : (ls.take m).length = m := by rw [List.length_take]; omega
  refine ⟨vs.take m, ?_, fun i u l hu hl => ?_⟩
  · rw [hl]
    have := Rd.pre hr hm
    rwa [Nat.mul_one] at this
  · rw [List.getElem?_take] at hu hl
    split at hu
    · rename_i hi
      rw [if_pos hi] at hl
      exact hv i u l hu hl
    · cases hu
theorem DatL.drop {B : Nat} {w : World} {A : Option Addr} {c : Nat} {ls : List (List UInt8)} (h : DatL B w (.slice A ls.length c) ls) (m : Nat) (hm : m ≤ ls.length) : DatL B w (.slice (cutA A c m 1) (ls.length - m) (c - m)) (ls.drop m) := by
  obtain ⟨_, _, hsl, hc, _⟩ := DatL.open_ h
  simp only [Value.slice.injEq] at hsl
  obtain ⟨rfl, _, rfl⟩ := hsl
  obtain ⟨vs, hr, hv⟩ := h
  have hvl : vs.length = ls.length := by rw [hr.1, Nat.mul_one]
  refine ⟨vs.drop m, ?_, fun i u l hu hl => ?_⟩
  · have := Rd.cut' hr hm (Nat.le_refl _) hc (Nat.le_refl _)
    rw [List.length_drop]
    rwa [Nat.mul_one, Nat.mul_one, List.take_of_length_le (by rw [List.length_drop]; omega)] at this
  · rw [List.getElem?_drop] at hu hl
    exact hv _ u l hu hl

/-- behind j records, of which the first s are permanent -/
def DurRel (B Z D L s : Nat) (fm : FM) (ls : List (List UInt8)) (j : Nat) (r0 b0 : Nat) (w0 w : World) : Prop :=
  ∃ P, DiskAt B (Z + fsum (ls.take j) + j) w D P fm (aps nm3 ((ls.take j).drop s)) ∧ LogIs w L ((r0 : Int) + j) ((b0 : Int) + fsum (ls.take j)) D nm3 ∧ Below B w0 w ∧ B ≤ w.heap.size
theorem DurRel.step {B Z D L s : Nat} {fm : FM} {ls : List (List UInt8)} {j r0 b0 : Nat} {w0 w w' : World} {P P' : Option Nat} (hj : j < ls.length) (hs : s ≤ j)
    (hD : DiskAt B (Z + fsum (ls.take j) + j) w D P fm (aps nm3 ((ls.take j).drop s))) (_hL : LogIs w L ((r0 : Int) + j) ((b0 : Int) + fsum (ls.take j)) D nm3) (hB : B ≤ w.heap.size) (hBL : B ≤ L) (hb : Below B w0 w)
    (hD' : DiskAt B (Z + fsum (ls.take j) + j + ls[j].length + 9) w' D P' fm (aps nm3 ((ls.take j).drop s) ++ [⟨0, nm3, [], frm ls[j]⟩])) (hL' : LogIs w' L ((r0 : Int) + j + 1) ((b0 : Int) + fsum (ls.take j) + ls[j].length + 8) D nm3)
    (hC : Chg (fun b => b = D ∨ b = L ∨ some b = P) w w') : DurRel B Z D L s fm ls (j + 1) r0 b0 w0 w' := by
  have ef := fsum_take (List.getElem?_eq_getElem hj)
  refine ⟨P', ?_, ?_, hb.trans (hC.below hB (fun i hi => ?_)), by have := hC.size; omega⟩
  · rw [aps_snoc, drop_snoc ls j s hs hj] at hD'
    rw [ef]
    exact hD'.mono (by omega)
  · rw [ef]
    have e1 : (r0 : Int) + ((j + 1 : Nat) : Int) = (r0 : Int) + j + 1 := by omega
    have e2 : (b0 : Int) + ((fsum (ls.take j) + ls[j].length + 8 : Nat) : Int) = (b0 : Int) + fsum (ls.take j) + ls[j].length + 8 := by omega
    rw [e1, e2]
    exact hL'
  · rcases hi with h | h | h
    · exact hD.ge (.inl h)
    · omega
    · exact hD.ge (.inr h)

set_option maxRecDepth 100000 in
set_option maxHeartbeats 8000000 in
theorem lawDurable_any (v : Value) (ls : List (List UInt8)) (synced keep torn : Int) (w : World) (hv : InL w.heap.size w v ls) (hn1 : lsum ls ≤ 1099511627776) (hn2 : ls.length ≤ 1099511627776) :
    Calls Try.prog 3 #[v, .int .i64 synced, .int .i64 keep, .int .i64 torn] w fun e w' => e = .returned (.bool true) ∧ Below w.heap.size w w' := by
  have hB0 : w.heap.size ≤ w.heap.size := Nat.le_refl _
  generalize hBe : w.heap.size = B at hB0 hv
  have HBE := Lib.hid hBe
  clear hBe
  have hd0 := hv.dat (Below.refl B w)
  obtain ⟨A, c, rfl, c1, c2, c3⟩ := hd0.open_
  have HC3 := Lib.hid c3
  have HC2 := Lib.hid c2
  unfold maxLen at c2
  clear c3
  obtain ⟨i0, hi, hz0, hz1, hz2⟩ := info_parts infoL
  have HI := Lib.hid hi
  have HZ1 := Lib.hid hz1
  clear hi hz0 hz1 hz2
  go_enter Try.func3, Try.ntmps3
  go_wp2_with fail
  go_loopw [9, 27] (fun n i wr => ∃ k : Nat, k ≤ ls.length ∧ i = .int .i64 (k : Int) ∧ n = .int .i64 (lsum (ls.take k) : Int) ∧ w = wr) (fun _ i _ => ls.length - (intOf i).toNat)
  case atStart => exact ⟨0, Nat.zero_le _, rfl, rfl, rfl⟩
  case round =>
    obtain ⟨k, hk, rfl, rfl, rfl⟩ := hrel
    by_cases hlt : k < ls.length
    · obtain ⟨bb, ob, ub, rfl, gb, db⟩ := DatL.elem hd0 (List.getElem?_eq_getElem hlt)
      have HFT := Lib.hid (lsum_take (List.getElem?_eq_getElem hlt))
      have hle := lsum_take_le ls (k + 1)
      rw [HFT.out] at hle
      obtain ⟨Xb, xb, rfl, _, _, _⟩ := Rd.open_ db
      generalize ls[k] = r at *
      go_wp2_with fail
      go_roundw
      case rel =>
        refine ⟨k + 1, by omega, by go_num, ?_, by first | trivial | rfl⟩
        rw [HFT.out]
        go_num
      case measure => simp [intOf]; omega
    have hke : k = ls.length := by omega
    have HK : Hid (lsum (ls.take k) = lsum ls) := Lib.hid (by rw [hke, List.take_length])
    rw [HK.out]
    generalize hN : lsum ls = N at *
    have HN := Lib.hid hN
    have HKE := Lib.hid hke
    clear hke hN HK
    go_wp2_with fail
    (with_reducible refine (dnew_any B w (by have := HBE.out; omega)).mono ?_)
    rintro e w1 ⟨D, rfl, hDl, hD1, hb1⟩
    have hB1 : B ≤ w1.heap.size := by have := hb1.size; have := HBE.out; omega
    go_wp2_with fail
    rw [nm3V]
    (with_reducible refine (wopen_ok B 0 D none (fun _ => none) [] nm3 w1 hB1 hD1 nm3_word (by omega)).mono ?_)
    rintro e w2 ⟨L, v2, P2, rfl, hL2, hLog2, hR2, hD2, hP2, hC2⟩
    have ho := @open_same (fun _ => none) [] nm3 [] (by simp [viewF, frs]) (by simp)
    rw [ho.1] at hD2
    rw [ho.2] at hLog2 hR2
    clear ho
    have hB2 : B ≤ w2.heap.size := by have := hC2.size; omega
    have hBL : B ≤ L := by omega
    obtain ⟨A2, c2', rfl⟩ := hR2.len0
    simp only [List.length_nil, fsum, List.map_nil, List.sum_nil] at hLog2
    have hW1 : Below B w w1 := HBE.out ▸ hb1
    have hW2 : Below B w w2 := hW1.trans (hC2.below hB1 (fun i hi => hD1.ge hi))
    clear hC2 hb1 hP2 hR2 hD1
    by_cases hbig : 2000 < N ∨ 60 < ls.length
    · have hfin : ∀ w', Below w2.heap.size w2 w' → Below B w w' := fun w' h => hW2.trans (h.mono hB2)
      by_cases hb1 : 2000 < N
      · have q1 : (2000 : Int) < (N : Int) := by omega
        go_wp2_with fail
        (with_reducible refine (wworks_any w2).mono ?_)
        rintro e w3 ⟨rfl, hb3⟩
        go_wp2_with fail
        go_ret
        exact ⟨rfl, hfin _ hb3⟩
      · have q1 : ¬ (2000 : Int) < (N : Int) := by omega
        have q2 : (60 : Int) < (ls.length : Int) := by omega
        go_wp2_with fail
        (with_reducible refine (wworks_any w2).mono ?_)
        rintro e w3 ⟨rfl, hb3⟩
        go_wp2_with fail
        go_ret
        exact ⟨rfl, hfin _ hb3⟩
    have hN1 : N ≤ 2000 := by omega
    have hN2 : ls.length ≤ 60 := by omega
    have q1 : ¬ (2000 : Int) < (N : Int) := by omega
    have q2 : ¬ (60 : Int) < (ls.length : Int) := by omega
    clear hbig
    have hfs : fsum ls ≤ 2480 := by rw [fsum_lsum, HN.out]; omega
    have hrl : ∀ r ∈ ls, r.length ≤ 2000 := fun r hr => by have := len_le_lsum hr; have := HN.out; omega
    have HRL := Lib.hid hrl
    clear hrl
    obtain ⟨s, hs⟩ : ∃ s : Nat, s = min synced.toNat ls.length := ⟨_, rfl⟩
    have hsn : s ≤ ls.length := by omega
    obtain ⟨m1, hm1⟩ : ∃ m1 : Int, (if (ls.length : Int) < synced then (ls.length : Int) else synced) = m1 := ⟨_, rfl⟩
    have hm2 : (if 0 < m1 then m1 else 0) = (s : Int) := by split at hm1 <;> split <;> omega
    have hm3 : (if m1 > 0 then m1 else 0) = (s : Int) := hm2
    have HS := Lib.hid hs
    clear hs
    go_wp2_with fail
    have hD2 : DiskAt B 3 w2 D P2 (fun _ => none) (aps nm3 []) := hD2
    clear hm2 hm3 hm1
    go_loopw [70] (fun i wr => ∃ j : Nat, j ≤ ls.length ∧ i = .int .i64 (j : Int) ∧ ∃ fm, (fm nm3).getD [] = frs (ls.take (if j ≤ s then 0 else s)) ∧ DurRel B 3 D L (if j ≤ s then 0 else s) fm ls j 0 0 w wr) (fun i _ => ls.length - (intOf i).toNat)
    case atStart => exact ⟨0, Nat.zero_le _, rfl, _, rfl, P2, by simpa [fsum] using hD2, by simpa [fsum] using hLog2, hW2, hB2⟩
    case round =>
      obtain ⟨j, hj, rfl, fm, hfm, P3, hD3, hLog3, hW3, hB3⟩ := hrel
      have hd3 := hv.dat hW3
      have hfj := fsum_take_le ls j
      by_cases hlt : j < ls.length
      · obtain ⟨bb, ob, ub, rfl, gb, db⟩ := DatL.elem hd3 (List.getElem?_eq_getElem hlt)
        have hrj := HRL.out _ (List.getElem_mem hlt)
        have HST := fun (fm : FM) (s' : Nat) (hs' : s' ≤ j) (P P' : Option Nat) (wa wb : World) => @DurRel.step B 3 D L s' fm ls j 0 0 w wa wb P P' hlt hs'
        have HSTH := Lib.hid HST
        clear HST
        obtain ⟨Xb, xb, rfl, _, _, _⟩ := Rd.open_ db
        generalize ls[j] = r at *
        by_cases hjs : j = s
        · have HJS := Lib.hid hjs
          have q3 : ((j : Int) == (s : Int)) = true := by simp [hjs]
          rw [if_pos (by omega)] at hfm hD3
          rw [List.drop_zero] at hD3
          clear hjs
          go_wp2_with fail
          (with_reducible refine (wsync_any B _ D L P3 fm _ nm3 _ _ wr hB3 hD3 hLog3 (by omega)).mono ?_)
          rintro e w4 ⟨u4, rfl, hD4, hC4⟩
          have hLD : ¬ L = D := fun h => hD3.not_log hLog3 (by decide) (by decide) (.inl h)
          have hLog4 := hLog3.chg hC4 hLD
          have hW4 : Below B w w4 := hW3.trans (hC4.below hB3 (fun i hi => hD3.ge (.inl hi)))
          have hB4 : B ≤ w4.heap.size := by have := hC4.size; omega
          have hdb4 : DatB B w4 (.slice Xb r.length xb) r := db.chg hB3 (hC4.mono (fun i hi => .inl hi)) hD3.br
          have HV : Hid ((viewF fm (aps nm3 (ls.take j)) nm3).getD [] = frs (ls.take j)) := Lib.hid (by rw [view_aps, hfm]; simp [frs])
          have hD4 : DiskAt B (3 + fsum (ls.take j) + j) w4 D none (viewF fm (aps nm3 (ls.take j))) (aps nm3 ((ls.take j).drop j)) := by
            rw [List.drop_eq_nil_of_le (by rw [List.length_take]; omega)]; exact hD4
          generalize viewF fm (aps nm3 (ls.take j)) = fm4 at *
          clear hD3 hLog3 hC4
          go_wp2_with fail
          (with_reducible refine (wappend_ok B _ D L none fm4 _ nm3 _ _ _ r w4 hB4 hD4 hLog4 hBL nm3_word (hdb4.rd hB4) (by omega) (by omega) (by omega) (by omega) (by omega) (by omega)).mono ?_)
          rintro e w5 ⟨rfl, P5, hD5, hP5, hLog5, hC5⟩
          have hst := HSTH.out fm4 j (Nat.le_refl _) none P5 w4 w5 hD4 hLog4 hB4 hBL hW4 hD5 hLog5 hC5
          clear hD4 hLog4 hD5 hLog5 hC5
          go_wp2_with fail
          go_roundw
          case rel =>
            refine ⟨j + 1, by omega, by go_num, fm4, ?_, ?_⟩
            · rw [if_neg (by have := HJS.out; omega), ← HJS.out]; exact HV.out
            · rw [if_neg (by have := HJS.out; omega), ← HJS.out]; exact hst
          case measure => simp [intOf]; omega
        · have q3 : ((j : Int) == (s : Int)) = false := by simp; omega
          have HJS : Hid ((if j + 1 ≤ s then 0 else s) = (if j ≤ s then 0 else s)) := Lib.hid (by split <;> split <;> omega)
          have hsj : (if j ≤ s then 0 else s) ≤ j := by split <;> omega
          generalize (if j ≤ s then 0 else s) = s' at *
          clear hjs
          have hdb := db.rd hB3
          go_wp2_with fail
          (with_reducible refine (wappend_ok B _ D L P3 fm _ nm3 _ _ _ r wr hB3 hD3 hLog3 hBL nm3_word hdb (by omega) (by omega) (by omega) (by omega) (by omega) (by omega)).mono ?_)
          rintro e w5 ⟨rfl, P5, hD5, hP5, hLog5, hC5⟩
          have hst := HSTH.out fm s' hsj P3 P5 wr w5 hD3 hLog3 hB3 hBL hW3 hD5 hLog5 hC5
          clear hD3 hLog3 hD5 hLog5 hC5
          go_wp2_with fail
          go_roundw
          case rel =>
            refine ⟨j + 1, by omega, by go_num, fm, ?_, ?_⟩
            · rw [HJS.out]; exact hfm
            · rw [HJS.out]; exact hst
          case measure => simp [intOf]; omega
      have hje : j = ls.length := by omega
      subst hje
      rw [List.take_length] at hD3 hLog3
      obtain ⟨r, hr⟩ : ∃ r : Nat, ls.length = s + r := ⟨ls.length - s, by omega⟩
      by_cases hse : s = ls.length
      · have q3 : ((s : Int) == (ls.length : Int)) = true := by simp [hse]
        have HSE := Lib.hid hse
        rw [if_pos (by omega)] at hfm hD3
        rw [List.drop_zero] at hD3
        clear hse
        go_wp2_with fail
        (with_reducible refine (wsync_any B _ D L P3 fm _ nm3 _ _ wr hB3 hD3 hLog3 (by omega)).mono ?_)
        rintro e w4 ⟨u4, rfl, hD4, hC4⟩
        have hW4 : Below B w w4 := hW3.trans (hC4.below hB3 (fun i hi => hD3.ge (.inl hi)))
        have hB4 : B ≤ w4.heap.size := by have := hC4.size; omega
        have HV : Hid ((viewF fm (aps nm3 ls) nm3).getD [] = frs (ls.take s)) := Lib.hid (by rw [view_aps, hfm, HSE.out, List.take_length]; simp [frs])
        have hD4 : DiskAt B (3 + fsum ls + ls.length) w4 D none (viewF fm (aps nm3 ls)) (aps nm3 (ls.drop s)) := by
          rw [List.drop_eq_nil_of_le (by have := HSE.out; omega)]; exact hD4
        generalize viewF fm (aps nm3 ls) = fm4 at *
        obtain ⟨P4, hD4⟩ : ∃ P4, DiskAt B (3 + fsum ls + ls.length) w4 D P4 fm4 (aps nm3 (ls.drop s)) := ⟨none, hD4⟩
        clear hD3 hLog3 hC4 q3
        have hpd : ((aps nm3 (ls.drop s)).length : Int) = (r : Int) := by rw [aps_len, List.length_drop]; omega
        have hwr : IntKind.i64.wrap ((ls.length : Int) - (s : Int)) = (r : Int) := by rw [IntWalk.i64_in _ (by omega)]; omega
        obtain ⟨q, hq⟩ : ∃ q : Nat, q = min keep.toNat r := ⟨_, rfl⟩
        obtain ⟨m1, hm1⟩ : ∃ m1 : Int, (if (r : Int) < keep then (r : Int) else keep) = m1 := ⟨_, rfl⟩
        have hm2 : (if 0 < m1 then m1 else 0) = (q : Int) := by split at hm1 <;> split <;> omega
        have hm3 : (if m1 > 0 then m1 else 0) = (q : Int) := hm2
        obtain ⟨mo, hmo⟩ : ∃ mo : Nat, mo = s + q := ⟨_, rfl⟩
        have hwm : IntKind.i64.wrap ((s : Int) + (q : Int)) = (mo : Int) := by rw [IntWalk.i64_in _ (by omega)]; omega
        have hmn : mo ≤ ls.length := by omega
        have HCK : Hid ((viewF fm4 (crashOps (aps nm3 (ls.drop s)) keep 0) nm3).getD [] = frs (ls.take mo)) := Lib.hid (by
          rw [crash_keep, HV.out, ← frs_append, hmo]
          congr 1
          rw [List.take_add]
          congr 1
          rw [hq]
          by_cases h : keep.toNat ≤ r
          · rw [Nat.min_eq_left h]
          · rw [List.take_of_length_le (by rw [List.length_drop]; omega), List.take_of_length_le (by rw [List.length_drop]; omega)])
        have HMO := Lib.hid hmo
        have HQ := Lib.hid hq
        have HRR := Lib.hid hr
        have HV4 := HV
        clear hmo hq HV hr
        have hZ4 : 3 + fsum ls + ls.length ≤ 3000 := by omega
        generalize 3 + fsum ls + ls.length = Z4 at *
        go_wp2_with fail
        (with_reducible refine (dpending_any B _ D P4 fm4 _ w4 hD4).mono ?_)
        rintro e w4' ⟨he, rfl⟩
        rw [hpd] at he
        subst he
        go_wp2_with fail
        (with_reducible refine (dcrash_any B Z4 D P4 fm4 _ keep 0 w4 hB4 hD4 (by omega)).mono ?_)
        rintro e w5 ⟨u5, rfl, hD5, hC5⟩
        have hW5 : Below B w w5 := hW4.trans (hC5.below hB4 (fun i hi => hD4.ge (.inl hi)))
        have hB5 : B ≤ w5.heap.size := by have := hC5.size; omega
        generalize viewF fm4 (crashOps (aps nm3 (ls.drop s)) keep 0) = fm5 at *
        clear hC5 hD4 hm1 hm2 hm3 hpd hwr hwm
        have hrt : ∀ x ∈ ls.take mo, x.length ≤ 1048576 := fun x hx => by have := HRL.out x (List.mem_of_mem_take hx); omega
        have HRT := Lib.hid hrt
        clear hrt
        go_wp2_with fail
        rw [nm3V]
        (with_reducible refine (wopen_ok B Z4 D none fm5 [] nm3 w5 hB5 hD5 nm3_word (by omega)).mono ?_)
        rintro e w6 ⟨M, v6, P6, rfl, hL6, hLog6, hR6, hD6, hP6, hC6⟩
        have ho := @open_same fm5 [] nm3 (ls.take mo) HCK.out HRT.out
        rw [ho.1] at hD6
        rw [ho.2] at hLog6 hR6
        clear ho
        have hB6 : B ≤ w6.heap.size := by have := hC6.size; omega
        have hBM : B ≤ M := by omega
        have htl : (ls.take mo).length = mo := by rw [List.length_take]; omega
        rw [htl] at hLog6
        have hW6 : Below B w w6 := hW5.trans (hC6.below hB5 (fun i hi => hD5.ge hi))
        clear hC6 hD5
        obtain ⟨A6, c6, rfl, s1, s2, s3⟩ := hR6.open_
        rw [htl] at hR6 s1
        have HS3 := Lib.hid s3
        have HS2 := Lib.hid s2
        clear s3 s2
        have hd6 := (hv.dat hW6).take mo hmn
        have kh := run_slice_hi (P := Try.prog) Try.underlying22 HI.out A ls.length c mo (by omega)
        have hfb := fsum_take_le ls mo
        rw [htl]
        go_wp2_with fail
        (with_reducible refine (lists_any B _ _ (ls.take mo) (ls.take mo) w6 hB6 hR6 hd6).mono ?_)
        rintro e w7 ⟨he, hb7⟩
        rw [show decide (ls.take mo = ls.take mo) = true from by simp] at he
        subst he
        have hLog7 := hLog6.below hb7
        have hD7 := hD6.below hB6 hb7
        have hB7 : B ≤ w7.heap.size := by have := hb7.size; omega
        have hW7 : Below B w w7 := hW6.trans (hb7.mono hB6)
        clear hLog6 hD6 hR6 hd6 hb7 kh
        go_wp2_with fail
        (with_reducible refine (wlen_any M D nm3 _ _ w7 hLog7).mono ?_)
        rintro e w7' ⟨rfl, rfl⟩
        have kl := run_slice_lo (P := Try.prog) (size := 1) Try.underlying22 HI.out HZ1.out A ls.length c mo hmn
        have hdl : (ls.drop mo).length = ls.length - mo := List.length_drop ..
        have HDL := Lib.hid hdl
        have hfd : fsum (ls.drop mo) ≤ 2480 := by
          have := fsum_append (ls.take mo) (ls.drop mo)
          rw [List.take_append_drop] at this; omega
        have hrd : ∀ x ∈ ls.drop mo, x.length ≤ 2000 := fun x hx => HRL.out x (List.mem_of_mem_drop hx)
        have HRD := Lib.hid hrd
        obtain ⟨n2, hn2'⟩ : ∃ n2 : Nat, n2 = ls.length - mo := ⟨_, rfl⟩
        rw [← hn2'] at kl
        rw [← hn2'] at hdl
        have HD2 : Hid (∀ w', Below B w w' → DatL B w' (.slice (cutA A c mo 1) n2 (c - mo)) (ls.drop mo)) := Lib.hid (fun w' h => by rw [hn2']; exact (hv.dat h).drop mo hmn)
        have hn2b : n2 ≤ 60 := by omega
        clear hrd hn2'
        generalize ls.drop mo = rs at *
        generalize cutA A c mo 1 = A9 at *
        go_wp2_with fail
        clear kl
        have hD7 : DiskAt B (2 * Z4 + 3) w7 D P6 fm5 (aps nm3 []) := hD7
        go_loopw [136] (fun i wr => ∃ j : Nat, j ≤ n2 ∧ i = .int .i64 (j : Int) ∧ DurRel B (2 * Z4 + 3) D M 0 fm5 rs j mo (fsum (ls.take mo)) w wr) (fun i _ => n2 - (intOf i).toNat)
        case atStart => exact ⟨0, Nat.zero_le _, rfl, P6, by simpa [fsum] using hD7, by simpa [fsum] using hLog7, hW7, hB7⟩
        case round =>
          obtain ⟨j2, hj2, rfl, P8, hD8, hLog8, hW8, hB8⟩ := hrel
          have hd8 := HD2.out _ hW8
          have hfj8 := fsum_take_le rs j2
          by_cases hlt2 : j2 < n2
          · have hlt3 : j2 < rs.length := by omega
            have hd9 := hd8
            rw [← hdl] at hd9
            obtain ⟨bb, ob, ub, rfl, gb, db⟩ := DatL.elem hd9 (List.getElem?_eq_getElem hlt3)
            have hrj := HRD.out _ (List.getElem_mem hlt3)
            have HST := fun (P P' : Option Nat) (wa wb : World) => @DurRel.step B (2 * Z4 + 3) D M 0 fm5 rs j2 mo (fsum (ls.take mo)) w wa wb P P' hlt3 (Nat.zero_le _)
            have HSTH := Lib.hid HST
            clear HST
            obtain ⟨Xb, xb, rfl, _, _, _⟩ := Rd.open_ db
            generalize rs[j2] = r9 at *
            have hdb := db.rd hB8
            go_wp2_with fail
            (with_reducible refine (wappend_ok B _ D M P8 fm5 _ nm3 _ _ _ r9 _ hB8 hD8 hLog8 hBM nm3_word hdb (by omega) (by omega) (by omega) (by omega) (by omega) (by omega)).mono ?_)
            rintro e w9 ⟨rfl, P9, hD9, hP9, hLog9, hC9⟩
            have hst := HSTH.out P8 P9 _ w9 hD8 hLog8 hB8 hBM hW8 hD9 hLog9 hC9
            clear hD8 hLog8 hD9 hLog9 hC9
            go_wp2_with fail
            go_roundw
            case rel => exact ⟨j2 + 1, by omega, by go_num, hst⟩
            case measure => simp [intOf]; omega
          have hje2 : j2 = n2 := by omega
          have HJE := Lib.hid hje2
          clear hje2
          rw [List.drop_zero] at hD8
          obtain ⟨t1, ht1⟩ : ∃ t1 : Int, (if torn < 0 then 0 else torn) = t1 := ⟨_, rfl⟩
          obtain ⟨t2, ht2⟩ : ∃ t2 : Int, (if 7 < t1 then 7 else t1) = t2 := ⟨_, rfl⟩
          have ht3 : t2.toNat ≤ 7 := by split at ht1 <;> split at ht2 <;> omega
          generalize hZ8 : 2 * Z4 + 3 + fsum (rs.take j2) + j2 = Z8 at *
          have hZ9 : Z8 ≤ 1073741824 := by omega
          generalize rs.take j2 = rs2 at *
          clear hZ8 hfj8
          go_wp2_with fail
          (with_reducible refine (dcrash_any B Z8 D P8 fm5 (aps nm3 rs2) 0 t2 _ hB8 hD8 (by omega)).mono ?_)
          rintro e w9 ⟨u9, rfl, hD9, hC9⟩
          have hW9 : Below B w w9 := hW8.trans (hC9.below hB8 (fun i hi => hD8.ge (.inl hi)))
          have hB9 : B ≤ w9.heap.size := by have := hC9.size; omega
          obtain ⟨tail, ht4, ht5⟩ := @crash_first fm5 nm3 rs2 t2
          rw [HCK.out] at ht5
          generalize viewF fm5 (crashOps (aps nm3 rs2) 0 t2) = fm9 at *
          have hrc := open_torn ht5 HRT.out (by omega)
          have HRC := Lib.hid hrc
          clear hrc ht4 ht5 hC9 hD8 ht1 ht2 ht3
          go_wp2_with fail
          rw [nm3V]
          (with_reducible refine (wopen_ok B Z8 D none fm9 [] nm3 w9 hB9 hD9 nm3_word (by omega)).mono ?_)
          rintro e w10 ⟨M2, v10, P10, rfl, hL10, hLog10, hR10, hD10, hP10, hC10⟩
          rw [HRC.out] at hR10
          have hB10 : B ≤ w10.heap.size := by have := hC10.size; omega
          have hW10 : Below B w w10 := hW9.trans (hC10.below hB9 (fun i hi => hD9.ge hi))
          clear hC10 hD9 hLog10 hD10
          obtain ⟨A10, c10, rfl, _, _, _⟩ := hR10.open_
          rw [htl] at hR10
          have hd10 := (hv.dat hW10).take mo hmn
          have kh := run_slice_hi (P := Try.prog) Try.underlying22 HI.out A ls.length c mo (by omega)
          rw [htl]
          go_wp2_with fail
          (with_reducible refine (lists_any B _ _ (ls.take mo) (ls.take mo) w10 hB10 hR10 hd10).mono ?_)
          rintro e w11 ⟨he, hb11⟩
          rw [show decide (ls.take mo = ls.take mo) = true from by simp] at he
          subst he
          have hW11 : Below B w w11 := hW10.trans (hb11.mono hB10)
          have hB11 : B ≤ w11.heap.size := by have := hb11.size; omega
          go_wp2_with fail
          (with_reducible refine (wworks_any w11).mono ?_)
          rintro e w12 ⟨rfl, hb12⟩
          go_wp2_with fail
          go_ret
          exact ⟨rfl, hW11.trans (hb12.mono hB11)⟩
      · have q3 : ((s : Int) == (ls.length : Int)) = false := by simp; omega
        rw [if_neg (by omega)] at hfm hD3
        clear hse
        have hW4 := hW3
        have hB4 := hB3
        have HV := Lib.hid hfm
        have hD4 := hD3
        generalize P3 = P4 at *
        generalize fm = fm4 at *
        generalize hw34 : wr = w4 at *
        clear hD3 hLog3 hW3 hB3 hfm hd3
        have hpd : ((aps nm3 (ls.drop s)).length : Int) = (r : Int) := by rw [aps_len, List.length_drop]; omega
        have hwr : IntKind.i64.wrap ((ls.length : Int) - (s : Int)) = (r : Int) := by rw [IntWalk.i64_in _ (by omega)]; omega
        obtain ⟨q, hq⟩ : ∃ q : Nat, q = min keep.toNat r := ⟨_, rfl⟩
        obtain ⟨m1, hm1⟩ : ∃ m1 : Int, (if (r : Int) < keep then (r : Int) else keep) = m1 := ⟨_, rfl⟩
        have hm2 : (if 0 < m1 then m1 else 0) = (q : Int) := by split at hm1 <;> split <;> omega
        have hm3 : (if m1 > 0 then m1 else 0) = (q : Int) := hm2
        obtain ⟨mo, hmo⟩ : ∃ mo : Nat, mo = s + q := ⟨_, rfl⟩
        have hwm : IntKind.i64.wrap ((s : Int) + (q : Int)) = (mo : Int) := by rw [IntWalk.i64_in _ (by omega)]; omega
        have hmn : mo ≤ ls.length := by omega
        have HCK : Hid ((viewF fm4 (crashOps (aps nm3 (ls.drop s)) keep 0) nm3).getD [] = frs (ls.take mo)) := Lib.hid (by
          rw [crash_keep, HV.out, ← frs_append, hmo]
          congr 1
          rw [List.take_add]
          congr 1
          rw [hq]
          by_cases h : keep.toNat ≤ r
          · rw [Nat.min_eq_left h]
          · rw [List.take_of_length_le (by rw [List.length_drop]; omega), List.take_of_length_le (by rw [List.length_drop]; omega)])
        have HMO := Lib.hid hmo
        have HQ := Lib.hid hq
        have HRR := Lib.hid hr
        have HV4 := HV
        clear hmo hq HV hr
        have hZ4 : 3 + fsum ls + ls.length ≤ 3000 := by omega
        generalize 3 + fsum ls + ls.length = Z4 at *
        go_wp2_with fail
        (with_reducible refine (dpending_any B _ D P4 fm4 _ w4 hD4).mono ?_)
        rintro e w4' ⟨he, rfl⟩
        rw [hpd] at he
        subst he
        go_wp2_with fail
        (with_reducible refine (dcrash_any B Z4 D P4 fm4 _ keep 0 w4 hB4 hD4 (by omega)).mono ?_)
        rintro e w5 ⟨u5, rfl, hD5, hC5⟩
        have hW5 : Below B w w5 := hW4.trans (hC5.below hB4 (fun i hi => hD4.ge (.inl hi)))
        have hB5 : B ≤ w5.heap.size := by have := hC5.size; omega
        generalize viewF fm4 (crashOps (aps nm3 (ls.drop s)) keep 0) = fm5 at *
        clear hC5 hD4 hm1 hm2 hm3 hpd hwr hwm
        have hrt : ∀ x ∈ ls.take mo, x.length ≤ 1048576 := fun x hx => by have := HRL.out x (List.mem_of_mem_take hx); omega
        have HRT := Lib.hid hrt
        clear hrt
        go_wp2_with fail
        rw [nm3V]
        (with_reducible refine (wopen_ok B Z4 D none fm5 [] nm3 w5 hB5 hD5 nm3_word (by omega)).mono ?_)
        rintro e w6 ⟨M, v6, P6, rfl, hL6, hLog6, hR6, hD6, hP6, hC6⟩
        have ho := @open_same fm5 [] nm3 (ls.take mo) HCK.out HRT.out
        rw [ho.1] at hD6
        rw [ho.2] at hLog6 hR6
        clear ho
        have hB6 : B ≤ w6.heap.size := by have := hC6.size; omega
        have hBM : B ≤ M := by omega
        have htl : (ls.take mo).length = mo := by rw [List.length_take]; omega
        rw [htl] at hLog6
        have hW6 : Below B w w6 := hW5.trans (hC6.below hB5 (fun i hi => hD5.ge hi))
        clear hC6 hD5
        obtain ⟨A6, c6, rfl, s1, s2, s3⟩ := hR6.open_
        rw [htl] at hR6 s1
        have HS3 := Lib.hid s3
        have HS2 := Lib.hid s2
        clear s3 s2
        have hd6 := (hv.dat hW6).take mo hmn
        have kh := run_slice_hi (P := Try.prog) Try.underlying22 HI.out A ls.length c mo (by omega)
        have hfb := fsum_take_le ls mo
        rw [htl]
        go_wp2_with fail
        (with_reducible refine (lists_any B _ _ (ls.take mo) (ls.take mo) w6 hB6 hR6 hd6).mono ?_)
        rintro e w7 ⟨he, hb7⟩
        rw [show decide (ls.take mo = ls.take mo) = true from by simp] at he
        subst he
        have hLog7 := hLog6.below hb7
        have hD7 := hD6.below hB6 hb7
        have hB7 : B ≤ w7.heap.size := by have := hb7.size; omega
        have hW7 : Below B w w7 := hW6.trans (hb7.mono hB6)
        clear hLog6 hD6 hR6 hd6 hb7 kh
        go_wp2_with fail
        (with_reducible refine (wlen_any M D nm3 _ _ w7 hLog7).mono ?_)
        rintro e w7' ⟨rfl, rfl⟩
        have kl := run_slice_lo (P := Try.prog) (size := 1) Try.underlying22 HI.out HZ1.out A ls.length c mo hmn
        have hdl : (ls.drop mo).length = ls.length - mo := List.length_drop ..
        have HDL := Lib.hid hdl
        have hfd : fsum (ls.drop mo) ≤ 2480 := by
          have := fsum_append (ls.take mo) (ls.drop mo)
          rw [List.take_append_drop] at this; omega
        have hrd : ∀ x ∈ ls.drop mo, x.length ≤ 2000 := fun x hx => HRL.out x (List.mem_of_mem_drop hx)
        have HRD := Lib.hid hrd
        obtain ⟨n2, hn2'⟩ : ∃ n2 : Nat, n2 = ls.length - mo := ⟨_, rfl⟩
        rw [← hn2'] at kl
        rw [← hn2'] at hdl
        have HD2 : Hid (∀ w', Below B w w' → DatL B w' (.slice (cutA A c mo 1) n2 (c - mo)) (ls.drop mo)) := Lib.hid (fun w' h => by rw [hn2']; exact (hv.dat h).drop mo hmn)
        have hn2b : n2 ≤ 60 := by omega
        clear hrd hn2'
        generalize ls.drop mo = rs at *
        generalize cutA A c mo 1 = A9 at *
        go_wp2_with fail
        clear kl
        have hD7 : DiskAt B (2 * Z4 + 3) w7 D P6 fm5 (aps nm3 []) := hD7
        go_loopw [136] (fun i wr => ∃ j : Nat, j ≤ n2 ∧ i = .int .i64 (j : Int) ∧ DurRel B (2 * Z4 + 3) D M 0 fm5 rs j mo (fsum (ls.take mo)) w wr) (fun i _ => n2 - (intOf i).toNat)
        case atStart => exact ⟨0, Nat.zero_le _, rfl, P6, by simpa [fsum] using hD7, by simpa [fsum] using hLog7, hW7, hB7⟩
        case round =>
          obtain ⟨j2, hj2, rfl, P8, hD8, hLog8, hW8, hB8⟩ := hrel
          have hd8 := HD2.out _ hW8
          have hfj8 := fsum_take_le rs j2
          by_cases hlt2 : j2 < n2
          · have hlt3 : j2 < rs.length := by omega
            have hd9 := hd8
            rw [← hdl] at hd9
            obtain ⟨bb, ob, ub, rfl, gb, db⟩ := DatL.elem hd9 (List.getElem?_eq_getElem hlt3)
            have hrj := HRD.out _ (List.getElem_mem hlt3)
            have HST := fun (P P' : Option Nat) (wa wb : World) => @DurRel.step B (2 * Z4 + 3) D M 0 fm5 rs j2 mo (fsum (ls.take mo)) w wa wb P P' hlt3 (Nat.zero_le _)
            have HSTH := Lib.hid HST
            clear HST
            obtain ⟨Xb, xb, rfl, _, _, _⟩ := Rd.open_ db
            generalize rs[j2] = r9 at *
            have hdb := db.rd hB8
            go_wp2_with fail
            (with_reducible refine (wappend_ok B _ D M P8 fm5 _ nm3 _ _ _ r9 _ hB8 hD8 hLog8 hBM nm3_word hdb (by omega) (by omega) (by omega) (by omega) (by omega) (by omega)).mono ?_)
            rintro e w9 ⟨rfl, P9, hD9, hP9, hLog9, hC9⟩
            have hst := HSTH.out P8 P9 _ w9 hD8 hLog8 hB8 hBM hW8 hD9 hLog9 hC9
            clear hD8 hLog8 hD9 hLog9 hC9
            go_wp2_with fail
            go_roundw
            case rel => exact ⟨j2 + 1, by omega, by go_num, hst⟩
            case measure => simp [intOf]; omega
          have hje2 : j2 = n2 := by omega
          have HJE := Lib.hid hje2
          clear hje2
          rw [List.drop_zero] at hD8
          obtain ⟨t1, ht1⟩ : ∃ t1 : Int, (if torn < 0 then 0 else torn) = t1 := ⟨_, rfl⟩
          obtain ⟨t2, ht2⟩ : ∃ t2 : Int, (if 7 < t1 then 7 else t1) = t2 := ⟨_, rfl⟩
          have ht3 : t2.toNat ≤ 7 := by split at ht1 <;> split at ht2 <;> omega
          generalize hZ8 : 2 * Z4 + 3 + fsum (rs.take j2) + j2 = Z8 at *
          have hZ9 : Z8 ≤ 1073741824 := by omega
          generalize rs.take j2 = rs2 at *
          clear hZ8 hfj8
          go_wp2_with fail
          (with_reducible refine (dcrash_any B Z8 D P8 fm5 (aps nm3 rs2) 0 t2 _ hB8 hD8 (by omega)).mono ?_)
          rintro e w9 ⟨u9, rfl, hD9, hC9⟩
          have hW9 : Below B w w9 := hW8.trans (hC9.below hB8 (fun i hi => hD8.ge (.inl hi)))
          have hB9 : B ≤ w9.heap.size := by have := hC9.size; omega
          obtain ⟨tail, ht4, ht5⟩ := @crash_first fm5 nm3 rs2 t2
          rw [HCK.out] at ht5
          generalize viewF fm5 (crashOps (aps nm3 rs2) 0 t2) = fm9 at *
          have hrc := open_torn ht5 HRT.out (by omega)
          have HRC := Lib.hid hrc
          clear hrc ht4 ht5 hC9 hD8 ht1 ht2 ht3
          go_wp2_with fail
          rw [nm3V]
          (with_reducible refine (wopen_ok B Z8 D none fm9 [] nm3 w9 hB9 hD9 nm3_word (by omega)).mono ?_)
          rintro e w10 ⟨M2, v10, P10, rfl, hL10, hLog10, hR10, hD10, hP10, hC10⟩
          rw [HRC.out] at hR10
          have hB10 : B ≤ w10.heap.size := by have := hC10.size; omega
          have hW10 : Below B w w10 := hW9.trans (hC10.below hB9 (fun i hi => hD9.ge hi))
          clear hC10 hD9 hLog10 hD10
          obtain ⟨A10, c10, rfl, _, _, _⟩ := hR10.open_
          rw [htl] at hR10
          have hd10 := (hv.dat hW10).take mo hmn
          have kh := run_slice_hi (P := Try.prog) Try.underlying22 HI.out A ls.length c mo (by omega)
          rw [htl]
          go_wp2_with fail
          (with_reducible refine (lists_any B _ _ (ls.take mo) (ls.take mo) w10 hB10 hR10 hd10).mono ?_)
          rintro e w11 ⟨he, hb11⟩
          rw [show decide (ls.take mo = ls.take mo) = true from by simp] at he
          subst he
          have hW11 : Below B w w11 := hW10.trans (hb11.mono hB10)
          have hB11 : B ≤ w11.heap.size := by have := hb11.size; omega
          go_wp2_with fail
          (with_reducible refine (wworks_any w11).mono ?_)
          rintro e w12 ⟨rfl, hb12⟩
          go_wp2_with fail
          go_ret
          exact ⟨rfl, hW11.trans (hb12.mono hB11)⟩
end Go.Proofs.Ytooojgokkigncaa
