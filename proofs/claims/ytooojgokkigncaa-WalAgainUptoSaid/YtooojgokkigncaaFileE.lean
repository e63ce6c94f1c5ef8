/-
  Disks: the law's own functions large and works; what an operation answers.
-/
import Derived.Test.YtooojgokkigncaaFileD
import Derived.Test.YtooojgokkigncaaWalD
namespace Go.Proofs.Ytooojgokkigncaa
open Go.RowKit Go.Lib Go.IntWalk

/-- an operation of a law -/
structure LOp where
  kind : Int
  name : List UInt8
  to : List UInt8
  data : List UInt8
  keep : Int
  torn : Int
def lopC (p : LOp × Value) : List Value := [.int .i64 p.1.kind, .string (strB p.1.name), .string (strB p.1.to), p.2, .int .i64 p.1.keep, .int .i64 p.1.torn]
theorem lopC_len (p : LOp × Value) : (lopC p).length = 6 := rfl
def lopCs (ps : List (LOp × Value)) : List Value := ps.flatMap lopC
/-- operations that the input has -/
def InOps (B : Nat) (w : World) (v : Value) (los : List LOp) : Prop :=
  ∃ ps : List (LOp × Value), ps.map (·.1) = los ∧ Rd w (· < B) 6 v ps.length (lopCs ps) ∧ ∀ p ∈ ps, RdB w (· < B) p.2 p.1.data
theorem InOps.below {B : Nat} {w w' : World} {v : Value} {los : List LOp} (h : InOps B w v los) (hb : Below B w w') : InOps B w' v los := by
  obtain ⟨ps, h1, h2, h3⟩ := h
  exact ⟨ps, h1, Rd.keep h2 (fun b hb' => hb.block b hb'), fun p hp => Rd.keep (h3 p hp) (fun b hb' => hb.block b hb')⟩
theorem InOps.open_ {B : Nat} {w : World} {v : Value} {los : List LOp} (h : InOps B w v los) : ∃ A c, v = .slice A los.length c ∧ los.length ≤ c ∧ c ≤ maxLen ∧ (A = none → c = 0) := by
  obtain ⟨ps, rfl, hr, hd⟩ := h
  rw [List.length_map]
  exact hr.open_
theorem InOps.elem {B : Nat} {w : World} {A : Option Addr} {c : Nat} {los : List LOp} (h : InOps B w (.slice A los.length c) los) {k : Nat} {q : LOp} (hk : los[k]? = some q) :
    ∃ b off dv, A = some ⟨b, off, none⟩ ∧ w.cell? ⟨b, off + k * 6, none⟩ = some (.int .i64 q.kind) ∧ w.cell? ⟨b, off + k * 6 + 1, none⟩ = some (.string (strB q.name)) ∧ w.cell? ⟨b, off + k * 6 + 2, none⟩ = some (.string (strB q.to)) ∧ w.cell? ⟨b, off + k * 6 + 3, none⟩ = some dv ∧
      w.cell? ⟨b, off + k * 6 + 4, none⟩ = some (.int .i64 q.keep) ∧ w.cell? ⟨b, off + k * 6 + 5, none⟩ = some (.int .i64 q.torn) ∧ DatB B w dv q.data ∧ b < B := by
  obtain ⟨ps, rfl, hr, hd⟩ := h
  rw [List.length_map] at hr
  rw [List.getElem?_map, Option.map_eq_some_iff] at hk
  obtain ⟨p, hp, rfl⟩ := hk
  obtain ⟨hlt, _⟩ := List.getElem?_eq_some_iff.1 hp
  obtain ⟨b, off, rfl, hF, hc⟩ := Rd.plain hr (by omega) (by omega)
  have e := fun (j : Nat) (hj : j < 6) (u : Value) (hu : (lopC p)[j]? = some u) => hc (k * 6 + j) u ((flat_get 6 lopC lopC_len ps k j hj p hp).trans hu)
  refine ⟨b, off, p.2, rfl, e 0 (by omega) _ rfl, ?_, ?_, ?_, ?_, ?_, DatB.of_input (hd p (List.mem_of_getElem? hp)), hF⟩
  · rw [Nat.add_assoc]; exact e 1 (by omega) _ rfl
  · rw [Nat.add_assoc]; exact e 2 (by omega) _ rfl
  · rw [Nat.add_assoc]; exact e 3 (by omega) _ rfl
  · rw [Nat.add_assoc]; exact e 4 (by omega) _ rfl
  · rw [Nat.add_assoc]; exact e 5 (by omega) _ rfl
def losum (los : List LOp) : Nat := (los.map fun o => o.data.length).sum
theorem flsum_take {fl : FL} {k : Nat} {r : List UInt8 × List UInt8} (h : fl[k]? = some r) : flsum (fl.take (k + 1)) = flsum (fl.take k) + r.2.length := by
  obtain ⟨hk, e⟩ := List.getElem?_eq_some_iff.1 h
  rw [List.take_succ_eq_append_getElem hk, e]
  simp [flsum]
theorem losum_take {fl : List LOp} {k : Nat} {r : LOp} (h : fl[k]? = some r) : losum (fl.take (k + 1)) = losum (fl.take k) + r.data.length := by
  obtain ⟨hk, e⟩ := List.getElem?_eq_some_iff.1 h
  rw [List.take_succ_eq_append_getElem hk, e]
  simp [losum]
theorem flsum_take_le (fl : FL) (k : Nat) : flsum (fl.take k) ≤ flsum fl := by
  conv => rhs; rw [← List.take_append_drop k fl]
  simp only [flsum, List.map_append, List.sum_append]; omega
theorem losum_take_le (fl : List LOp) (k : Nat) : losum (fl.take k) ≤ losum fl := by
  conv => rhs; rw [← List.take_append_drop k fl]
  simp only [losum, List.map_append, List.sum_append]; omega

def LargeOut (fl : FL) (los : List LOp) (w0 : World) (e : Ending) (w : World) : Prop :=
  ∃ b, e = .returned (.bool b) ∧ (b = false → fl.length ≤ 40 ∧ los.length ≤ 60 ∧ flsum fl + losum los ≤ 3000) ∧ Below w0.heap.size w0 w
set_option maxRecDepth 100000 in
set_option maxHeartbeats 4000000 in
theorem dlarge_any (B : Nat) (vf vo : Value) (fl : FL) (los : List LOp) (w : World) (hB : B ≤ w.heap.size) (hf : FlsRd B w vf fl) (ho : InOps B w vo los) (hl : flsum fl + fl.length + losum los + los.length ≤ 1099511627776) :
    Calls Try.prog 28 #[vf, vo] w (LargeOut fl los w) := by
  obtain ⟨A, c, rfl, a1, a2, a3⟩ := hf.open_
  obtain ⟨Ao, co, rfl, b1, b2, b3⟩ := ho.open_
  unfold maxLen at a2 b2
  clear a3 b3
  go_enter Try.func28, Try.ntmps28
  go_wp2_with fail
  go_loopw [5, 12] (fun n i wr => ∃ k : Nat, k ≤ fl.length ∧ i = .int .i64 (k : Int) ∧ n = .int .i64 ((flsum (fl.take k) + k : Nat) : Int) ∧ Below w.heap.size w wr) (fun _ i _ => fl.length - (intOf i).toNat)
  case atStart => exact ⟨0, Nat.zero_le _, rfl, rfl, Below.refl _ _⟩
  case round =>
    obtain ⟨k, hk, rfl, rfl, hbw⟩ := hrel
    by_cases hlt : k < fl.length
    · obtain ⟨ba, oa, ua, rfl, ga, ga1, da, _⟩ := FlsRd.elem (hf.below hB hbw) (List.getElem?_eq_getElem hlt)
      have HFT := Lib.hid (flsum_take (List.getElem?_eq_getElem hlt))
      have hle := flsum_take_le fl (k + 1)
      rw [HFT.out] at hle
      obtain ⟨Xa, xa, rfl, _, _, _⟩ := Rd.open_ da
      generalize fl[k].1 = nm at *
      generalize fl[k].2 = data at *
      have kG := box_cell wr #[.string (strB nm), .slice Xa data.length xa] 97 1 rfl
      go_wp2_with fail
      go_roundw
      case rel =>
        refine ⟨k + 1, by omega, by go_num, ?_, hbw.alloc hbw.size _⟩
        rw [HFT.out]
        go_num
      case measure => simp [intOf]; omega
    have hke : k = fl.length := by omega
    have HK : Hid (flsum (fl.take k) + k = flsum fl + fl.length) := Lib.hid (by rw [hke, List.take_length])
    rw [HK.out]
    generalize hN : flsum fl + fl.length = N at *
    have HN := Lib.hid hN
    clear hke hN HK
    go_wp2_with fail
    go_loopw [5, 25] (fun n i wr => ∃ k : Nat, k ≤ los.length ∧ i = .int .i64 (k : Int) ∧ n = .int .i64 ((N + losum (los.take k) + k : Nat) : Int) ∧ Below w.heap.size w wr) (fun _ i _ => los.length - (intOf i).toNat)
    case atStart => exact ⟨0, Nat.zero_le _, rfl, by simp [losum], hbw⟩
    case round =>
      obtain ⟨j, hj, rfl, rfl, hbj⟩ := hrel
      by_cases hlj : j < los.length
      · obtain ⟨ba, oa, ua, rfl, g0, g1, g2, g3, g4, g5, da, _⟩ := InOps.elem (ho.below (hbj.mono hB)) (List.getElem?_eq_getElem hlj)
        have HFT := Lib.hid (losum_take (List.getElem?_eq_getElem hlj))
        have hle := losum_take_le los (j + 1)
        rw [HFT.out] at hle
        obtain ⟨Xa, xa, rfl, _, _, _⟩ := Rd.open_ da
        generalize los[j] = q at *
        have kG := box_cell wr #[.int .i64 q.kind, .string (strB q.name), .string (strB q.to), .slice Xa q.data.length xa, .int .i64 q.keep, .int .i64 q.torn] 38 3 rfl
        go_wp2_with fail
        go_roundw
        case rel =>
          refine ⟨j + 1, by omega, by go_num, ?_, hbj.alloc hbj.size _⟩
          rw [HFT.out]
          go_num
        case measure => simp [intOf]; omega
      have hje : j = los.length := by omega
      have HJ : Hid (N + losum (los.take j) + j = N + losum los + los.length) := Lib.hid (by rw [hje, List.take_length])
      rw [HJ.out]
      clear HJ hje
      by_cases c1 : 40 < fl.length
      · have q1 : (40 : Int) < (fl.length : Int) := by omega
        go_wp2_with fail
        go_ret
        exact ⟨true, rfl, (fun h => by cases h), hbj⟩
      have q1 : ¬ (40 : Int) < (fl.length : Int) := by omega
      by_cases c2 : 60 < los.length
      · have q2 : (60 : Int) < (los.length : Int) := by omega
        go_wp2_with fail
        go_ret
        refine Exists.intro true ?_
        refine ⟨rfl, (fun h => by cases h), hbj⟩
      have q2 : ¬ (60 : Int) < (los.length : Int) := by omega
      by_cases c3 : 3000 < N + losum los + los.length
      · have q3 : (3000 : Int) < (N : Int) + (losum los : Int) + (los.length : Int) := by omega
        go_wp2_with fail
        go_ret
        refine Exists.intro true ?_
        refine ⟨rfl, (fun h => by cases h), hbj⟩
      have q3 : ¬ (3000 : Int) < (N : Int) + (losum los : Int) + (los.length : Int) := by omega
      go_wp2_with fail
      go_ret
      refine Exists.intro false ?_
      refine ⟨rfl, (fun _ => by have := HN.out; omega), hbj⟩

def nA : List UInt8 := [97]
theorem nAV : Value.string ⟨#[97]⟩ = .string (strB nA) := rfl
theorem nA_word : wordF nA = true := by decide
theorem nXV : Value.string ⟨#[120]⟩ = .string (strB [120]) := rfl
theorem nYV : Value.string ⟨#[121]⟩ = .string (strB [121]) := rfl
theorem isL_nil {fm : FM} (h : ∀ k, fm k = none) : IsL fm [] := ⟨List.Pairwise.nil, fun k => (h k).symm⟩
theorem isL_one {fm : FM} {n l : List UInt8} (h : ∀ k, fm k = if k = n then some l else none) : IsL fm [(n, l)] := ⟨List.pairwise_singleton _ _, fun k => by rw [h k, lookL, lookL]⟩
set_option maxRecDepth 100000 in
set_option maxHeartbeats 8000000 in
theorem dworks_any (w : World) : Calls Try.prog 29 #[] w fun e w' => e = .returned (.bool true) ∧ Below w.heap.size w w' := by
  have hB0 : w.heap.size ≤ w.heap.size := Nat.le_refl _
  generalize hBe : w.heap.size = B at hB0
  have HBE := Lib.hid hBe
  clear hBe
  have kc := fun (w : World) (C : Array Value) (n c : Nat) => Lib.run_convert_bytes_const (P := Try.prog) w 23 5 C n c Try.underlying23 Try.underlying5
  go_enter Try.func29, Try.ntmps29
  go_wp2_with fail
  (with_reducible refine (dnew_any B w (by have := HBE.out; omega)).mono ?_)
  rintro e w1 ⟨D, rfl, hDl, hD1, hb1⟩
  have hB1 : B ≤ w1.heap.size := by have := hb1.size; have := HBE.out; omega
  have hW1 : Below B w w1 := HBE.out ▸ hb1
  clear hb1
  go_wp2_with fail
  rw [nAV]
  have hda : DatB B (w1.alloc (.cells #[.int .u8 97, .int .u8 98] 5 (2, 3))) (.slice (some ⟨w1.heap.size, 0, none⟩) 2 2) [97, 98] := rdB_fr w1 [97, 98] (2, 3) (by simp)
  have hba : Below w1.heap.size w1 (w1.alloc (.cells #[.int .u8 97, .int .u8 98] 5 (2, 3))) := Below.of_alloc _
  have hBa : B ≤ (w1.alloc (.cells #[.int .u8 97, .int .u8 98] 5 (2, 3))).heap.size := by simp; omega
  have hDa := hD1.below hB1 hba
  (with_reducible refine (dappend_ok B 0 D none (fun _ => none) [] nA _ [97, 98] _ hBa hDa nA_word (hda.rd hBa) (by simp) (by omega)).mono ?_)
  rintro e w2 ⟨rfl, P2, hD2, _, hC2⟩
  have hW2 : Below B w w2 := (hW1.trans (hba.mono hB1)).trans (hC2.below hBa (fun i hi => hDa.ge hi))
  have hB2 : B ≤ w2.heap.size := by have := hC2.size; omega
  have hD2 : DiskAt B 3 w2 D P2 (fun _ => none) [⟨0, nA, [], [97, 98]⟩] := hD2
  clear hda hba hBa hDa hC2 hD1 hW1
  go_wp2_with fail
  (with_reducible refine (dsync_any B 3 D (fun _ => none) [⟨0, nA, [], [97, 98]⟩] w2 hB2 hD2.rd (by omega)).mono ?_)
  rintro e w3 ⟨u3, rfl, hD3, hC3⟩
  have hW3 : Below B w w3 := hW2.trans (hC3.below hB2 (fun i hi => hD2.ge (.inl hi)))
  have hB3 : B ≤ w3.heap.size := by have := hC3.size; omega
  have HF1 : Hid (∀ k, viewF (fun _ => none) [⟨0, nA, [], [97, 98]⟩] k = if k = nA then some [97, 98] else none) := Lib.hid (fun k => by simp [viewF, applyF, updG])
  generalize viewF (fun _ => none) [⟨0, nA, [], [97, 98]⟩] = fm1 at *
  clear hC3 hD2 hW2
  go_wp2_with fail
  rw [nAV]
  have hda : DatB B (w3.alloc (.cells #[.int .u8 99, .int .u8 100] 5 (2, 3))) (.slice (some ⟨w3.heap.size, 0, none⟩) 2 2) [99, 100] := rdB_fr w3 [99, 100] (2, 3) (by simp)
  have hba : Below w3.heap.size w3 (w3.alloc (.cells #[.int .u8 99, .int .u8 100] 5 (2, 3))) := Below.of_alloc _
  have hBa : B ≤ (w3.alloc (.cells #[.int .u8 99, .int .u8 100] 5 (2, 3))).heap.size := by simp; omega
  have hDa := hD3.below hB3 hba
  (with_reducible refine (dappend_ok B 3 D none fm1 [] nA _ [99, 100] _ hBa hDa nA_word (hda.rd hBa) (by simp) (by omega)).mono ?_)
  rintro e w4 ⟨rfl, P4, hD4, _, hC4⟩
  have hW4 : Below B w w4 := (hW3.trans (hba.mono hB3)).trans (hC4.below hBa (fun i hi => hDa.ge hi))
  have hB4 : B ≤ w4.heap.size := by have := hC4.size; omega
  have hD4 : DiskAt B 6 w4 D P4 fm1 [⟨0, nA, [], [99, 100]⟩] := hD4
  have hv4 : (viewF fm1 [⟨0, nA, [], [99, 100]⟩] nA).isSome = true := by simp [viewF, applyF, updG]
  clear hda hba hBa hDa hC4 hD3 hW3
  go_wp2_with fail
  rw [nAV]
  (with_reducible refine (dremove_ok B 6 D P4 fm1 [⟨0, nA, [], [99, 100]⟩] nA w4 hB4 hD4 (by decide) (by omega) hv4).mono ?_)
  rintro e w5 ⟨rfl, P5, hD5, _, hC5⟩
  have hW5 : Below B w w5 := hW4.trans (hC5.below hB4 (fun i hi => hD4.ge hi))
  have hB5 : B ≤ w5.heap.size := by have := hC5.size; omega
  have hD5 : DiskAt B 7 w5 D P5 fm1 [⟨0, nA, [], [99, 100]⟩, ⟨1, nA, [], []⟩] := hD5
  clear hv4 hC5 hD4 hW4
  have HV : Hid (∀ k, viewF fm1 [⟨0, nA, [], [99, 100]⟩, ⟨1, nA, [], []⟩] k = none) := Lib.hid (fun k => by
    have := HF1.out k
    by_cases hk : k = nA
    · simp [viewF, applyF, updG, hk]
    · rw [if_neg hk] at this; simp [viewF, applyF, updG, hk, this])
  have HL : Hid (([⟨0, nA, [], [99, 100]⟩, ⟨1, nA, [], []⟩] : List DOp).length = 2) := Lib.hid rfl
  have HCR : Hid (viewF fm1 (crashOps [⟨0, nA, [], [99, 100]⟩, ⟨1, nA, [], []⟩] 0 1) nA = some [97, 98, 99]) := Lib.hid (by
    have := HF1.out nA
    rw [if_pos rfl] at this
    simp [crashOps, tornOp, viewF, applyF, updG, this])
  generalize ([⟨0, nA, [], [99, 100]⟩, ⟨1, nA, [], []⟩] : List DOp) = os5 at *
  go_wp2_with fail
  rw [nXV, nYV]
  (with_reducible refine (drename_no B 7 D P5 fm1 os5 [120] [121] w5 hB5 hD5 (by decide) (by omega) (by rw [HV.out]; simp) 7 (Nat.le_refl _)).mono ?_)
  rintro e w6 ⟨rfl, P6, hD6, _, hC6⟩
  have hW6 : Below B w w6 := hW5.trans (hC6.below hB5 (fun i hi => hD5.ge hi))
  have hB6 : B ≤ w6.heap.size := by have := hC6.size; omega
  clear hC6 hD5 hW5
  have CR := Lib.hid (dread_any B 7 D fm1 os5 nA w6 hB6 hD6.rd (by omega) (by decide))
  rw [HV.out nA] at CR
  go_wp2_with fail
  rw [nAV]
  (with_reducible refine CR.out.mono ?_)
  rintro e w7 ⟨v7, rfl, hO7, hb7⟩
  clear CR
  obtain ⟨A7, c7, rfl, _, _, _⟩ := hO7.rd.open_
  have hD7 := hD6.below hB6 hb7
  have hB7 : B ≤ w7.heap.size := by have := hb7.size; omega
  have hW7 : Below B w w7 := hW6.trans (hb7.mono hB6)
  clear hD6 hW6 hb7 hO7
  go_wp2_with fail
  (with_reducible refine (dpending_any B _ D P6 fm1 os5 w7 hD7).mono ?_)
  rintro e w7' ⟨he, rfl⟩
  rw [HL.out] at he
  subst he
  go_wp2_with fail
  (with_reducible refine (dviewl_any B 7 D fm1 os5 w7 hB7 hD7.rd (by omega)).mono ?_)
  rintro e w8 ⟨v8, fl8, rfl, hF8, hI8, hb8⟩
  obtain rfl : fl8 = [] := hI8.unique (isL_nil HV.out)
  obtain ⟨A8, c8, rfl, _, _, _⟩ := hF8.rd.open_
  have hD8 := hD7.below hB7 hb8
  have hB8 : B ≤ w8.heap.size := by have := hb8.size; omega
  have hW8 : Below B w w8 := hW7.trans (hb8.mono hB7)
  clear hD7 hW7 hb8 hF8 hI8
  rw [List.length_nil]
  go_wp2_with fail
  (with_reducible refine (dfiles_any B 7 D fm1 os5 w8 hB8 hD8.rd (by omega)).mono ?_)
  rintro e w9 ⟨v9, fl9, rfl, hF9, hI9, hb9⟩
  obtain rfl : fl9 = [(nA, [97, 98])] := hI9.unique (isL_one HF1.out)
  have hD9 := hD8.below hB8 hb9
  have hB9 : B ≤ w9.heap.size := by have := hb9.size; omega
  have hW9 : Below B w w9 := hW8.trans (hb9.mono hB8)
  clear hD8 hW8 hb9 hI9
  go_wp2_with fail
  rw [nAV]
  have hx1 : DatB B (w9.alloc (.cells #[.int .u8 97, .int .u8 98] 5 (2, 3))) (.slice (some ⟨w9.heap.size, 0, none⟩) 2 2) [97, 98] := rdB_fr w9 [97, 98] (2, 3) (by simp)
  have hBa1 : B ≤ (w9.alloc (.cells #[.int .u8 97, .int .u8 98] 5 (2, 3))).heap.size := by simp; omega
  have hBa2 : B ≤ ((w9.alloc (.cells #[.int .u8 97, .int .u8 98] 5 (2, 3))).alloc (.cells #[.string (strB nA), .slice (some ⟨w9.heap.size, 0, none⟩) 2 2] 97)).heap.size := by simp; omega
  have hba : Below w9.heap.size w9 ((w9.alloc (.cells #[.int .u8 97, .int .u8 98] 5 (2, 3))).alloc (.cells #[.string (strB nA), .slice (some ⟨w9.heap.size, 0, none⟩) 2 2] 97)) := (Below.of_alloc _).trans ((Below.of_alloc _).mono (by simp))
  have hx2 : FlsRd B ((w9.alloc (.cells #[.int .u8 97, .int .u8 98] 5 (2, 3))).alloc (.cells #[.string (strB nA), .slice (some ⟨w9.heap.size, 0, none⟩) 2 2] 97)) (.slice (some ⟨w9.heap.size + 1, 0, none⟩) 1 1) [(nA, [97, 98])] := by
    refine ⟨[((nA, [97, 98]), .slice (some ⟨w9.heap.size, 0, none⟩) 2 2)], rfl, ?_, fun p hp => ?_⟩
    · have h := Rd.new' (w9.alloc (.cells #[.int .u8 97, .int .u8 98] 5 (2, 3))) (w9.heap.size + 1) (by simp) (fileC ((nA, [97, 98]), .slice (some ⟨w9.heap.size, 0, none⟩) 2 2)) 97 2 1 rfl (by unfold maxLen; omega)
      refine Rd.wide h ?_
      rintro b rfl
      have h2 := heap_alloc_new (w9.alloc (.cells #[.int .u8 97, .int .u8 98] 5 (2, 3))) (.cells #[.string (strB nA), .slice (some ⟨w9.heap.size, 0, none⟩) 2 2] 97)
      exact .inr ⟨_, by simpa using h2⟩
    · obtain rfl := List.mem_singleton.1 hp
      exact hx1.alloc hBa1 _
  (with_reducible refine (rsame_any B _ _ [(nA, [97, 98])] [(nA, [97, 98])] _ hBa2 (hF9.rd.below hB9 hba) hx2).mono ?_)
  rintro e w10 ⟨he, hb10⟩
  rw [show decide (([(nA, [97, 98])] : FL) = [(nA, [97, 98])]) = true from by simp] at he
  subst he
  have hb910 : Below w9.heap.size w9 w10 := hba.trans (hb10.mono (by simp; omega))
  have hD10 := hD9.below hB9 hb910
  have hB10 : B ≤ w10.heap.size := by have := hb910.size; omega
  have hW10 : Below B w w10 := hW9.trans (hb910.mono hB9)
  clear hD9 hW9 hb910 hb10 hba hx1 hx2 hBa1 hBa2 hF9
  go_wp2_with fail
  (with_reducible refine (dcrash_any B 7 D P6 fm1 os5 0 1 w10 hB10 hD10 (by omega)).mono ?_)
  rintro e w11 ⟨u11, rfl, hD11, hC11⟩
  have hW11 : Below B w w11 := hW10.trans (hC11.below hB10 (fun i hi => hD10.ge (.inl hi)))
  have hB11 : B ≤ w11.heap.size := by have := hC11.size; omega
  generalize viewF fm1 (crashOps os5 0 1) = fm11 at *
  have CR := Lib.hid (dread_any B 7 D fm11 [] nA w11 hB11 hD11.rd (by omega) (by decide))
  rw [show viewF fm11 [] nA = some [97, 98, 99] from HCR.out] at CR
  clear hC11 hD10 hW10
  go_wp2_with fail
  rw [nAV]
  (with_reducible refine CR.out.mono ?_)
  rintro e w12 ⟨v12, rfl, hO12, hb12⟩
  clear CR
  have cv : (convert 23 9 v12).run Try.prog w12 = .ok (.string ⟨#[97, 98, 99]⟩) w12 := run_bytes_str hO12.rd
  have hD12 := hD11.below hB11 hb12
  have hW12 : Below B w w12 := hW11.trans (hb12.mono hB11)
  go_wp2_with fail
  (with_reducible refine (dpending_any B _ D none fm11 [] w12 hD12).mono ?_)
  rintro e w12' ⟨rfl, rfl⟩
  go_wp2_with fail
  go_ret
  exact ⟨rfl, hW12⟩
end Go.Proofs.Ytooojgokkigncaa
