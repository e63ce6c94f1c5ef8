/-
  The first frame of a segment: segment.head.
-/
import Derived.Test.YtacjiocffbgkkaaGreatSegE
namespace Go.Proofs.YtacjiocffbgkkaaGreat
open Go.RowKit Go.Lib Go.IntWalk Go.Sort Go.Shelf

def hdR (r : Rec) : List UInt8 := (encI r.vf ++ encI r.vt) ++ (encI r.sf ++ encI r.st)
def hdRs (rs : List Rec) : List UInt8 := rs.flatMap hdR
def hdPre (t : List UInt8) (n k : Nat) : List UInt8 := encI (t.length : Nat) ++ t ++ encI (n : Nat) ++ encI (k : Nat)
def headB (t : List UInt8) (n : Nat) (rs : List Rec) : List UInt8 := hdPre t n rs.length ++ hdRs rs
def bd64 (n : Int) : Prop := -9223372036854775808 ≤ n ∧ n ≤ 9223372036854775807
def RecOk (r : Rec) : Prop := bd64 r.vf ∧ bd64 r.vt ∧ bd64 r.sf ∧ bd64 r.st
def bR (p : LVP) : Rec := bndF (p.2.map (·.2))
theorem hdR_length (r : Rec) : (hdR r).length ≤ 40 := by
  have := encI_length r.vf; have := encI_length r.vt; have := encI_length r.sf; have := encI_length r.st
  unfold hdR; simp only [List.length_append]; omega
theorem hdRs_le (rs : List Rec) : (hdRs rs).length ≤ 40 * rs.length := by
  induction rs with
  | nil => simp [hdRs]
  | cons r q ih =>
    have h := hdR_length r
    have e : hdRs (r :: q) = hdR r ++ hdRs q := rfl
    rw [e, List.length_append, List.length_cons]
    omega
theorem hdRs_snoc {rs : List Rec} {k : Nat} (hk : k < rs.length) : hdRs (rs.take (k + 1)) = hdRs (rs.take k) ++ hdR rs[k] := by
  unfold hdRs
  rw [List.take_succ_eq_append_getElem hk, List.flatMap_append, List.flatMap_singleton]
theorem hdPre_le (t : List UInt8) (n k : Nat) : (hdPre t n k).length ≤ t.length + 30 := by
  have := encI_length (t.length : Nat); have := encI_length (n : Nat); have := encI_length (k : Nat)
  unfold hdPre; simp only [List.length_append]; omega
theorem OwnB.cast {w : World} {base : Nat} {v : Value} {a b : List UInt8} (h : OwnB w base v a) (e : a = b) : OwnB w base v b := e ▸ h

set_option maxRecDepth 1000000 in
set_option maxHeartbeats 4000000 in
theorem head_any (t : List UInt8) (n : Nat) (v : Value) (ls : List LVP) (w : World) (hv : RdBk w (· < w.heap.size) v ls) (hok : ∀ p ∈ ls, RecOk (bR p)) (ht : t.length ≤ 1048576) (hn : n ≤ 1099511627776) (hl : ls.length ≤ 1048576) :
    Calls Tryz.prog 67 #[.string (strB t), .int .i64 (n : Int), v] w (NewB w (headB t n (ls.map bR))) := by
  obtain ⟨A, c, rfl, hc1, hc2, hc3⟩ := hv.1.open_
  unfold maxLen at hc2
  have hsz : (strB t).size = t.length := strB_size t
  have hdt : (strB t).data.toList = t := by simp [strB]
  have HV := Lib.hid hv
  have HOK := Lib.hid hok
  have K1 := putText_any (.slice none 0 0) [] (strB t) w (RdB.nil _ _) (by rw [hsz]; simp; omega)
  rw [hsz, hdt, List.nil_append] at K1
  have hpre := hdPre_le t n ls.length
  have HPRE := Lib.hid hpre
  generalize strB t = S at *
  have e1 : headB t n (ls.map bR) = hdPre t n ls.length ++ hdRs (ls.map bR) := by unfold headB; rw [List.length_map]
  have HE1 := Lib.hid e1
  clear hv hok hc3 hpre hdt e1
  go_enter Tryz.func67, Tryz.ntmps67
  go_wp2_with fail
  (with_reducible refine K1.mono ?_)
  rintro _ w1 ⟨v1, rfl, hO1, hb1⟩
  have K2 := putInt_any v1 _ (n : Int) w1 (by omega) (by omega) hO1.rd (by have := encI_length (t.length : Nat); simp only [List.length_append]; omega)
  clear K1
  go_wp2_with fail
  (with_reducible refine K2.mono ?_)
  rintro _ w2 ⟨v2, rfl, hO2, hb2⟩
  have K3 := putInt_any v2 _ (ls.length : Nat) w2 (by omega) (by omega) hO2.rd (by have := encI_length (t.length : Nat); have := encI_length (n : Nat); simp only [List.length_append]; omega)
  have hB2 : Below w.heap.size w w2 := hb1.trans (hb2.mono hb1.size)
  clear K2 hO1 hb1 hb2
  go_wp2_with fail
  (with_reducible refine K3.mono ?_)
  rintro _ w3 ⟨v3, rfl, hO3, hb3⟩
  have hB3 : Below w.heap.size w w3 := hB2.trans (hb3.mono hB2.size)
  have HO3 : Hid (OwnB w3 w.heap.size v3 (hdPre t n ls.length ++ hdRs ((ls.map bR).take 0))) := Lib.hid ((OwnB.base hO3 hB2.size).cast (by simp [hdPre, hdRs]))
  clear K3 hO2 hO3 hb3 hB2
  go_wp2_with fail
  go_loopw [7, 21] (fun b i wr => ∃ k : Nat, i = .int .i64 (k : Int) ∧ k ≤ ls.length ∧ Hid (OwnB wr w.heap.size b (hdPre t n ls.length ++ hdRs ((ls.map bR).take k))) ∧ Below w.heap.size w wr) (fun _ i _ => ls.length - (intOf i).toNat)
  case atStart => exact ⟨0, rfl, Nat.zero_le _, HO3, hB3⟩
  case round =>
    obtain ⟨k, rfl, hk, HO, hB⟩ := hrel
    obtain ⟨wi, rfl⟩ : ∃ wi : World, wi = wr := ⟨_, rfl⟩
    have hsi := hB.size
    by_cases hlt : k < ls.length
    case neg =>
      have HF := Lib.hid (HO.out.cast (b := headB t n (ls.map bR)) (by rw [HE1.out, List.take_of_length_le (by rw [List.length_map]; omega)]))
      go_wp2_with fail
      go_ret
      exact ⟨_, rfl, HF.out, hB⟩
    case pos =>
      obtain ⟨b, off, rfl, hF, hcl, hx⟩ := RdBk.at_ (HV.out.below hB) hlt
      have hrk := HOK.out _ (List.getElem_mem hlt)
      have hsn := hdRs_snoc (rs := ls.map bR) (k := k) (by rw [List.length_map]; exact hlt)
      rw [List.getElem_map] at hsn
      have hle := hdRs_le ((ls.map bR).take k)
      rw [List.length_take, List.length_map] at hle
      obtain ⟨Ap, pn, cp, hpv⟩ : ∃ Ap pn cp, ls[k].1 = .slice Ap pn cp := by
        obtain ⟨Ap, cp, h, _⟩ := hx.1.open_
        exact ⟨Ap, _, cp, h⟩
      have hbe : blkE ls[k] = (bR ls[k]).enc ++ [.slice Ap pn cp] := by rw [← hpv]; rfl
      rw [hbe] at hcl
      clear hpv hbe hx
      generalize bR ls[k] = r at *
      obtain ⟨r1, r2, r3, r4⟩ := r
      obtain ⟨⟨a1, a2⟩, ⟨b1, b2⟩, ⟨d1, d2⟩, ⟨e1, e2⟩⟩ := hrk
      simp only at a1 a2 b1 b2 d1 d2 e1 e2
      have g0 : wi.cell? ⟨b, off + k * 5, none⟩ = some (.int .i64 r1) := hcl 0 _ (by decide) rfl
      have g1 : wi.cell? ⟨b, off + k * 5 + 1, none⟩ = some (.int .i64 r2) := hcl 1 _ (by decide) rfl
      have g2 : wi.cell? ⟨b, off + k * 5 + 2, none⟩ = some (.int .i64 r3) := hcl 2 _ (by decide) rfl
      have g3 : wi.cell? ⟨b, off + k * 5 + 3, none⟩ = some (.int .i64 r4) := hcl 3 _ (by decide) rfl
      have g4 : wi.cell? ⟨b, off + k * 5 + 4, none⟩ = some (.slice Ap pn cp) := hcl 4 _ (by decide) rfl
      obtain ⟨L, hL⟩ : ∃ L, L = hdPre t n ls.length ++ hdRs ((ls.map bR).take k) := ⟨_, rfl⟩
      have hLl : L.length ≤ 50000000 := by rw [hL, List.length_append]; have := HPRE.out; omega
      have HNX : Hid (hdPre t n ls.length ++ hdRs ((ls.map bR).take (k + 1)) = L ++ ((encI r1 ++ encI r2) ++ (encI r3 ++ encI r4))) := Lib.hid (by rw [hsn, ← List.append_assoc, ← hL]; rfl)
      have HO1 : Hid (OwnB wi w.heap.size u7 L) := Lib.hid (by rw [hL]; exact HO.out)
      clear hcl hsn hle hL HO
      obtain ⟨A1, c1, rfl, x1, x2, x3⟩ := Rd.open_ (Rd.of_own HO1.out)
      clear x3 x2
      obtain ⟨wb, hwb⟩ : ∃ wb, wb = wi.alloc (.cells #[.int .i64 r1, .int .i64 r2, .int .i64 r3, .int .i64 r4, .slice Ap pn cp] 81) := ⟨_, rfl⟩
      have hbb : Below wi.heap.size wi wb := by rw [hwb]; exact Below.of_alloc _
      have hbs : wb.heap.size = wi.heap.size + 1 := by rw [hwb]; simp
      have hbh : wb.heap[wi.heap.size]? = some (.cells #[.int .i64 r1, .int .i64 r2, .int .i64 r3, .int .i64 r4, .slice Ap pn cp] 81 (0, 0)) := by rw [hwb]; exact heap_alloc_new _ _
      go_wp2_with fail
      rw [← hwb]
      clear hwb g0 g1 g2 g3 g4
      have HBH := Lib.hid hbh
      have HBB := Lib.hid hbb
      clear hbh hbb
      obtain ⟨E1, hE1⟩ : ∃ E1, E1 = encI r1 ++ encI r2 := ⟨_, rfl⟩
      obtain ⟨E2, hE2⟩ : ∃ E2, E2 = encI r3 ++ encI r4 := ⟨_, rfl⟩
      have hl1 : E1.length ≤ 20 := by rw [hE1, List.length_append]; have := encI_length r1; have := encI_length r2; omega
      have hl2 : E2.length ≤ 20 := by rw [hE2, List.length_append]; have := encI_length r3; have := encI_length r4; omega
      have KP1 := putPeriod_any (.slice none 0 0) [] r1 r2 wb a1 a2 b1 b2 (RdB.nil _ _) (by simp)
      have KP2 := fun W => putPeriod_any (.slice none 0 0) [] r3 r4 W d1 d2 e1 e2 (RdB.nil _ _) (by simp)
      rw [List.nil_append, ← hE1] at KP1
      rw [List.nil_append, ← hE2] at KP2
      obtain ⟨M, hM⟩ : ∃ M, M = L ++ E1 := ⟨_, rfl⟩
      have hMl : M.length ≤ 50000020 := by rw [hM, List.length_append]; omega
      have HNX2 : Hid (hdPre t n ls.length ++ hdRs ((ls.map bR).take (k + 1)) = M ++ E2) := Lib.hid (by rw [HNX.out, hM, hE1, hE2]; simp)
      have HM := Lib.hid hM
      clear hE1 hE2 hM
      (with_reducible refine KP1.mono ?_)
      rintro _ w4 ⟨v4, rfl, hO4, hb4⟩
      have hO5 : OwnB w4 w.heap.size (.slice A1 L.length c1) L := own_below HO1.out (HBB.out.trans (hb4.mono (by omega)))
      have HO5 := Lib.hid hO5
      have HR4 := Lib.hid hO4.rd
      have hB4 : Below wi.heap.size wi w4 := HBB.out.trans (hb4.mono (by omega))
      have hs4 := hB4.size
      have HLT4 : Hid (wi.heap.size < w4.heap.size) := Lib.hid (by have := hb4.size; omega)
      have HH4 : Hid (w4.heap[wi.heap.size]? = some (.cells #[.int .i64 r1, .int .i64 r2, .int .i64 r3, .int .i64 r4, .slice Ap pn cp] 81 (0, 0))) := Lib.hid ((hb4.block wi.heap.size (by omega)).trans HBH.out)
      have HBW4 : Hid (Below w.heap.size w w4) := Lib.hid (hB.trans (hB4.mono hsi))
      have hbw4 : w.heap.size ≤ w4.heap.size := HBW4.out.size
      obtain ⟨A4, c4, rfl, x1, x2, x3⟩ := Rd.open_ hO4.rd
      clear hO5 hO4 x3 x2 hb4 KP1
      go_wp2_with (at_builtin; refine wpList_append_b rfl (.tmp 25) (.tmp 29) rfl w.heap.size (.slice A1 L.length c1) L rfl HO5.out (· < w4.heap.size) _ E1 rfl HR4.out (by omega) (by omega) ?_; intro v5 w5 hO6 hb5 hg5 hv5; have hh5 : w5.heap[wi.heap.size]? = some (.cells #[.int .i64 r1, .int .i64 r2, .int .i64 r3, .int .i64 r4, .slice Ap pn cp] 81 (0, 0)) := (hg5.block wi.heap.size HLT4.out (own_not HO5.out HH4.out (by decide))).trans HH4.out; have q2 : w5.cell? ⟨wi.heap.size, 2, none⟩ = some (.int .i64 r3) := cell_of_row w5 _ 2 _ _ _ hh5; have q3 : w5.cell? ⟨wi.heap.size, 3, none⟩ = some (.int .i64 r4) := cell_of_row w5 _ 3 _ _ _ hh5)
      all_goals skip
      have hB5 : Below w.heap.size w w5 := HBW4.out.trans hb5
      have hs5 := hB5.size
      have HO6 := Lib.hid (hO6.cast HM.out.symm)
      have HB5 := Lib.hid hB5
      obtain ⟨A5, c5, rfl, x1, x2, x3⟩ := Rd.open_ (Rd.of_own HO6.out)
      have KP2 := KP2 w5
      clear hO6 hb5 hg5 hv5 hh5 x3 x2 hB5
      (with_reducible refine KP2.mono ?_)
      rintro _ w6 ⟨v6, rfl, hO7, hb6⟩
      have HO8 : Hid (OwnB w6 w.heap.size (.slice A5 M.length c5) M) := Lib.hid (own_below HO6.out hb6)
      have HR7 := Lib.hid hO7.rd
      have HB6 : Hid (Below w.heap.size w w6) := Lib.hid (HB5.out.trans (hb6.mono HB5.out.size))
      have hs6 := HB6.out.size
      obtain ⟨A7, c7, rfl, x1, x2, x3⟩ := Rd.open_ hO7.rd
      clear hO7 x3 x2 hb6 KP2
      go_wp2_with (at_builtin; refine wpList_append_b rfl (.tmp 31) (.tmp 35) rfl w.heap.size (.slice A5 M.length c5) M rfl HO8.out (· < w6.heap.size) _ E2 rfl HR7.out (by omega) (by omega) ?_; intro v8 w8 hO9 hb8 hg8 hv8)
      all_goals skip
      have HOF : Hid (OwnB w8 w.heap.size v8 (hdPre t n ls.length ++ hdRs ((ls.map bR).take (k + 1)))) := Lib.hid (hO9.cast HNX2.out.symm)
      have hBF : Below w.heap.size w w8 := HB6.out.trans hb8
      clear hO9 hb8 hg8 hv8
      go_wp2_with fail
      go_roundw
      case rel => exact ⟨k + 1, by go_num, by omega, HOF, hBF⟩
      case measure => simp [intOf]; omega
end Go.Proofs.YtacjiocffbgkkaaGreat
