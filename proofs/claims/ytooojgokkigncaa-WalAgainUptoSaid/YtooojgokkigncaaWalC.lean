/-
  Logs: Open.
-/
import Derived.Test.YtooojgokkigncaaWalB
namespace Go.Proofs.Ytooojgokkigncaa
open Go.RowKit Go.Lib Go.IntWalk

/-- the files and buffered operations behind Open -/
def openD (fm : FM) (os : List DOp) (nm : List UInt8) : FM × List DOp :=
  if (scanF ((viewF fm os nm).getD [])).2 < ((viewF fm os nm).getD []).length then
    (viewF fm (repOps fm os nm (((viewF fm os nm).getD []).take (scanF ((viewF fm os nm).getD [])).2)), [])
  else (fm, os)
/-- what Open leaves -/
def WOpen (B Z D : Nat) (P : Option Nat) (d : FM × List DOp) (recs : List (List UInt8)) (nm : List UInt8) (w0 : World) (e : Ending) (w : World) : Prop :=
  ∃ L v P', e = .returned (.tuple #[.pointer (some ⟨L, 0, none⟩), v, .int .i64 0]) ∧ w0.heap.size ≤ L ∧ LogIs w L (recs.length : Int) (fsum recs : Int) D nm ∧ DatL B w v recs ∧ DiskAt B Z w D P' d.1 d.2 ∧ (P' = none ∨ P' = P) ∧ Chg (fun b => b = D ∨ some b = P) w0 w

theorem RdB.take {w : World} {F : Nat → Prop} {A : Option Addr} {c : Nat} {l : List UInt8} (h : RdB w F (.slice A l.length c) l) (m : Nat) (hm : m ≤ l.length) : RdB w F (.slice A m c) (l.take m) := by
  have := Rd.pre h hm
  unfold RdB
  rw [List.length_take, Nat.min_eq_left hm]
  rw [Nat.mul_one] at this
  have e : bv (l.take m) = (bv l).take m := by simp [bv]
  rw [e]
  exact this
theorem fsum_take {rs : List (List UInt8)} {k : Nat} {r : List UInt8} (h : rs[k]? = some r) : fsum (rs.take (k + 1)) = fsum (rs.take k) + r.length + 8 := by
  obtain ⟨hk, e⟩ := List.getElem?_eq_some_iff.1 h
  rw [List.take_succ_eq_append_getElem hk, fsum_append, e]
  simp [fsum]; omega
theorem fsum_take_le (rs : List (List UInt8)) (k : Nat) : fsum (rs.take k) ≤ fsum rs := by
  conv => rhs; rw [← List.take_append_drop k rs]
  rw [fsum_append]; omega

set_option maxHeartbeats 1000000 in
theorem wopen_bad (B Z D : Nat) (P : Option Nat) (fm : FM) (os : List DOp) (nm : List UInt8) (w : World) (hB : B ≤ w.heap.size) (hD : DiskAt B Z w D P fm os) (hw : wordF nm = false) :
    Calls Try.prog 13 #[.pointer (some ⟨D, 0, none⟩), .string (strB nm)] w fun e w' => e = .returned (.tuple #[.pointer none, .slice none 0 0, .int .i64 8]) ∧ DiskAt B Z w' D P fm os ∧ Below w.heap.size w w' := by
  have CW := Lib.hid (wword_any nm w)
  have HW := Lib.hid hw
  clear hw
  go_enter Try.func13, Try.ntmps13
  go_wp2_with fail
  (with_reducible refine CW.out.mono ?_)
  rintro e w1 ⟨rfl, hb1⟩
  rw [HW.out]
  go_wp2_with fail
  go_ret3
  exact ⟨rfl, hD.below hB hb1, hb1⟩

set_option maxRecDepth 100000 in
set_option maxHeartbeats 4000000 in
theorem wopen_ok (B Z D : Nat) (P : Option Nat) (fm : FM) (os : List DOp) (nm : List UInt8) (w : World) (hB : B ≤ w.heap.size) (hD : DiskAt B Z w D P fm os) (hw : wordF nm = true) (hZ : Z ≤ 1073741824) :
    Calls Try.prog 13 #[.pointer (some ⟨D, 0, none⟩), .string (strB nm)] w (WOpen B (2 * Z + 3) D P (openD fm os nm) (scanF ((viewF fm os nm).getD [])).1 nm w) := by
  have hnl : nm.length ≤ maxLen := by
    unfold wordF at hw; simp only [Bool.and_eq_true, decide_eq_true_eq] at hw; unfold maxLen; omega
  have CW := Lib.hid (wword_any nm w)
  have HW := Lib.hid hw
  clear hw
  have hZs : DSz Z fm os := by obtain ⟨M0, n0, g0, pv, hb, hBD, hBM, hM, hn, hG, hP, hZs, _⟩ := hD; exact hZs
  have hln := hZs.view.get nm
  have HOD : Hid (openD fm os nm = if (scanF ((viewF fm os nm).getD [])).2 < ((viewF fm os nm).getD []).length then
    (viewF fm (repOps fm os nm (((viewF fm os nm).getD []).take (scanF ((viewF fm os nm).getD [])).2)), []) else (fm, os)) := Lib.hid rfl
  generalize openD fm os nm = od at *
  have CD := fun w1 (h1 : B ≤ w1.heap.size) (h2 : DiskAt B Z w1 D P fm os) => dread_any B Z D fm os nm w1 h1 h2.rd (by omega) hnl
  generalize viewF fm os nm = vo at *
  have HCD := Lib.hid CD
  clear CD
  have hinv := scanF_inv (vo.getD [])
  have CSC := Lib.hid (fun (v : Value) (w : World) (hv : RdB w (· < w.heap.size) v (vo.getD [])) => scan_any v (vo.getD []) w hv (by omega))
  have hvl : (vo.getD []).length ≤ Z := by omega
  generalize scanF (vo.getD []) = sr at *
  obtain ⟨recs, en⟩ := sr
  simp only at hinv HOD ⊢
  have HINV := Lib.hid hinv
  have hen : en ≤ (vo.getD []).length := hinv.2.2
  have hrl : recs.length ≤ Z := by have := fsum_ge recs; have := hinv.1; omega
  have hfs : fsum recs ≤ Z := by have := hinv.1; omega
  clear hinv hln
  generalize hbl : vo.getD [] = bl at *
  have HBL := Lib.hid hbl
  clear hbl
  -- from the new log on
  have HREST : Hid (∀ (w4 : World) (P4 : Option Nat) (v2 : Value) (wl : World), True) := Lib.hid (fun _ _ _ _ => trivial)
  clear HREST
  obtain ⟨j0, hj, _, _, _⟩ := info_parts infoB
  have HJ := Lib.hid hj
  clear hj
  go_enter Try.func13, Try.ntmps13
  go_wp2_with fail
  (with_reducible refine CW.out.mono ?_)
  rintro e w1 ⟨rfl, hb1⟩
  rw [HW.out]
  have hB1 : B ≤ w1.heap.size := by have := hb1.size; omega
  have hD1 := hD.below hB hb1
  go_wp2_with fail
  (with_reducible refine (HCD.out w1 hB1 hD1).mono ?_)
  rintro e w2 ⟨v2, rfl, hO2, hb2⟩
  rw [HBL.out] at hO2
  have hB2 : B ≤ w2.heap.size := by have := hb2.size; omega
  have hD2 := hD1.below hB1 hb2
  go_wp2_with fail
  (with_reducible refine (CSC.out v2 w2 hO2.rd).mono ?_)
  rintro e w3 ⟨v3, rfl, hL3, hb3⟩
  have hB3 : B ≤ w3.heap.size := by have := hb3.size; omega
  have hD3 := hD2.below hB2 hb3
  have hO3 := hO2.below hb3
  have hR3 : DatL B w3 v3 recs := hL3.dat
  have hb13 : Below w.heap.size w w3 := hb1.trans ((hb2.trans (hb3.mono hb2.size)).mono hb1.size)
  obtain ⟨A2, c2, rfl, p1, p2, p3⟩ := Rd.open_ hO3.rd
  have HP3 := Lib.hid p3
  clear p3
  obtain ⟨A3, c3, rfl, s1, s2, s3⟩ := hR3.open_
  have HS3 := Lib.hid s3
  clear s3
  unfold maxLen at p2 s2
  -- both ways come to a disk, then to the log
  have HLOOP : Hid (∀ (w4 : World) (P4 : Option Nat), True) := Lib.hid (fun _ _ => trivial)
  clear HLOOP
  by_cases hlt : en < bl.length
  · have hq : (en : Int) < (bl.length : Int) := by omega
    have HOD2 : Hid (od = (viewF fm (repOps fm os nm (bl.take en)), [])) := Lib.hid (by rw [HOD.out, if_pos hlt])
    have hsl := run_slice_hi (P := Try.prog) Try.underlying23 HJ.out A2 bl.length c2 en (by omega)
    have hcut : DatB B w3 (.slice A2 en c2) (bl.take en) := DatB.take (DatB.of_own hO3) en hen
    have hcl : (bl.take en).length ≤ 1073741824 := by rw [List.length_take]; omega
    clear HOD
    go_wp2_with fail
    (with_reducible refine (repair_any B Z D P fm os nm _ (bl.take en) w3 hB3 hD3 HW.out hcut hcl hZ).mono ?_)
    rintro e w4 ⟨u4, rfl, hD4, hC4⟩
    have hB4 : B ≤ w4.heap.size := by have := hC4.size; omega
    have hR4 := hR3.chg hB3 hC4 hD3.br hD3.lr
    have hCw : Chg (fun b => b = D ∨ some b = P) w w4 := (Chg.of_below hb13 _).trans hC4 (fun _ _ h => h)
    clear hsl hcut
    go_wp2_with fail
    go_loopw [48] (fun i wr => ∃ k : Nat, k ≤ recs.length ∧ i = .int .i64 (k : Int) ∧ LogIs wr w4.heap.size (k : Int) (fsum (recs.take k) : Int) D nm ∧ Chg (· = w4.heap.size) (w4.alloc (.cells #[.int .i64 0, .int .i64 0, .pointer (some ⟨D, 0, none⟩), .string (strB nm)] 87)) wr) (fun i _ => recs.length - (intOf i).toNat)
    case atStart => exact ⟨0, Nat.zero_le _, rfl, heap_alloc_new w4 _, Chg.refl _ _⟩
    case round =>
      obtain ⟨k, hk, rfl, hLk, hCk⟩ := hrel
      have hBa : B ≤ (w4.alloc (.cells #[.int .i64 0, .int .i64 0, .pointer (some ⟨D, 0, none⟩), .string (strB nm)] 87)).heap.size := by simp; omega
      have hna : NK (w4.alloc (.cells #[.int .i64 0, .int .i64 0, .pointer (some ⟨D, 0, none⟩), .string (strB nm)] 87)) w4.heap.size := ⟨_, _, _, heap_alloc_new w4 _, by decide, by decide, by decide⟩
      have hnl' : ∀ b, LR B (w4.alloc (.cells #[.int .i64 0, .int .i64 0, .pointer (some ⟨D, 0, none⟩), .string (strB nm)] 87)) b → ¬ b = w4.heap.size := by
        rintro b (h | ⟨cs, h⟩) rfl
        · omega
        · rw [heap_alloc_new w4] at h; simp only [Option.some.injEq, Obj.cells.injEq] at h; exact absurd h.2.1 (by decide)
      have hRk : DatL B wr (.slice A3 recs.length c3) recs := (hR4.below hB4 (Below.of_alloc _)).chg hBa hCk (fun b hb h => by subst h; exact NK.br hB4 hna hb) hnl'
      by_cases hlk : k < recs.length
      · have hrk : recs[k]? = some recs[k] := List.getElem?_eq_getElem hlk
        obtain ⟨bb, ob, ub, rfl, gb, db⟩ := DatL.elem hRk hrk
        have hrb := HINV.out.2.1 _ (List.getElem_mem hlk)
        have HFT := Lib.hid (fsum_take hrk)
        have hfk := fsum_take_le recs k
        obtain ⟨Xb, xb, rfl, _, _, _⟩ := Rd.open_ db
        generalize recs[k] = r at *
        have HLN : Hid (lenF (r.length : Int) = r.length + 8) := Lib.hid (by unfold lenF; rw [if_neg (by omega)])
        clear hrk
        go_wp2_with fail
        (with_reducible refine (count_any w4.heap.size D (k : Int) (fsum (recs.take k) : Int) _ nm wr hLk ?_ ?_ ?_ ?_).mono ?_)
        · omega
        · omega
        · omega
        · omega
        rintro e w5 ⟨u5, rfl, hL5, hC5⟩
        rw [HLN.out] at hL5
        go_wp2_with fail
        go_roundw
        case rel =>
          refine ⟨k + 1, by omega, by go_num, ?_, hCk.trans hC5 (fun _ _ h => h)⟩
          rw [HFT.out]
          push_cast
          rw [Int.add_assoc]
          exact hL5
        case measure => simp [intOf]; omega
      · have hke : k = recs.length := by omega
        have HK := Lib.hid hke
        clear hke
        go_wp2_with fail
        go_ret3
        refine ⟨w4.heap.size, _, none, rfl, by have := hCw.size; omega, ?_, hRk, ?_, .inl rfl, ?_⟩
        · have := hLk
          rw [HK.out, List.take_length] at this
          exact this
        · rw [HOD2.out]
          exact ((hD4.below hB4 (Below.of_alloc _)).keep hBa hCk (fun b hb => by subst hb; exact ⟨hB4, hna⟩)).mono (by rw [List.length_take]; omega)
        · exact (hCw.alloc _).trans hCk (fun i hi h => by have := hCw.size; omega)
  · have hq : ¬ (en : Int) < (bl.length : Int) := by omega
    have HOD2 : Hid (od = (fm, os)) := Lib.hid (by rw [HOD.out, if_neg hlt])
    have hCw : Chg (fun b => b = D ∨ some b = P) w w3 := Chg.of_below hb13 _
    clear HOD
    go_wp2_with fail
    go_loopw [48] (fun i wr => ∃ k : Nat, k ≤ recs.length ∧ i = .int .i64 (k : Int) ∧ LogIs wr w3.heap.size (k : Int) (fsum (recs.take k) : Int) D nm ∧ Chg (· = w3.heap.size) (w3.alloc (.cells #[.int .i64 0, .int .i64 0, .pointer (some ⟨D, 0, none⟩), .string (strB nm)] 87)) wr) (fun i _ => recs.length - (intOf i).toNat)
    case atStart => exact ⟨0, Nat.zero_le _, rfl, heap_alloc_new w3 _, Chg.refl _ _⟩
    case round =>
      obtain ⟨k, hk, rfl, hLk, hCk⟩ := hrel
      have hBa : B ≤ (w3.alloc (.cells #[.int .i64 0, .int .i64 0, .pointer (some ⟨D, 0, none⟩), .string (strB nm)] 87)).heap.size := by simp; omega
      have hna : NK (w3.alloc (.cells #[.int .i64 0, .int .i64 0, .pointer (some ⟨D, 0, none⟩), .string (strB nm)] 87)) w3.heap.size := ⟨_, _, _, heap_alloc_new w3 _, by decide, by decide, by decide⟩
      have hnl' : ∀ b, LR B (w3.alloc (.cells #[.int .i64 0, .int .i64 0, .pointer (some ⟨D, 0, none⟩), .string (strB nm)] 87)) b → ¬ b = w3.heap.size := by
        rintro b (h | ⟨cs, h⟩) rfl
        · omega
        · rw [heap_alloc_new w3] at h; simp only [Option.some.injEq, Obj.cells.injEq] at h; exact absurd h.2.1 (by decide)
      have hRk : DatL B wr (.slice A3 recs.length c3) recs := (hR3.below hB3 (Below.of_alloc _)).chg hBa hCk (fun b hb h => by subst h; exact NK.br hB3 hna hb) hnl'
      by_cases hlk : k < recs.length
      · have hrk : recs[k]? = some recs[k] := List.getElem?_eq_getElem hlk
        obtain ⟨bb, ob, ub, rfl, gb, db⟩ := DatL.elem hRk hrk
        have hrb := HINV.out.2.1 _ (List.getElem_mem hlk)
        have HFT := Lib.hid (fsum_take hrk)
        have hfk := fsum_take_le recs k
        obtain ⟨Xb, xb, rfl, _, _, _⟩ := Rd.open_ db
        generalize recs[k] = r at *
        have HLN : Hid (lenF (r.length : Int) = r.length + 8) := Lib.hid (by unfold lenF; rw [if_neg (by omega)])
        clear hrk
        go_wp2_with fail
        (with_reducible refine (count_any w3.heap.size D (k : Int) (fsum (recs.take k) : Int) _ nm wr hLk ?_ ?_ ?_ ?_).mono ?_)
        · omega
        · omega
        · omega
        · omega
        rintro e w5 ⟨u5, rfl, hL5, hC5⟩
        rw [HLN.out] at hL5
        go_wp2_with fail
        go_roundw
        case rel =>
          refine ⟨k + 1, by omega, by go_num, ?_, hCk.trans hC5 (fun _ _ h => h)⟩
          rw [HFT.out]
          push_cast
          rw [Int.add_assoc]
          exact hL5
        case measure => simp [intOf]; omega
      · have hke : k = recs.length := by omega
        have HK := Lib.hid hke
        clear hke
        go_wp2_with fail
        go_ret3
        refine ⟨w3.heap.size, _, P, rfl, by have := hCw.size; omega, ?_, hRk, ?_, .inr rfl, ?_⟩
        · have := hLk
          rw [HK.out, List.take_length] at this
          exact this
        · rw [HOD2.out]
          exact ((hD3.below hB3 (Below.of_alloc _)).keep hBa hCk (fun b hb => by subst hb; exact ⟨hB3, hna⟩)).mono (by omega)
        · exact (hCw.alloc _).trans hCk (fun i hi h => by have := hCw.size; omega)
end Go.Proofs.Ytooojgokkigncaa
