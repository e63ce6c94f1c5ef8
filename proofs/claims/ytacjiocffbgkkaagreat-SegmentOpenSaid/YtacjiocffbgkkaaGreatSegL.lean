/-
  The segment's answers: Table, Len, Blocks, clone; overlapping rectangles.
-/
import Derived.Test.YtacjiocffbgkkaaGreatVerJ7
namespace Go.Proofs.YtacjiocffbgkkaaGreat
open Go.RowKit Go.Lib Go.IntWalk Go.Sort Go.Shelf

set_option maxRecDepth 100000 in
theorem segTable_any (P : Nat) (t : List UInt8) (cs : List (List Ver)) (w : World) (h : SegAt w P t cs) :
    Calls Tryz.prog 17 #[.pointer (some ⟨P, 0, none⟩)] w fun e w' => e = .returned (.string (strB t)) ∧ w' = w := by
  obtain ⟨u, ls, h1, h2, h3⟩ := h
  have c0 : w.cell? ⟨P, 0, none⟩ = some (.string (strB t)) := cell_of_row w P 0 _ _ _ h1
  generalize strB t = S at *
  clear h1 h2 h3
  go_enter Tryz.func17, Tryz.ntmps17
  go_wp2_with fail
  go_ret
  exact ⟨rfl, rfl⟩
set_option maxRecDepth 100000 in
theorem segBlocks_any (P : Nat) (t : List UInt8) (cs : List (List Ver)) (w : World) (h : SegAt w P t cs) :
    Calls Tryz.prog 15 #[.pointer (some ⟨P, 0, none⟩)] w fun e w' => e = .returned (.int .i64 (cs.length : Nat)) ∧ w' = w := by
  obtain ⟨u, ls, h1, h2, h3⟩ := h
  have c1 : w.cell? ⟨P, 1, none⟩ = some u := cell_of_row w P 1 _ _ _ h1
  obtain ⟨A, c, rfl, q1, q2, q3⟩ := h2.1.open_
  have hl : cs.length = ls.length := by rw [← h3, List.length_map]
  rw [hl]
  clear h1 h2 h3 q3 hl
  go_enter Tryz.func15, Tryz.ntmps15
  go_wp2_with fail
  go_ret
  exact ⟨rfl, rfl⟩
set_option maxRecDepth 100000 in
set_option maxHeartbeats 4000000 in
theorem segLen_any (P : Nat) (t : List UInt8) (cs : List (List Ver)) (w : World) (h : SegAt w P t cs) (hn : cs.flatten.length ≤ 1099511627776) :
    Calls Tryz.prog 14 #[.pointer (some ⟨P, 0, none⟩)] w fun e w' => e = .returned (.int .i64 (cs.flatten.length : Nat)) ∧ Below w.heap.size w w' := by
  obtain ⟨u, ls, h1, h2, h3⟩ := h
  have c1 : w.cell? ⟨P, 1, none⟩ = some u := cell_of_row w P 1 _ _ _ h1
  obtain ⟨A, c, rfl, q1, q2, q3⟩ := h2.1.open_
  unfold maxLen at q2
  have HBk := Lib.hid h2
  have hfl : ∀ k, ((ls.take k).map (fun p => p.2.length)).sum ≤ cs.flatten.length := fun k => by
    have e1 : cs.flatten.length = (ls.map (fun p => p.2.length)).sum := by rw [← h3, List.length_flatten, List.map_map]; congr 1; simp
    rw [e1]
    conv => rhs; rw [← List.take_append_drop k ls]
    rw [List.map_append, List.sum_append]
    omega
  have HFL := Lib.hid hfl
  have HEQ : Hid (cs.flatten.length = (ls.map (fun p => p.2.length)).sum) := Lib.hid (by rw [← h3, List.length_flatten, List.map_map]; congr 1; simp)
  obtain ⟨nn, hnn⟩ : ∃ nn, nn = cs.flatten.length := ⟨_, rfl⟩
  rw [← hnn] at hn HFL HEQ ⊢
  clear h1 h2 h3 q3 hfl hnn
  go_enter Tryz.func14, Tryz.ntmps14
  go_wp2_with fail
  go_loopw [3, 13] (fun n i wr => ∃ k m : Nat, n = .int .i64 (m : Int) ∧ i = .int .i64 (k : Int) ∧ k ≤ ls.length ∧ Hid (m = ((ls.take k).map (fun p => p.2.length)).sum) ∧ Below w.heap.size w wr) (fun _ i _ => ls.length - (intOf i).toNat)
  case atStart => exact ⟨0, 0, rfl, rfl, Nat.zero_le _, Lib.hid rfl, Below.refl _ _⟩
  case round =>
    obtain ⟨k, m, rfl, rfl, hk, HM, hB⟩ := hrel
    obtain ⟨wi, rfl⟩ : ∃ wi : World, wi = wr := ⟨_, rfl⟩
    have hsi := hB.size
    by_cases hlt : k < ls.length
    case neg =>
      have HF : Hid (m = nn) := Lib.hid (by rw [HM.out, List.take_of_length_le (by omega), HEQ.out])
      go_wp2_with fail
      go_ret
      exact ⟨by rw [HF.out]; rfl, hB⟩
    case pos =>
      obtain ⟨b, off, rfl, hF, hcl, hx⟩ := RdBk.at_ (HBk.out.below hB) hlt
      obtain ⟨Ap, cp, hpv, p1, p2, p3⟩ := hx.1.open_
      unfold maxLen at p2
      have hbe : blkE ls[k] = (bR ls[k]).enc ++ [.slice Ap ls[k].2.length cp] := by rw [← hpv]; rfl
      rw [hbe] at hcl
      have hm2 := HFL.out (k + 1)
      rw [List.take_succ_eq_append_getElem hlt, List.map_append, List.sum_append, ← HM.out] at hm2
      simp only [List.map_cons, List.map_nil, List.sum_cons, List.sum_nil, Nat.add_zero] at hm2
      have HN : Hid (m + ls[k].2.length = ((ls.take (k + 1)).map (fun p => p.2.length)).sum) := Lib.hid (by
        rw [List.take_succ_eq_append_getElem hlt, List.map_append, List.sum_append, ← HM.out]; simp)
      generalize ls[k].2.length = pn at *
      generalize bR ls[k] = r at *
      obtain ⟨r1, r2, r3, r4⟩ := r
      have g0 : wi.cell? ⟨b, off + k * 5, none⟩ = some (.int .i64 r1) := hcl 0 _ (by decide) rfl
      have g1 : wi.cell? ⟨b, off + k * 5 + 1, none⟩ = some (.int .i64 r2) := hcl 1 _ (by decide) rfl
      have g2 : wi.cell? ⟨b, off + k * 5 + 2, none⟩ = some (.int .i64 r3) := hcl 2 _ (by decide) rfl
      have g3 : wi.cell? ⟨b, off + k * 5 + 3, none⟩ = some (.int .i64 r4) := hcl 3 _ (by decide) rfl
      have g4 : wi.cell? ⟨b, off + k * 5 + 4, none⟩ = some (.slice Ap pn cp) := hcl 4 _ (by decide) rfl
      have HBN : Hid (Below w.heap.size w (wi.alloc (.cells #[.int .i64 r1, .int .i64 r2, .int .i64 r3, .int .i64 r4, .slice Ap pn cp] 81))) := Lib.hid (hB.alloc hsi _)
      clear hcl hx hbe hpv p3
      go_wp2_with fail
      go_roundw
      case rel => exact ⟨k + 1, m + pn, by go_num, by go_num, by omega, HN, HBN.out⟩
      case measure => simp [intOf]; omega

set_option maxRecDepth 1000000 in
set_option maxHeartbeats 4000000 in
theorem clone_ver (x1 x2 : Int) (xA : Option Addr) (xn xc : Nat) (x3 x4 x5 x6 x7 x8 : Int) (x : Ver) (w : World) (hx : VerIs w (· < w.heap.size) (⟨x1, x2, xA, xn, xc, x3, x4, x5, x6, x7, x8⟩ : RV) x) (hr : x.row.length ≤ 1099511627776) :
    Calls Tryz.prog 46 #[.agg #[.int .i64 x1, .int .i64 x2, .slice xA xn xc, .int .i64 x3, .int .i64 x4, .int .i64 x5, .int .i64 x6, .int .i64 x7, .int .i64 x8]] w fun e w' => ∃ xA' xc', e = .returned (.agg #[.int .i64 x1, .int .i64 x2, .slice xA' xn xc', .int .i64 x3, .int .i64 x4, .int .i64 x5, .int .i64 x6, .int .i64 x7, .int .i64 x8]) ∧ VerIs w' (fun b => w.heap.size ≤ b ∧ b < w'.heap.size) (⟨x1, x2, xA', xn, xc', x3, x4, x5, x6, x7, x8⟩ : RV) x ∧ Below w.heap.size w w' := by
  have hxn : xn = x.row.length := by
    obtain ⟨A, c, e, _⟩ := Rd.open_ hx.row
    injection e
  have HXN := Lib.hid hxn
  clear hxn
  obtain ⟨W, hW⟩ : ∃ W, W = (w.alloc (.cells #[.int .i64 x1, .int .i64 x2, .slice xA xn xc, .int .i64 x3, .int .i64 x4, .int .i64 x5, .int .i64 x6, .int .i64 x7, .int .i64 x8] 61)).alloc (.cells #[.int .i64 0, .int .i64 0, .slice none 0 0, .int .i64 0, .int .i64 0, .int .i64 0, .int .i64 0, .int .i64 0, .int .i64 0] 61) := ⟨_, rfl⟩
  have hbW : Below w.heap.size w W := by rw [hW]; exact (Below.of_alloc _).alloc (by simp) _
  have hWs : W.heap.size = w.heap.size + 2 := by rw [hW]; simp
  have h1 : W.heap[w.heap.size]? = some (.cells #[.int .i64 x1, .int .i64 x2, .slice xA xn xc, .int .i64 x3, .int .i64 x4, .int .i64 x5, .int .i64 x6, .int .i64 x7, .int .i64 x8] 61 (0, 0)) := by rw [hW]; exact (Below.heap_alloc _ _ _ (by simp)).trans (heap_alloc_new w _)
  have h2 : W.heap[w.heap.size + 1]? = some (.cells #[.int .i64 0, .int .i64 0, .slice none 0 0, .int .i64 0, .int .i64 0, .int .i64 0, .int .i64 0, .int .i64 0, .int .i64 0] 61 (0, 0)) := by
    rw [hW]
    have := heap_alloc_new (w.alloc (.cells #[.int .i64 x1, .int .i64 x2, .slice xA xn xc, .int .i64 x3, .int .i64 x4, .int .i64 x5, .int .i64 x6, .int .i64 x7, .int .i64 x8] 61)) (.cells #[.int .i64 0, .int .i64 0, .slice none 0 0, .int .i64 0, .int .i64 0, .int .i64 0, .int .i64 0, .int .i64 0, .int .i64 0] 61)
    simpa using this
  have KC := cloneV_any _ x.row W ((Rd.keep hx.row (Keeps.below hbW)).wide (fun b (hb : b < w.heap.size) => by show b < W.heap.size; omega)) hr
  have HX := Lib.hid hx
  have H1 := Lib.hid h1
  have H2 := Lib.hid h2
  have HBW := Lib.hid hbW
  clear hx h1 h2 hbW
  go_enter Tryz.func46, Tryz.ntmps46
  go_wp2_with fail
  rw [← hW]
  clear hW
  (with_reducible refine KC.mono ?_)
  rintro _ w2 ⟨u, rfl, hO, hb2⟩
  obtain ⟨A', c', hu, _, _, _⟩ := Rd.open_ (Rd.of_own hO)
  rw [← HXN.out] at hu
  subst hu
  have HO := Lib.hid hO
  have HB2 := Lib.hid hb2
  have e1 := (hb2.block w.heap.size (by omega)).trans H1.out
  have e2 := (hb2.block (w.heap.size + 1) (by omega)).trans H2.out
  have hs2 := hb2.size
  have p0 : w2.cell? ⟨w.heap.size, 0, none⟩ = some (.int .i64 x1) := cell_of_row w2 _ 0 _ _ _ e1; have p1 : w2.cell? ⟨w.heap.size, 1, none⟩ = some (.int .i64 x2) := cell_of_row w2 _ 1 _ _ _ e1; have p2 : w2.cell? ⟨w.heap.size, 2, none⟩ = some (.slice xA xn xc) := cell_of_row w2 _ 2 _ _ _ e1; have p3 : w2.cell? ⟨w.heap.size, 3, none⟩ = some (.int .i64 x3) := cell_of_row w2 _ 3 _ _ _ e1; have p4 : w2.cell? ⟨w.heap.size, 4, none⟩ = some (.int .i64 x4) := cell_of_row w2 _ 4 _ _ _ e1; have p5 : w2.cell? ⟨w.heap.size, 5, none⟩ = some (.int .i64 x5) := cell_of_row w2 _ 5 _ _ _ e1; have p6 : w2.cell? ⟨w.heap.size, 6, none⟩ = some (.int .i64 x6) := cell_of_row w2 _ 6 _ _ _ e1; have p7 : w2.cell? ⟨w.heap.size, 7, none⟩ = some (.int .i64 x7) := cell_of_row w2 _ 7 _ _ _ e1; have p8 : w2.cell? ⟨w.heap.size, 8, none⟩ = some (.int .i64 x8) := cell_of_row w2 _ 8 _ _ _ e1
  have pf : w2.frozen? ⟨w.heap.size, 2, none⟩ = false := frozen_of_row w2 _ 2 _ _ e1
  have HS : Hid ((w2.setCell ⟨w.heap.size, 2, none⟩ (.slice A' xn c')).heap[w.heap.size + 1]? = some (.cells #[.int .i64 0, .int .i64 0, .slice none 0 0, .int .i64 0, .int .i64 0, .int .i64 0, .int .i64 0, .int .i64 0, .int .i64 0] 61 (0, 0))) := Lib.hid ((Below.heap_setCell _ _ _ _ (by show w.heap.size + 1 ≠ w.heap.size; omega)).trans e2)
  have q0 : w2.cell? ⟨w.heap.size + 1, 0, none⟩ = some (.int .i64 0) := cell_of_row w2 _ 0 _ _ _ e2; have z0 : w2.frozen? ⟨w.heap.size + 1, 0, none⟩ = false := frozen_of_row w2 _ 0 _ _ e2; have q1 : w2.cell? ⟨w.heap.size + 1, 1, none⟩ = some (.int .i64 0) := cell_of_row w2 _ 1 _ _ _ e2; have z1 : w2.frozen? ⟨w.heap.size + 1, 1, none⟩ = false := frozen_of_row w2 _ 1 _ _ e2; have q2 : w2.cell? ⟨w.heap.size + 1, 2, none⟩ = some (.slice none 0 0) := cell_of_row w2 _ 2 _ _ _ e2; have z2 : w2.frozen? ⟨w.heap.size + 1, 2, none⟩ = false := frozen_of_row w2 _ 2 _ _ e2; have q3 : w2.cell? ⟨w.heap.size + 1, 3, none⟩ = some (.int .i64 0) := cell_of_row w2 _ 3 _ _ _ e2; have z3 : w2.frozen? ⟨w.heap.size + 1, 3, none⟩ = false := frozen_of_row w2 _ 3 _ _ e2; have q4 : w2.cell? ⟨w.heap.size + 1, 4, none⟩ = some (.int .i64 0) := cell_of_row w2 _ 4 _ _ _ e2; have z4 : w2.frozen? ⟨w.heap.size + 1, 4, none⟩ = false := frozen_of_row w2 _ 4 _ _ e2; have q5 : w2.cell? ⟨w.heap.size + 1, 5, none⟩ = some (.int .i64 0) := cell_of_row w2 _ 5 _ _ _ e2; have z5 : w2.frozen? ⟨w.heap.size + 1, 5, none⟩ = false := frozen_of_row w2 _ 5 _ _ e2; have q6 : w2.cell? ⟨w.heap.size + 1, 6, none⟩ = some (.int .i64 0) := cell_of_row w2 _ 6 _ _ _ e2; have z6 : w2.frozen? ⟨w.heap.size + 1, 6, none⟩ = false := frozen_of_row w2 _ 6 _ _ e2; have q7 : w2.cell? ⟨w.heap.size + 1, 7, none⟩ = some (.int .i64 0) := cell_of_row w2 _ 7 _ _ _ e2; have z7 : w2.frozen? ⟨w.heap.size + 1, 7, none⟩ = false := frozen_of_row w2 _ 7 _ _ e2; have q8 : w2.cell? ⟨w.heap.size + 1, 8, none⟩ = some (.int .i64 0) := cell_of_row w2 _ 8 _ _ _ e2; have z8 : w2.frozen? ⟨w.heap.size + 1, 8, none⟩ = false := frozen_of_row w2 _ 8 _ _ e2
  clear hO hb2 KC e1 e2
  go_wp2_with fail
  have hN := nine_set HS.out (.int .i64 x1) (.int .i64 x2) (.slice A' xn c') (.int .i64 x3) (.int .i64 x4) (.int .i64 x5) (.int .i64 x6) (.int .i64 x7) (.int .i64 x8)
  have hNc := nine_chg (w2.setCell ⟨w.heap.size, 2, none⟩ (.slice A' xn c')) (w.heap.size + 1) (.int .i64 x1) (.int .i64 x2) (.slice A' xn c') (.int .i64 x3) (.int .i64 x4) (.int .i64 x5) (.int .i64 x6) (.int .i64 x7) (.int .i64 x8)
  generalize ((((((((((w2.setCell ⟨w.heap.size, 2, none⟩ (.slice A' xn c')).setCell ⟨w.heap.size + 1, 0, none⟩ (.int .i64 x1)).setCell ⟨w.heap.size + 1, 1, none⟩ (.int .i64 x2)).setCell ⟨w.heap.size + 1, 2, none⟩ (.slice A' xn c')).setCell ⟨w.heap.size + 1, 3, none⟩ (.int .i64 x3)).setCell ⟨w.heap.size + 1, 4, none⟩ (.int .i64 x4)).setCell ⟨w.heap.size + 1, 5, none⟩ (.int .i64 x5)).setCell ⟨w.heap.size + 1, 6, none⟩ (.int .i64 x6)).setCell ⟨w.heap.size + 1, 7, none⟩ (.int .i64 x7)).setCell ⟨w.heap.size + 1, 8, none⟩ (.int .i64 x8)) = Y at *
  have y0 : Y.cell? ⟨w.heap.size + 1, 0, none⟩ = some (.int .i64 x1) := cell_of_row Y _ 0 _ _ _ hN; have y1 : Y.cell? ⟨w.heap.size + 1, 1, none⟩ = some (.int .i64 x2) := cell_of_row Y _ 1 _ _ _ hN; have y2 : Y.cell? ⟨w.heap.size + 1, 2, none⟩ = some (.slice A' xn c') := cell_of_row Y _ 2 _ _ _ hN; have y3 : Y.cell? ⟨w.heap.size + 1, 3, none⟩ = some (.int .i64 x3) := cell_of_row Y _ 3 _ _ _ hN; have y4 : Y.cell? ⟨w.heap.size + 1, 4, none⟩ = some (.int .i64 x4) := cell_of_row Y _ 4 _ _ _ hN; have y5 : Y.cell? ⟨w.heap.size + 1, 5, none⟩ = some (.int .i64 x5) := cell_of_row Y _ 5 _ _ _ hN; have y6 : Y.cell? ⟨w.heap.size + 1, 6, none⟩ = some (.int .i64 x6) := cell_of_row Y _ 6 _ _ _ hN; have y7 : Y.cell? ⟨w.heap.size + 1, 7, none⟩ = some (.int .i64 x7) := cell_of_row Y _ 7 _ _ _ hN; have y8 : Y.cell? ⟨w.heap.size + 1, 8, none⟩ = some (.int .i64 x8) := cell_of_row Y _ 8 _ _ _ hN
  have hsY : w2.heap.size ≤ Y.heap.size := by have := hNc.size; simpa using this
  have hbk : ∀ b, b < w2.heap.size → b ≠ w.heap.size → b ≠ w.heap.size + 1 → Y.heap[b]? = w2.heap[b]? := fun b hb hn1 hn2 => (hNc.block b (by simpa using hb) hn2).trans (Below.heap_setCell _ _ _ _ (by show b ≠ w.heap.size; exact hn1))
  have hBY : Below w.heap.size w Y := (HBW.out.trans (HB2.out.mono (by omega))).trans ((Chg.below (S := fun i => i = w.heap.size ∨ i = w.heap.size + 1) (((Chg.refl _ _).setCell (p := ⟨w.heap.size, 2, none⟩) (.inl (.inl rfl)) _).trans hNc (fun i _ h => .inr h)) (by omega) (fun b hb => by omega)))
  have hrow : RdV Y (fun b => w.heap.size ≤ b ∧ b < Y.heap.size) (.slice A' xn c') x.row := (Rd.keep (Rd.of_own HO.out) (fun b hb => hbk b hb.2 (by have := hb.1; omega) (by have := hb.1; omega))).wide (fun b hb => ⟨by have := hb.1; omega, by have := hb.2; omega⟩)
  exact bodyPost_ret (v := .agg #[.int .i64 x1, .int .i64 x2, .slice A' xn c', .int .i64 x3, .int .i64 x4, .int .i64 x5, .int .i64 x6, .int .i64 x7, .int .i64 x8]) (by simp [results, Tryz.results46, go_sem, y0, y1, y2, y3, y4, y5, y6, y7, y8]) rfl ⟨A', c', rfl, ⟨HX.out.id, HX.out.sch, HX.out.vf, HX.out.vt, HX.out.sf, HX.out.st, HX.out.by_, HX.out.un, hrow, HX.out.ok⟩, hBY⟩
end Go.Proofs.YtacjiocffbgkkaaGreat
