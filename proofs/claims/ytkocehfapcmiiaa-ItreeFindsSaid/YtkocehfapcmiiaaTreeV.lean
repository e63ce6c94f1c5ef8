/-
  One operation on the tree and on the reference; the law about what operations answer.
-/
import Derived.Test.YtkocehfapcmiiaaTreeU
namespace Go.Proofs.Ytkocehfapcmiiaa
open Go.RowKit Go.Lib Go.IntWalk

def stepF (k : Int) (x : It) (l : List It) : List It := if k = 0 then addF x l else remF x l
theorem len_stepF (k : Int) (x : It) (l : List It) : (stepF k x l).length ≤ l.length + 1 := by
  unfold stepF
  split
  · exact len_addF x l
  · exact Nat.le_trans (len_remF' x l) (by omega)
theorem vld_stepF {k : Int} {x : It} {l : List It} (h : ∀ i ∈ l, vldP i.fr i.to = true) : ∀ i ∈ stepF k x l, vldP i.fr i.to = true := by
  intro i hi
  unfold stepF at hi
  split at hi
  · rcases mem_addF.1 hi with hi | ⟨rfl, hi⟩
    · exact h i hi
    · exact hi
  · exact h i (mem_remF.1 hi).1
/-- the tree and the reference's row say one thing -/
def Both (B : Nat) (w0 w : World) (T : Nat) (A : Option Addr) (c : Nat) (l : List It) : Prop :=
  ∃ t : Tr, t.items = l ∧ Mine B w0 w T t ∧ DatIt B w (.slice A l.length c) l
theorem Both.below {B : Nat} {w0 w w' : World} {T : Nat} {A : Option Addr} {c : Nat} {l : List It} (h : Both B w0 w T A c l) (hb : Below w.heap.size w w') : Both B w0 w' T A c l := by
  obtain ⟨t, h1, h2, h3⟩ := h
  exact ⟨t, h1, h2.below hb, h3.below h2.2.2.2 hb⟩
def StepOut (B : Nat) (w0 : World) (T : Nat) (l : List It) (e : Ending) (w : World) : Prop :=
  ∃ A c, e = .returned (.tuple #[.slice A l.length c, .bool true]) ∧ Hid (A = none → c = 0) ∧ l.length ≤ c ∧ c ≤ maxLen ∧ Both B w0 w T A c l

set_option maxRecDepth 100000 in
set_option maxHeartbeats 4000000 in
theorem do_any (B : Nat) (w0 : World) (T : Nat) (A : Option Addr) (c : Nat) (l : List It) (k p q n : Int) (w : World) (h : Both B w0 w T A c l) (hl : l.length ≤ 1000) :
    Calls Try.prog 22 #[.pointer (some ⟨T, 0, none⟩), .slice A l.length c, opV k p q n] w (StepOut B w0 T (stepF k ⟨p, q, n⟩ l)) := by
  obtain ⟨t, hti, hm, hd⟩ := h
  obtain ⟨V, hV⟩ : ∃ V, V = w.alloc (.cells #[.int .i64 k, .int .i64 p, .int .i64 q, .int .i64 n] 46) := ⟨_, rfl⟩
  have hbV : Below w.heap.size w V := by rw [hV]; exact Below.of_alloc _
  have hPV : V.heap[w.heap.size]? = some (.cells #[.int .i64 k, .int .i64 p, .int .i64 q, .int .i64 n] 46 (0, 0)) := by rw [hV]; exact heap_alloc_new w _
  have d0 : V.cell? ⟨w.heap.size, 0, none⟩ = some (.int .i64 k) := cell_of_row _ _ 0 _ _ _ hPV
  have d1 : V.cell? ⟨w.heap.size, 1, none⟩ = some (.int .i64 p) := cell_of_row _ _ 1 _ _ _ hPV
  have d2 : V.cell? ⟨w.heap.size, 2, none⟩ = some (.int .i64 q) := cell_of_row _ _ 2 _ _ _ hPV
  have d3 : V.cell? ⟨w.heap.size, 3, none⟩ = some (.int .i64 n) := cell_of_row _ _ 3 _ _ _ hPV
  have y1 := d1; have y2 := d2; have y3 := d3
  have hsV : w.heap.size < V.heap.size := (Array.getElem?_eq_some_iff.1 hPV).1
  rw [hV] at d0 d1 d2 d3
  have hmV := hm.below hbV
  have hdV := hd.below hm.2.2.2 hbV
  have HV := Lib.hid hV
  have hBV := hmV.2.2.2
  clear hV hPV hbV hm hd
  obtain ⟨_, _, e', x1, x2, x3⟩ := hdV.open_
  have HX3 := Lib.hid x3
  have HX2 := Lib.hid x2
  clear x2 x3 e'
  unfold stepF
  by_cases hk : k = 0
  · subst hk
    rw [if_pos rfl]
    have CR := Lib.hid (radd_any B _ l p q n V hBV hdV hl)
    clear hdV
    go_enter Try.func22, Try.ntmps22
    go_wp2_with fail
    rw [← HV.out]
    (with_reducible refine CR.out.mono ?_)
    rintro e1 w1 ⟨A1, k1, rfl, H1, h11, h12, hD1, hb1⟩
    clear CR d0 d1 d2 d3
    have hm1 := hmV.below hb1
    have u1 := (hb1.cell (p := ⟨w.heap.size, 1, none⟩) hsV).trans y1
    have u2 := (hb1.cell (p := ⟨w.heap.size, 2, none⟩) hsV).trans y2
    have u3 := (hb1.cell (p := ⟨w.heap.size, 3, none⟩) hsV).trans y3
    have CT := Lib.hid (tadd_m p q n l _ _ hm1 hti (by omega) rfl rfl)
    generalize hbo : addB ⟨p, q, n⟩ l = bo at *
    have HBO := Lib.hid hbo
    clear hbo hmV hb1
    go_wp2_with fail
    (with_reducible refine CT.out.mono ?_)
    rintro e2 w2 ⟨rfl, t2, hi2, hm2, hc2, _⟩
    clear CT u1 u2 u3
    have hbb : (bo == bo) = true := beq_self_eq_true bo
    go_wp2_with fail
    go_ret2
    exact ⟨A1, k1, rfl, H1, h11, h12, t2, hi2, hm2, hD1.chg hm1.2.2.2 hc2 hm1.apart⟩
  · rw [if_neg hk]
    have hkb : (k == 0) = false := by rw [beq_eq_false_iff_ne]; exact hk
    have CR := Lib.hid (rrem_any B _ l p q n V hBV hdV hl)
    clear hdV
    go_enter Try.func22, Try.ntmps22
    go_wp2_with fail
    rw [← HV.out]
    (with_reducible refine CR.out.mono ?_)
    rintro e1 w1 ⟨A1, k1, rfl, H1, h11, h12, hD1, hb1⟩
    clear CR d0 d1 d2 d3
    have hm1 := hmV.below hb1
    have u1 := (hb1.cell (p := ⟨w.heap.size, 1, none⟩) hsV).trans y1
    have u2 := (hb1.cell (p := ⟨w.heap.size, 2, none⟩) hsV).trans y2
    have u3 := (hb1.cell (p := ⟨w.heap.size, 3, none⟩) hsV).trans y3
    have CT := Lib.hid (trem_m p q n l _ _ hm1 hti (by omega) rfl rfl)
    generalize hbo : decide ((⟨p, q, n⟩ : It) ∈ l) = bo at *
    have HBO := Lib.hid hbo
    clear hbo hmV hb1
    go_wp2_with fail
    (with_reducible refine CT.out.mono ?_)
    rintro e2 w2 ⟨rfl, t2, hi2, hm2, hc2, _⟩
    clear CT u1 u2 u3
    have hbb : (bo == bo) = true := beq_self_eq_true bo
    go_wp2_with fail
    go_ret2
    exact ⟨A1, k1, rfl, H1, h11, h12, t2, hi2, hm2, hD1.chg hm1.2.2.2 hc2 hm1.apart⟩

def MadeOut (w0 : World) (n : Nat) (e : Ending) (w : World) : Prop :=
  ∃ A c L, e = .returned (.tuple #[.pointer (some ⟨w0.heap.size, 0, none⟩), .slice A L.length c]) ∧ Hid (A = none → c = 0) ∧ L.length ≤ c ∧ c ≤ maxLen ∧ L.length ≤ n ∧ Hid (∀ i ∈ L, vldP i.fr i.to = true) ∧ Both w0.heap.size w0 w w0.heap.size A c L
set_option maxRecDepth 100000 in
set_option maxHeartbeats 8000000 in
theorem made_any (v : Value) (l : List Oq) (w : World) (hl : Rd w (· < w.heap.size) 4 v l.length (ocv l)) (hsmall : l.length ≤ 300) : Calls Try.prog 15 #[v] w (MadeOut w l.length) := by
  obtain ⟨A, c, rfl, c1, c2, c3⟩ := hl.open_
  have HC3 := Lib.hid c3
  unfold maxLen at c2
  clear c3
  generalize hB : w.heap.size = B at *
  have HB := Lib.hid hB
  have C0 := Lib.hid (tnew_m (B := B) (w0 := w) (w := w) (Below.refl _ _) (by omega))
  rw [hB] at C0
  clear hB
  go_enter Try.func15, Try.ntmps15
  go_wp2_with fail
  (with_reducible refine C0.out.mono ?_)
  rintro e1 w1 ⟨rfl, hm, _⟩
  clear C0
  go_wp2_with fail
  go_loopw [5, 11] (fun u i wr => ∃ (k : Nat) (A' : Option Addr) (c' : Nat) (L : List It), k ≤ l.length ∧ i = .int .i64 (k : Int) ∧ u = .slice A' L.length c' ∧ Hid (A' = none → c' = 0) ∧ L.length ≤ c' ∧ c' ≤ maxLen ∧ L.length ≤ k ∧ Hid (∀ i ∈ L, vldP i.fr i.to = true) ∧ Both B w wr B A' c' L) (fun _ i _ => l.length - (intOf i).toNat)
  case atStart => exact ⟨0, none, 0, [], Nat.zero_le _, rfl, rfl, Lib.hid (fun _ => rfl), Nat.le_refl _, Nat.zero_le _, Nat.le_refl _, Lib.hid (fun i hi => by cases hi), .nil, rfl, hm, DatIt.nil _ _⟩
  case round =>
    obtain ⟨k, A', c', L, hk, rfl, rfl, HC', hc1', hc2', htk, hvl, hBo⟩ := hrel
    by_cases hlt : k < l.length
    case pos =>
      have hga : l[k]? = some l[k] := List.getElem?_eq_getElem hlt
      have hlr : Rd wr (· < B) 4 (.slice A l.length c) l.length (ocv l) := hl.keep (by obtain ⟨t', _, hm', _⟩ := hBo; exact fun b hb => hm'.2.2.1.block b hb)
      obtain ⟨ba, oa, rfl, _, a0, a1, a2, a3⟩ := RdO.elem hlr hga
      clear hga hlr
      generalize l[k] = x at *
      obtain ⟨kd, p, q, id⟩ := x
      dsimp only at a0 a1 a2 a3
      obtain ⟨V, hV⟩ : ∃ V, V = wr.alloc (.cells #[.int .i64 kd, .int .i64 p, .int .i64 q, .int .i64 id] 46) := ⟨_, rfl⟩
      have hbV : Below wr.heap.size wr V := by rw [hV]; exact Below.of_alloc _
      have hPV : V.heap[wr.heap.size]? = some (.cells #[.int .i64 kd, .int .i64 p, .int .i64 q, .int .i64 id] 46 (0, 0)) := by rw [hV]; exact heap_alloc_new wr _
      have d0 : V.cell? ⟨wr.heap.size, 0, none⟩ = some (.int .i64 kd) := cell_of_row _ _ 0 _ _ _ hPV
      have d1 : V.cell? ⟨wr.heap.size, 1, none⟩ = some (.int .i64 p) := cell_of_row _ _ 1 _ _ _ hPV
      have d2 : V.cell? ⟨wr.heap.size, 2, none⟩ = some (.int .i64 q) := cell_of_row _ _ 2 _ _ _ hPV
      have d3 : V.cell? ⟨wr.heap.size, 3, none⟩ = some (.int .i64 id) := cell_of_row _ _ 3 _ _ _ hPV
      rw [hV] at d0 d1 d2 d3
      have CD := Lib.hid (do_any B w B A' c' L kd p q id V (hBo.below hbV) (by omega))
      have HV := Lib.hid hV
      clear hV hPV hBo hbV
      obtain ⟨L2, hL2⟩ : ∃ L2, L2 = stepF kd ⟨p, q, id⟩ L := ⟨_, rfl⟩
      have hL2l : L2.length ≤ k + 1 := by rw [hL2]; exact Nat.le_trans (len_stepF _ _ _) (by omega)
      have HVL := Lib.hid (show ∀ i ∈ L2, vldP i.fr i.to = true by rw [hL2]; exact vld_stepF hvl.out)
      rw [← hL2] at CD
      clear hL2
      go_wp2_with fail
      rw [← HV.out]
      (with_reducible refine CD.out.mono ?_)
      rintro e2 w2 ⟨A2, k2, rfl, H2, h21, h22, hBo2⟩
      clear CD d0 d1 d2 d3 a0 a1 a2 a3
      go_wp2_with fail
      go_roundw
      case rel => exact ⟨k + 1, A2, k2, L2, by omega, by go_num, rfl, H2, h21, h22, hL2l, HVL, hBo2⟩
      case measure => simp [intOf]; omega
    case neg =>
    obtain rfl : k = l.length := by omega
    go_wp2_with fail
    go_ret2
    unfold MadeOut
    rw [HB.out]
    exact ⟨A', c', L, rfl, HC', hc1', hc2', htk, hvl, hBo⟩

set_option maxRecDepth 100000 in
set_option maxHeartbeats 8000000 in
theorem lawActs_any (v : Value) (l : List Oq) (w : World) (hl : Rd w (· < w.heap.size) 4 v l.length (ocv l)) : Calls Try.prog 6 #[v] w fun e w' => e = .returned (.bool true) ∧ Below w.heap.size w w' := by
  obtain ⟨A, c, rfl, c1, c2, c3⟩ := hl.open_
  have HC3 := Lib.hid c3
  unfold maxLen at c2
  clear c3
  generalize hB : w.heap.size = B at *
  have HB := Lib.hid hB
  have C0 := Lib.hid (tnew_m (B := B) (w0 := w) (w := w) (Below.refl _ _) (by omega))
  rw [hB] at C0
  clear hB
  by_cases hbig : 150 < l.length
  · go_enter Try.func6, Try.ntmps6
    go_wp2_with fail
    (with_reducible refine C0.out.mono ?_)
    rintro e1 w1 ⟨rfl, hm, _⟩
    clear C0
    go_wp2_with fail
    (with_reducible refine (works_any w1).mono ?_)
    rintro e2 w2 ⟨rfl, hb2⟩
    go_wp2_with fail
    go_ret
    exact ⟨rfl, (hm.below hb2).2.2.1⟩
  go_enter Try.func6, Try.ntmps6
  go_wp2_with fail
  (with_reducible refine C0.out.mono ?_)
  rintro e1 w1 ⟨rfl, hm, _⟩
  clear C0
  go_wp2_with fail
  go_loopw [4, 24] (fun u i wr => ∃ (k : Nat) (A' : Option Addr) (c' : Nat) (L : List It), k ≤ l.length ∧ i = .int .i64 (k : Int) ∧ u = .slice A' L.length c' ∧ Hid (A' = none → c' = 0) ∧ L.length ≤ c' ∧ c' ≤ maxLen ∧ L.length ≤ k ∧ Hid (∀ i ∈ L, vldP i.fr i.to = true) ∧ Both B w wr B A' c' L) (fun _ i _ => l.length - (intOf i).toNat)
  case atStart => exact ⟨0, none, 0, [], Nat.zero_le _, rfl, rfl, Lib.hid (fun _ => rfl), Nat.le_refl _, Nat.zero_le _, Nat.le_refl _, Lib.hid (fun i hi => by cases hi), .nil, rfl, hm, DatIt.nil _ _⟩
  case round =>
    obtain ⟨k, A', c', L, hk, rfl, rfl, HC', hc1', hc2', htk, hvl, hBo⟩ := hrel
    by_cases hlt : k < l.length
    case pos =>
      have hga : l[k]? = some l[k] := List.getElem?_eq_getElem hlt
      have hlr : Rd wr (· < B) 4 (.slice A l.length c) l.length (ocv l) := hl.keep (by obtain ⟨t', _, hm', _⟩ := hBo; exact fun b hb => hm'.2.2.1.block b hb)
      obtain ⟨ba, oa, rfl, _, a0, a1, a2, a3⟩ := RdO.elem hlr hga
      clear hga hlr
      generalize l[k] = x at *
      obtain ⟨kd, p, q, id⟩ := x
      dsimp only at a0 a1 a2 a3
      obtain ⟨V, hV⟩ : ∃ V, V = wr.alloc (.cells #[.int .i64 kd, .int .i64 p, .int .i64 q, .int .i64 id] 46) := ⟨_, rfl⟩
      have hbV : Below wr.heap.size wr V := by rw [hV]; exact Below.of_alloc _
      have hPV : V.heap[wr.heap.size]? = some (.cells #[.int .i64 kd, .int .i64 p, .int .i64 q, .int .i64 id] 46 (0, 0)) := by rw [hV]; exact heap_alloc_new wr _
      have d0 : V.cell? ⟨wr.heap.size, 0, none⟩ = some (.int .i64 kd) := cell_of_row _ _ 0 _ _ _ hPV
      have d1 : V.cell? ⟨wr.heap.size, 1, none⟩ = some (.int .i64 p) := cell_of_row _ _ 1 _ _ _ hPV
      have d2 : V.cell? ⟨wr.heap.size, 2, none⟩ = some (.int .i64 q) := cell_of_row _ _ 2 _ _ _ hPV
      have d3 : V.cell? ⟨wr.heap.size, 3, none⟩ = some (.int .i64 id) := cell_of_row _ _ 3 _ _ _ hPV
      rw [hV] at d0 d1 d2 d3
      have CD := Lib.hid (do_any B w B A' c' L kd p q id V (hBo.below hbV) (by omega))
      have HV := Lib.hid hV
      clear hV hPV hBo hbV
      obtain ⟨L2, hL2⟩ : ∃ L2, L2 = stepF kd ⟨p, q, id⟩ L := ⟨_, rfl⟩
      have hL2l : L2.length ≤ k + 1 := by rw [hL2]; exact Nat.le_trans (len_stepF _ _ _) (by omega)
      have HVL := Lib.hid (show ∀ i ∈ L2, vldP i.fr i.to = true by rw [hL2]; exact vld_stepF hvl.out)
      rw [← hL2] at CD
      clear hL2
      go_wp2_with fail
      rw [← HV.out]
      (with_reducible refine CD.out.mono ?_)
      rintro e2 w2 ⟨A2, k2, rfl, H2, h21, h22, hBo2⟩
      clear CD d0 d1 d2 d3 a0 a1 a2 a3
      have HBo := Lib.hid hBo2
      obtain ⟨t2, hi2, hm2, hd2⟩ := hBo2
      have CL := Lib.hid (tlen_m hm2 (L2.length : Int) (by rw [hi2]))
      have CI := Lib.hid (titems_m L2 hm2 hi2 (by omega))
      have HD := Lib.hid hd2
      have hB2 := hm2.2.2.2
      clear hm2 hi2 hd2
      go_wp2_with fail
      (with_reducible refine CL.out.mono ?_)
      rintro e3 w3 ⟨rfl, rfl⟩
      clear CL
      go_wp2_with fail
      (with_reducible refine CI.out.mono ?_)
      rintro e4 w4 ⟨A4, k4, rfl, H4, h41, h42, hO4, hb4⟩
      clear CI
      have hd4 := HD.out.below hB2 hb4
      have hB4 : B ≤ w4.heap.size := Nat.le_trans hB2 hb4.size
      have CC := Lib.hid (items_any _ _ (.slice A4 L2.length k4) (.slice A2 L2.length k2) L2 L2 w4 (Rd.of_own hO4) hd4 (fun b h => h.2) (DatIt.lt hB4))
      rw [decide_eq_true rfl] at CC
      clear hO4 hd4
      go_wp2_with fail
      (with_reducible refine CC.out.mono ?_)
      rintro e5 w5 ⟨rfl, hb5⟩
      clear CC
      have hBo5 := HBo.out.below (hb4.trans (hb5.mono hb4.size))
      clear hb4 hb5
      go_wp2_with fail
      go_roundw
      case rel => exact ⟨k + 1, A2, k2, L2, by omega, by go_num, rfl, H2, h21, h22, hL2l, HVL, hBo5⟩
      case measure => simp [intOf]; omega
    case neg =>
    obtain ⟨t', _, hm', _⟩ := hBo
    go_wp2_with fail
    (with_reducible refine (works_any wr).mono ?_)
    rintro e2 w2 ⟨rfl, hb2⟩
    go_wp2_with fail
    go_ret
    exact ⟨rfl, (hm'.below hb2).2.2.1⟩
end Go.Proofs.Ytkocehfapcmiiaa
