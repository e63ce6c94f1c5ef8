/-
  The reference tree: Add, Remove.
-/
import Derived.Test.YtkocehfapcmiiaaTreeS
namespace Go.Proofs.Ytkocehfapcmiiaa
open Go.RowKit Go.Lib Go.IntWalk

theorem DatIt.lt {B : Nat} {w : World} (hB : B ≤ w.heap.size) : ∀ b, CR B w b → b < w.heap.size := by
  rintro b (hb | ⟨cs, hb⟩)
  · omega
  · exact (Array.getElem?_eq_some_iff.1 hb).1
theorem filt_succ {α : Type} {l : List α} {k : Nat} {y : α} {f : α → Bool} (hk : l[k]? = some y) : (l.take (k + 1)).filter f = (l.take k).filter f ++ if f y = true then [y] else [] := by
  obtain ⟨h, e⟩ := List.getElem?_eq_some_iff.1 hk
  rw [List.take_succ_eq_append_getElem h, List.filter_append, e, List.filter_cons]
  rfl
theorem filt_le {α : Type} {l : List α} {k : Nat} {f : α → Bool} : ((l.take k).filter f).length ≤ l.length := Nat.le_trans (List.length_filter_le _ _) (by rw [List.length_take]; omega)
/-- a row that comes back with a verdict -/
def RowOut (B : Nat) (l : List It) (b : Bool) (w0 : World) (e : Ending) (w : World) : Prop :=
  ∃ A c, e = .returned (.tuple #[.slice A l.length c, .bool b]) ∧ Hid (A = none → c = 0) ∧ l.length ≤ c ∧ c ≤ maxLen ∧ DatIt B w (.slice A l.length c) l ∧ Below w0.heap.size w0 w

set_option maxRecDepth 100000 in
set_option maxHeartbeats 8000000 in
theorem radd_any (B : Nat) (v : Value) (l : List It) (p q n : Int) (w : World) (hB : B ≤ w.heap.size) (hd : DatIt B w v l) (hl : l.length ≤ 1000) :
    Calls Try.prog 35 #[v, perV p q, .int .i64 n] w (RowOut B (addF ⟨p, q, n⟩ l) (addB ⟨p, q, n⟩ l) w) := by
  have hF := DatIt.lt hB
  obtain ⟨Av, cv, rfl, x1, x2, x3⟩ := hd.open_
  have HX3 := Lib.hid x3
  have HX2 := Lib.hid x2
  unfold maxLen at x2
  clear x3
  obtain ⟨W, hW⟩ : ∃ W, W = w.alloc (.cells #[.int .i64 p, .int .i64 q] 28) := ⟨_, rfl⟩
  have hbW : Below w.heap.size w W := by rw [hW]; exact Below.of_alloc _
  have hsW : W.heap.size = w.heap.size + 1 := by rw [hW]; simp
  have hPW : W.heap[w.heap.size]? = some (.cells #[.int .i64 p, .int .i64 q] 28 (0, 0)) := by rw [hW]; exact heap_alloc_new w _
  have p0 : W.cell? ⟨w.heap.size, 0, none⟩ = some (.int .i64 p) := cell_of_row _ _ 0 _ _ _ hPW
  have p1 : W.cell? ⟨w.heap.size, 1, none⟩ = some (.int .i64 q) := cell_of_row _ _ 1 _ _ _ hPW
  have CV := Lib.hid (rvalid_any p q W)
  have HW := Lib.hid hW
  have hw0 := hW
  clear hW hPW
  generalize hH : w.heap.size = H at *
  have HH := Lib.hid hH
  clear hH
  cases hv : vldP p q with
  | false =>
    have hr1 : addF ⟨p, q, n⟩ l = l := if_neg (fun h => by simp [hv] at h)
    have hr2 : addB ⟨p, q, n⟩ l = false := decide_eq_false (fun h => by simp [hv] at h)
    rw [hr1, hr2]
    rw [hv] at CV
    rw [hw0] at p0 p1
    clear hr1 hr2 hv hw0
    go_enter Try.func35, Try.ntmps35
    go_wp2_with fail
    rw [← HW.out]
    (with_reducible refine CV.out.mono ?_)
    rintro e1 w1 ⟨rfl, hb1⟩
    go_wp2_with fail
    go_ret2
    have hbz : Below H w w1 := hbW.trans (hb1.mono (by omega))
    exact ⟨Av, cv, rfl, HX3, x1, HX2.out, hd.below (by rw [HH.out]; exact hB) (by rw [HH.out]; exact hbz), by rw [HH.out]; exact hbz⟩
  | true =>
  rw [hv] at CV
  have CH := Lib.hid (fun (w1 : World) (h : Below H w w1) (hs : H ≤ w1.heap.size) => rhas_any (CR B w) _ l p q n w1 (hd.keep (w' := w1) (fun b hb => h.block b (hF b hb))) (fun b hb => Nat.lt_of_lt_of_le (hF b hb) hs))
  have hres : decide ((⟨p, q, n⟩ : It) ∈ l) = decide ((⟨p, q, n⟩ : It) ∈ l) := rfl
  clear hres
  cases hm : decide ((⟨p, q, n⟩ : It) ∈ l) with
  | true =>
    have hr1 : addF ⟨p, q, n⟩ l = l := if_neg (fun h => h.2 (of_decide_eq_true hm))
    have hr2 : addB ⟨p, q, n⟩ l = false := decide_eq_false (fun h => h.2 (of_decide_eq_true hm))
    rw [hr1, hr2]
    rw [hm] at CH
    have z0 := p0; have z1 := p1
    rw [hw0] at p0 p1
    clear hr1 hr2 hw0
    go_enter Try.func35, Try.ntmps35
    go_wp2_with fail
    rw [← HW.out]
    (with_reducible refine CV.out.mono ?_)
    rintro e1 w1 ⟨rfl, hb1⟩
    clear CV
    have hbz : Below H w w1 := hbW.trans (hb1.mono (by omega))
    have hsz := hb1.size
    have g0 := (hb1.cell (p := ⟨H, 0, none⟩) (show H < W.heap.size by omega)).trans z0
    have g1 := (hb1.cell (p := ⟨H, 1, none⟩) (show H < W.heap.size by omega)).trans z1
    have CH1 := Lib.hid (CH.out w1 hbz (by omega))
    rw [← HH.out] at g0 g1
    clear CH p0 p1 z0 z1
    go_wp2_with fail
    (with_reducible refine CH1.out.mono ?_)
    rintro e2 w2 ⟨rfl, hb2⟩
    clear CH1
    go_wp2_with fail
    go_ret2
    have hbz2 : Below H w w2 := hbz.trans (hb2.mono (by omega))
    exact ⟨Av, cv, rfl, HX3, x1, HX2.out, hd.below (by rw [HH.out]; exact hB) (by rw [HH.out]; exact hbz2), by rw [HH.out]; exact hbz2⟩
  | false =>
  have HADD := Lib.hid (show addF ⟨p, q, n⟩ l = insF ⟨p, q, n⟩ l from if_pos ⟨hv, of_decide_eq_false hm⟩)
  have HB1 := Lib.hid (show addB ⟨p, q, n⟩ l = true from decide_eq_true ⟨hv, of_decide_eq_false hm⟩)
  rw [hm] at CH
  have z0 := p0; have z1 := p1
  rw [hw0] at p0 p1
  clear hw0 hm hv
  go_enter Try.func35, Try.ntmps35
  go_wp2_with fail
  rw [← HW.out]
  (with_reducible refine CV.out.mono ?_)
  rintro e1 w1 ⟨rfl, hb1⟩
  clear CV
  have hbz : Below H w w1 := hbW.trans (hb1.mono (by omega))
  have hsz := hb1.size
  have g0 := (hb1.cell (p := ⟨H, 0, none⟩) (show H < W.heap.size by omega)).trans z0
  have g1 := (hb1.cell (p := ⟨H, 1, none⟩) (show H < W.heap.size by omega)).trans z1
  have CH1 := Lib.hid (CH.out w1 hbz (by omega))
  have r0 := g0; have r1 := g1
  rw [← HH.out] at g0 g1
  clear CH p0 p1 z0 z1
  go_wp2_with fail
  (with_reducible refine CH1.out.mono ?_)
  rintro e2 w2 ⟨rfl, hb2⟩
  clear CH1 g0 g1
  have hs2 := hb2.size
  have g0 := (hb2.cell (p := ⟨H, 0, none⟩) (show H < w1.heap.size by omega)).trans r0
  have g1 := (hb2.cell (p := ⟨H, 1, none⟩) (show H < w1.heap.size by omega)).trans r1
  rw [← HH.out] at g0 g1
  have hbz2 : Below H w w2 := hbz.trans (hb2.mono (by omega))
  obtain ⟨W2, hW2⟩ : ∃ W2, W2 = w2.alloc (.cells #[.int .i64 p, .int .i64 q, .int .i64 n] 30) := ⟨_, rfl⟩
  have hbW2 : Below w2.heap.size w2 W2 := by rw [hW2]; exact Below.of_alloc _
  have hPW2 : W2.heap[w2.heap.size]? = some (.cells #[.int .i64 p, .int .i64 q, .int .i64 n] 30 (0, 0)) := by rw [hW2]; exact heap_alloc_new w2 _
  have x0 : W2.cell? ⟨w2.heap.size, 0, none⟩ = some (.int .i64 p) := cell_of_row _ _ 0 _ _ _ hPW2
  have x1' : W2.cell? ⟨w2.heap.size, 1, none⟩ = some (.int .i64 q) := cell_of_row _ _ 1 _ _ _ hPW2
  have x2' : W2.cell? ⟨w2.heap.size, 2, none⟩ = some (.int .i64 n) := cell_of_row _ _ 2 _ _ _ hPW2
  have hXs : w2.heap.size < W2.heap.size := (Array.getElem?_eq_some_iff.1 hPW2).1
  have HBX := Lib.hid (hbz2.trans (hbW2.mono (by omega)))
  have HKD := Lib.hid (fun (b : Nat) (hb : b < H) => HBX.out.block b hb)
  have HW2 := Lib.hid hW2
  have HX1 := Lib.hid x1
  clear hW2 hPW2 hbW2 hbz2 hbz r0 r1 hb1 hb2
  obtain ⟨base, hbase⟩ : ∃ base, base = W2.heap.size := ⟨_, rfl⟩
  rw [← hbase] at hXs
  go_wp2_with fail
  rw [← HW2.out]
  clear g0 g1 x1 x2
  have x1 := x1'
  have x2 := x2'
  clear x1' x2'
  generalize w2.heap.size = X at *
  have HBASE := Lib.hid hbase
  have hbase1 : base ≤ W2.heap.size := by omega
  clear hbase
  go_loopw [9, 29] (fun u i wr => ∃ (k : Nat) (A : Option Addr) (c : Nat) (L : List It), k ≤ l.length ∧ i = .int .i64 (k : Int) ∧ L = (([] : List It) ++ (l.take k).filter (fun y => decide (ltI y ⟨p, q, n⟩))) ∧ u = .slice A L.length c ∧ Hid (A = none → c = 0) ∧ L.length ≤ c ∧ c ≤ 2 ^ 63 - 1 ∧ OwnIt wr base (.slice A L.length c) L ∧ Below base W2 wr) (fun _ i _ => l.length - (intOf i).toNat)
  case atStart => exact ⟨0, none, 0, [], Nat.zero_le _, rfl, by simp, rfl, Lib.hid (fun _ => rfl), Nat.le_refl _, by omega, World.ownsRow_nil _ _ _ _, Below.refl _ _⟩
  case round =>
    obtain ⟨k, A, c, L, hk, rfl, hL, rfl, HC, hc1, hc2, hOwr, hbr⟩ := hrel
    have hLl : L.length ≤ 2 * l.length + 1 := by rw [hL]; rw [List.length_append, List.length_nil]; have := filt_le (l := l) (k := k) (f := (fun y => decide (ltI y ⟨p, q, n⟩))); omega
    have HL := Lib.hid hL
    have hsr := hbr.size
    clear hL
    by_cases hlt : k < l.length
    case pos =>
      have hlr := hd.keep (w' := wr) (fun b hb => (hbr.block b (by have := hF b hb; omega)).trans (HKD.out b (hF b hb)))
      have hga : l[k]? = some l[k] := List.getElem?_eq_getElem hlt
      obtain ⟨ba, oa, rfl, _, a0, a1, a2⟩ := RdIt.elem hlr hga
      have HGA := Lib.hid hga
      clear hga
      generalize l[k] = y at *
      obtain ⟨yp, yq, yn⟩ := y
      dsimp only at a0 a1 a2
      obtain ⟨V, hV⟩ : ∃ V, V = wr.alloc (.cells #[.int .i64 yp, .int .i64 yq, .int .i64 yn] 30) := ⟨_, rfl⟩
      have hbV : Below wr.heap.size wr V := by rw [hV]; exact Below.of_alloc _
      have hPV : V.heap[wr.heap.size]? = some (.cells #[.int .i64 yp, .int .i64 yq, .int .i64 yn] 30 (0, 0)) := by rw [hV]; exact heap_alloc_new wr _
      have d0 : V.cell? ⟨wr.heap.size, 0, none⟩ = some (.int .i64 yp) := cell_of_row _ _ 0 _ _ _ hPV
      have d1 : V.cell? ⟨wr.heap.size, 1, none⟩ = some (.int .i64 yq) := cell_of_row _ _ 1 _ _ _ hPV
      have d2 : V.cell? ⟨wr.heap.size, 2, none⟩ = some (.int .i64 yn) := cell_of_row _ _ 2 _ _ _ hPV
      have g0 := (hbV.cell (p := ⟨X, 0, none⟩) (show X < wr.heap.size by omega)).trans ((hbr.cell (p := ⟨X, 0, none⟩) (show X < base by omega)).trans x0)
      have g1 := (hbV.cell (p := ⟨X, 1, none⟩) (show X < wr.heap.size by omega)).trans ((hbr.cell (p := ⟨X, 1, none⟩) (show X < base by omega)).trans x1)
      have g2 := (hbV.cell (p := ⟨X, 2, none⟩) (show X < wr.heap.size by omega)).trans ((hbr.cell (p := ⟨X, 2, none⟩) (show X < base by omega)).trans x2)
      have m0 := d0; have m1 := d1; have m2 := d2
      have hsV : wr.heap.size < V.heap.size := (Array.getElem?_eq_some_iff.1 hPV).1
      have CB := Lib.hid (before_any yp yq yn p q n V)
      have hOV : OwnIt V base (.slice A L.length c) L := hOwr.below hbV
      have hbV' : Below base W2 V := hbr.trans (hbV.mono (by omega))
      generalize hY : wr.heap.size = Y at *
      rw [hV] at d0 d1 d2 g0 g1 g2
      have HV := Lib.hid hV
      have HY := Lib.hid hY
      clear hV hPV hlr hbV hOwr hbr hY
      by_cases hlt' : ltI (⟨yp, yq, yn⟩ : It) ⟨p, q, n⟩
      · rw [decide_eq_true hlt'] at CB
        have HFS := Lib.hid (show (([] : List It) ++ (l.take (k + 1)).filter (fun y => decide (ltI y ⟨p, q, n⟩))) = (([] : List It) ++ (l.take k).filter (fun y => decide (ltI y ⟨p, q, n⟩))) ++ [⟨yp, yq, yn⟩] by rw [filt_succ HGA.out, if_pos (decide_eq_true hlt')]; simp only [List.append_assoc])
        clear hlt' HGA
        go_wp2_with fail
        rw [HY.out, ← HV.out]
        (with_reducible refine CB.out.mono ?_)
        rintro e4 w4 ⟨rfl, hb4⟩
        have hs4 := hb4.size
        have u0 := (hb4.cell (p := ⟨Y, 0, none⟩) (show Y < V.heap.size by omega)).trans m0
        have u1 := (hb4.cell (p := ⟨Y, 1, none⟩) (show Y < V.heap.size by omega)).trans m1
        have u2 := (hb4.cell (p := ⟨Y, 2, none⟩) (show Y < V.heap.size by omega)).trans m2
        have hOw4 : OwnIt w4 base (.slice A L.length c) L := hOV.below hb4
        have hb4' : Below base W2 w4 := hbV'.trans (hb4.mono (by omega))
        clear CB hb4 hOV hbV' d0 d1 d2 g0 g1 g2 m0 m1 m2
        have hnew : Rd (w4.alloc (.cells #[.int .i64 yp, .int .i64 yq, .int .i64 yn] 30)) (· = w4.heap.size) 3 (.slice (some ⟨w4.heap.size, 0, none⟩) 1 1) 1 (itC ⟨yp, yq, yn⟩) := rd_itC w4 ⟨yp, yq, yn⟩
        have hOa : OwnIt (w4.alloc (.cells #[.int .i64 yp, .int .i64 yq, .int .i64 yn] 30)) base (.slice A L.length c) L := World.ownsRow.alloc hOw4 _
        obtain ⟨i0, hi, hz0, hz1, hz2⟩ := info_parts infoC
        have hbs5 : base ≤ (w4.alloc (.cells #[.int .i64 yp, .int .i64 yq, .int .i64 yn] 30)).heap.size := by simp; omega
        go_wp2_with (at_builtin; refine wpList_append_app _ rfl (.tmp 36) (.tmp 38) 38 rfl base 30 i0 _ 3 24 Try.underlying38 hi hz0 hz1 hz2 rfl (by omega) _ L.length (icv L) rfl (.inl hOa) (· = w4.heap.size) _ 1 (itC ⟨yp, yq, yn⟩) rfl hnew (itC_one _) (by unfold maxLen; omega) (by omega) hbs5 ?_; intro v5 w5 _ h5 hg5 hb5' ha5; have h5 := h5 (.inr hOa); obtain ⟨L5, hL5⟩ : ∃ L5, L5 = L ++ [(⟨yp, yq, yn⟩ : It)] := ⟨_, rfl⟩; have hO5 : OwnIt w5 base v5 L5 := (by rw [hL5]; exact owni_cast (a := L) (b := [⟨yp, yq, yn⟩]) h5); have hln5 : L5.length ≤ L.length + 1 := (by rw [hL5]; simp); have HL5 := Lib.hid hL5; have hb5 : Below base w4 w5 := ((Below.of_alloc _).mono (by omega)).trans hb5'; clear h5 hg5 hb5' ha5 hL5 hOa hnew hi hz0 hz1 hz2 u0 u1 u2; obtain ⟨A5, k5, rfl, c51, c52, c53⟩ := hO5.open_; have HC53 := Lib.hid c53; unfold maxLen at c52; clear c53)
        have hbF := hb4'.trans hb5
        clear hb4' hb5
        go_wp2_with fail
        go_roundw
        case rel => exact ⟨k + 1, A5, k5, L5, by omega, by go_num, by rw [HFS.out, ← HL.out, HL5.out], rfl, HC53, c51, c52, hO5, hbF⟩
        case measure => simp [intOf]; omega
      · rw [decide_eq_false hlt'] at CB
        have HFS := Lib.hid (show (([] : List It) ++ (l.take (k + 1)).filter (fun y => decide (ltI y ⟨p, q, n⟩))) = (([] : List It) ++ (l.take k).filter (fun y => decide (ltI y ⟨p, q, n⟩))) by rw [filt_succ HGA.out, if_neg (by rw [decide_eq_false hlt']; simp), List.append_nil])
        clear hlt' HGA
        go_wp2_with fail
        rw [HY.out, ← HV.out]
        (with_reducible refine CB.out.mono ?_)
        rintro e4 w4 ⟨rfl, hb4⟩
        have hOw4 : OwnIt w4 base (.slice A L.length c) L := hOV.below hb4
        have hb4' : Below base W2 w4 := hbV'.trans (hb4.mono (by omega))
        clear CB hb4 hOV hbV' d0 d1 d2 g0 g1 g2 m0 m1 m2
        go_wp2_with fail
        go_roundw
        case rel => exact ⟨k + 1, A, c, L, by omega, by go_num, by rw [HFS.out, ← HL.out], rfl, HC, hc1, hc2, hOw4, hb4'⟩
        case measure => simp [intOf]; omega
    case neg =>
    obtain rfl : k = l.length := by omega
    rw [List.take_length] at HL
    clear hlt hk
    have g0 := (hbr.cell (p := ⟨X, 0, none⟩) (show X < base by omega)).trans x0
    have g1 := (hbr.cell (p := ⟨X, 1, none⟩) (show X < base by omega)).trans x1
    have g2 := (hbr.cell (p := ⟨X, 2, none⟩) (show X < base by omega)).trans x2
    have hnew : Rd (wr.alloc (.cells #[.int .i64 p, .int .i64 q, .int .i64 n] 30)) (· = wr.heap.size) 3 (.slice (some ⟨wr.heap.size, 0, none⟩) 1 1) 1 (itC ⟨p, q, n⟩) := rd_itC wr ⟨p, q, n⟩
    have hOa : OwnIt (wr.alloc (.cells #[.int .i64 p, .int .i64 q, .int .i64 n] 30)) base (.slice A L.length c) L := World.ownsRow.alloc hOwr _
    obtain ⟨i0, hi, hz0, hz1, hz2⟩ := info_parts infoC
    have hbs5 : base ≤ (wr.alloc (.cells #[.int .i64 p, .int .i64 q, .int .i64 n] 30)).heap.size := by simp; omega
    go_wp2_with (at_builtin; refine wpList_append_app _ rfl (.tmp 41) (.tmp 43) 38 rfl base 30 i0 _ 3 24 Try.underlying38 hi hz0 hz1 hz2 rfl (by omega) _ L.length (icv L) rfl (.inl hOa) (· = wr.heap.size) _ 1 (itC ⟨p, q, n⟩) rfl hnew (itC_one _) (by unfold maxLen; omega) (by omega) hbs5 ?_; intro v5 w5 _ h5 hg5 hb5' ha5; have h5 := h5 (.inr hOa); obtain ⟨L5, hL5⟩ : ∃ L5, L5 = L ++ [(⟨p, q, n⟩ : It)] := ⟨_, rfl⟩; have hO5 : OwnIt w5 base v5 L5 := (by rw [hL5]; exact owni_cast (a := L) (b := [⟨p, q, n⟩]) h5); have hln5 : L5.length ≤ L.length + 1 := (by rw [hL5]; simp); have HL5 := Lib.hid hL5; have hb5 : Below base wr w5 := ((Below.of_alloc _).mono (by omega)).trans hb5'; clear h5 hg5 hb5' ha5 hL5 hOa hnew hi hz0 hz1 hz2 g0 g1 g2; obtain ⟨A5, k5, rfl, c51, c52, c53⟩ := hO5.open_; have HC53 := Lib.hid c53; unfold maxLen at c52; clear c53)
    have hbS := hbr.trans hb5
    obtain ⟨L1, hL1⟩ : ∃ L1, L1 = l.filter (fun y => decide (ltI y ⟨p, q, n⟩)) := ⟨_, rfl⟩
    have HL1 := Lib.hid hL1
    have hL1l : L1.length ≤ l.length := by rw [hL1]; exact List.length_filter_le _ _
    have HL5' := Lib.hid (show L5 = L1 ++ [(⟨p, q, n⟩ : It)] by rw [HL5.out, HL.out, hL1]; simp)
    clear hL1 hb5 hOwr hbr HL5 HL hLl hsr
    go_wp2_with fail
    go_loopw [9, 47] (fun u i wr => ∃ (k : Nat) (A : Option Addr) (c : Nat) (L : List It), k ≤ l.length ∧ i = .int .i64 (k : Int) ∧ L = ((L1 ++ [(⟨p, q, n⟩ : It)]) ++ (l.take k).filter (fun y => decide (ltI ⟨p, q, n⟩ y))) ∧ u = .slice A L.length c ∧ Hid (A = none → c = 0) ∧ L.length ≤ c ∧ c ≤ 2 ^ 63 - 1 ∧ OwnIt wr base (.slice A L.length c) L ∧ Below base W2 wr) (fun _ i _ => l.length - (intOf i).toNat)
    case atStart => exact ⟨0, A5, k5, L5, Nat.zero_le _, rfl, by rw [HL5'.out]; simp, rfl, HC53, c51, c52, hO5, hbS⟩
    case round =>
      clear hO5 hbS
      obtain ⟨k, A, c, L, hk, rfl, hL, rfl, HC, hc1, hc2, hOwr, hbr⟩ := hrel
      have hLl : L.length ≤ 2 * l.length + 1 := by rw [hL]; rw [List.length_append, List.length_append, List.length_cons, List.length_nil]; have := filt_le (l := l) (k := k) (f := (fun y => decide (ltI ⟨p, q, n⟩ y))); omega
      have HL := Lib.hid hL
      have hsr := hbr.size
      clear hL
      by_cases hlt : k < l.length
      case pos =>
        have hlr := hd.keep (w' := wr) (fun b hb => (hbr.block b (by have := hF b hb; omega)).trans (HKD.out b (hF b hb)))
        have hga : l[k]? = some l[k] := List.getElem?_eq_getElem hlt
        obtain ⟨ba, oa, rfl, _, a0, a1, a2⟩ := RdIt.elem hlr hga
        have HGA := Lib.hid hga
        clear hga
        generalize l[k] = y at *
        obtain ⟨yp, yq, yn⟩ := y
        dsimp only at a0 a1 a2
        obtain ⟨V, hV⟩ : ∃ V, V = wr.alloc (.cells #[.int .i64 yp, .int .i64 yq, .int .i64 yn] 30) := ⟨_, rfl⟩
        have hbV : Below wr.heap.size wr V := by rw [hV]; exact Below.of_alloc _
        have hPV : V.heap[wr.heap.size]? = some (.cells #[.int .i64 yp, .int .i64 yq, .int .i64 yn] 30 (0, 0)) := by rw [hV]; exact heap_alloc_new wr _
        have d0 : V.cell? ⟨wr.heap.size, 0, none⟩ = some (.int .i64 yp) := cell_of_row _ _ 0 _ _ _ hPV
        have d1 : V.cell? ⟨wr.heap.size, 1, none⟩ = some (.int .i64 yq) := cell_of_row _ _ 1 _ _ _ hPV
        have d2 : V.cell? ⟨wr.heap.size, 2, none⟩ = some (.int .i64 yn) := cell_of_row _ _ 2 _ _ _ hPV
        have g0 := (hbV.cell (p := ⟨X, 0, none⟩) (show X < wr.heap.size by omega)).trans ((hbr.cell (p := ⟨X, 0, none⟩) (show X < base by omega)).trans x0)
        have g1 := (hbV.cell (p := ⟨X, 1, none⟩) (show X < wr.heap.size by omega)).trans ((hbr.cell (p := ⟨X, 1, none⟩) (show X < base by omega)).trans x1)
        have g2 := (hbV.cell (p := ⟨X, 2, none⟩) (show X < wr.heap.size by omega)).trans ((hbr.cell (p := ⟨X, 2, none⟩) (show X < base by omega)).trans x2)
        have m0 := d0; have m1 := d1; have m2 := d2
        have hsV : wr.heap.size < V.heap.size := (Array.getElem?_eq_some_iff.1 hPV).1
        have CB := Lib.hid (before_any p q n yp yq yn V)
        have hOV : OwnIt V base (.slice A L.length c) L := hOwr.below hbV
        have hbV' : Below base W2 V := hbr.trans (hbV.mono (by omega))
        generalize hY : wr.heap.size = Y at *
        rw [hV] at d0 d1 d2 g0 g1 g2
        have HV := Lib.hid hV
        have HY := Lib.hid hY
        clear hV hPV hlr hbV hOwr hbr hY
        by_cases hlt' : ltI (⟨p, q, n⟩ : It) ⟨yp, yq, yn⟩
        · rw [decide_eq_true hlt'] at CB
          have HFS := Lib.hid (show ((L1 ++ [(⟨p, q, n⟩ : It)]) ++ (l.take (k + 1)).filter (fun y => decide (ltI ⟨p, q, n⟩ y))) = ((L1 ++ [(⟨p, q, n⟩ : It)]) ++ (l.take k).filter (fun y => decide (ltI ⟨p, q, n⟩ y))) ++ [⟨yp, yq, yn⟩] by rw [filt_succ HGA.out, if_pos (decide_eq_true hlt')]; simp only [List.append_assoc])
          clear hlt' HGA
          go_wp2_with fail
          rw [HY.out, ← HV.out]
          (with_reducible refine CB.out.mono ?_)
          rintro e4 w4 ⟨rfl, hb4⟩
          have hs4 := hb4.size
          have u0 := (hb4.cell (p := ⟨Y, 0, none⟩) (show Y < V.heap.size by omega)).trans m0
          have u1 := (hb4.cell (p := ⟨Y, 1, none⟩) (show Y < V.heap.size by omega)).trans m1
          have u2 := (hb4.cell (p := ⟨Y, 2, none⟩) (show Y < V.heap.size by omega)).trans m2
          have hOw4 : OwnIt w4 base (.slice A L.length c) L := hOV.below hb4
          have hb4' : Below base W2 w4 := hbV'.trans (hb4.mono (by omega))
          clear CB hb4 hOV hbV' d0 d1 d2 g0 g1 g2 m0 m1 m2
          have hnew : Rd (w4.alloc (.cells #[.int .i64 yp, .int .i64 yq, .int .i64 yn] 30)) (· = w4.heap.size) 3 (.slice (some ⟨w4.heap.size, 0, none⟩) 1 1) 1 (itC ⟨yp, yq, yn⟩) := rd_itC w4 ⟨yp, yq, yn⟩
          have hOa : OwnIt (w4.alloc (.cells #[.int .i64 yp, .int .i64 yq, .int .i64 yn] 30)) base (.slice A L.length c) L := World.ownsRow.alloc hOw4 _
          obtain ⟨i0, hi, hz0, hz1, hz2⟩ := info_parts infoC
          have hbs5 : base ≤ (w4.alloc (.cells #[.int .i64 yp, .int .i64 yq, .int .i64 yn] 30)).heap.size := by simp; omega
          go_wp2_with (at_builtin; refine wpList_append_app _ rfl (.tmp 54) (.tmp 56) 38 rfl base 30 i0 _ 3 24 Try.underlying38 hi hz0 hz1 hz2 rfl (by omega) _ L.length (icv L) rfl (.inl hOa) (· = w4.heap.size) _ 1 (itC ⟨yp, yq, yn⟩) rfl hnew (itC_one _) (by unfold maxLen; omega) (by omega) hbs5 ?_; intro v5 w5 _ h5 hg5 hb5' ha5; have h5 := h5 (.inr hOa); obtain ⟨L5, hL5⟩ : ∃ L5, L5 = L ++ [(⟨yp, yq, yn⟩ : It)] := ⟨_, rfl⟩; have hO5 : OwnIt w5 base v5 L5 := (by rw [hL5]; exact owni_cast (a := L) (b := [⟨yp, yq, yn⟩]) h5); have hln5 : L5.length ≤ L.length + 1 := (by rw [hL5]; simp); have HL5 := Lib.hid hL5; have hb5 : Below base w4 w5 := ((Below.of_alloc _).mono (by omega)).trans hb5'; clear h5 hg5 hb5' ha5 hL5 hOa hnew hi hz0 hz1 hz2 u0 u1 u2; obtain ⟨A5, k5, rfl, c51, c52, c53⟩ := hO5.open_; have HC53 := Lib.hid c53; unfold maxLen at c52; clear c53)
          have hbF := hb4'.trans hb5
          clear hb4' hb5
          go_wp2_with fail
          go_roundw
          case rel => exact ⟨k + 1, A5, k5, L5, by omega, by go_num, by rw [HFS.out, ← HL.out, HL5.out], rfl, HC53, c51, c52, hO5, hbF⟩
          case measure => simp [intOf]; omega
        · rw [decide_eq_false hlt'] at CB
          have HFS := Lib.hid (show ((L1 ++ [(⟨p, q, n⟩ : It)]) ++ (l.take (k + 1)).filter (fun y => decide (ltI ⟨p, q, n⟩ y))) = ((L1 ++ [(⟨p, q, n⟩ : It)]) ++ (l.take k).filter (fun y => decide (ltI ⟨p, q, n⟩ y))) by rw [filt_succ HGA.out, if_neg (by rw [decide_eq_false hlt']; simp), List.append_nil])
          clear hlt' HGA
          go_wp2_with fail
          rw [HY.out, ← HV.out]
          (with_reducible refine CB.out.mono ?_)
          rintro e4 w4 ⟨rfl, hb4⟩
          have hOw4 : OwnIt w4 base (.slice A L.length c) L := hOV.below hb4
          have hb4' : Below base W2 w4 := hbV'.trans (hb4.mono (by omega))
          clear CB hb4 hOV hbV' d0 d1 d2 g0 g1 g2 m0 m1 m2
          go_wp2_with fail
          go_roundw
          case rel => exact ⟨k + 1, A, c, L, by omega, by go_num, by rw [HFS.out, ← HL.out], rfl, HC, hc1, hc2, hOw4, hb4'⟩
          case measure => simp [intOf]; omega
      case neg =>
      obtain rfl : k = l.length := by omega
      rw [List.take_length] at HL
      clear hlt hk
      go_wp2_with fail
      go_ret2
      have hx : L = addF ⟨p, q, n⟩ l := by
        rw [HL.out, HADD.out, HL1.out]
        unfold insF
        rw [List.append_assoc]
        rfl
      rw [HB1.out, ← hx]
      exact ⟨A, c, rfl, HC, hc1, (by unfold maxLen; omega), DatIt.of_own hOwr, by rw [HH.out]; exact HBX.out.trans (hbr.mono (by omega))⟩

end Go.Proofs.Ytkocehfapcmiiaa
