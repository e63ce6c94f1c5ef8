/-
  The reference tree: Remove.
-/
import Derived.Test.YtkocehfapcmiiaaTreeT
namespace Go.Proofs.Ytkocehfapcmiiaa
open Go.RowKit Go.Lib Go.IntWalk


set_option maxRecDepth 100000 in
set_option maxHeartbeats 8000000 in
theorem rrem_any (B : Nat) (v : Value) (l : List It) (p q n : Int) (w : World) (hB : B ≤ w.heap.size) (hd : DatIt B w v l) (hl : l.length ≤ 1000) :
    Calls Try.prog 36 #[v, perV p q, .int .i64 n] w (RowOut B (remF ⟨p, q, n⟩ l) (decide ((⟨p, q, n⟩ : It) ∈ l)) w) := by
  have hF := DatIt.lt hB
  obtain ⟨Av, cv, rfl, x1, x2, x3⟩ := hd.open_
  have HX3 := Lib.hid x3
  have HX2 := Lib.hid x2
  unfold maxLen at x2
  clear x3
  obtain ⟨W, hW⟩ : ∃ W, W = w.alloc (.cells #[.int .i64 p, .int .i64 q] 28) := ⟨_, rfl⟩
  have hbW : Below w.heap.size w W := by rw [hW]; exact Below.of_alloc _
  have hsW : W.heap.size = w.heap.size + 1 := by rw [hW]; simp
  have hPW : W.heap[w.heap.size]? = some (.cells #[.int .i64 p, .int .i64 q] 28 (0, 0)) := by rw [hW]; exact heap_alloc_new w _
  have p0 : W.cell? ⟨w.heap.size, 0, none⟩ = some (.int .i64 p) := cell_of_row _ _ 0 _ _ _ hPW
  have p1 : W.cell? ⟨w.heap.size, 1, none⟩ = some (.int .i64 q) := cell_of_row _ _ 1 _ _ _ hPW
  have HW := Lib.hid hW
  have hw0 := hW
  clear hW hPW
  generalize hH : w.heap.size = H at *
  have HH := Lib.hid hH
  clear hH
  have CH := Lib.hid (rhas_any (CR B w) _ l p q n W (hd.keep (w' := W) (fun b hb => hbW.block b (hF b hb))) (fun b hb => Nat.lt_of_lt_of_le (hF b hb) (by omega)))
  have z0 := p0; have z1 := p1
  rw [hw0] at p0 p1
  rw [← HH.out] at p0 p1
  cases hm : decide ((⟨p, q, n⟩ : It) ∈ l) with
  | false =>
    have hr1 : remF ⟨p, q, n⟩ l = l := remF_not (of_decide_eq_false hm)
    rw [hr1]
    rw [hm] at CH
    clear hr1 hw0 hm
    go_enter Try.func36, Try.ntmps36
    go_wp2_with fail
    rw [← HW.out]
    (with_reducible refine CH.out.mono ?_)
    rintro e1 w1 ⟨rfl, hb1⟩
    clear CH
    have hbz : Below H w w1 := hbW.trans (hb1.mono (by omega))
    go_wp2_with fail
    go_ret2
    exact ⟨Av, cv, rfl, HX3, x1, HX2.out, hd.below (by rw [HH.out]; exact hB) (by rw [HH.out]; exact hbz), by rw [HH.out]; exact hbz⟩
  | true =>
  rw [hm] at CH
  clear hw0 hm
  go_enter Try.func36, Try.ntmps36
  go_wp2_with fail
  rw [← HW.out]
  (with_reducible refine CH.out.mono ?_)
  rintro e1 W2 ⟨rfl, hb1⟩
  clear CH p0 p1
  have HBX := Lib.hid (hbW.trans (hb1.mono (show H ≤ W.heap.size by omega)))
  have hsz := hb1.size
  have x0 := (hb1.cell (p := ⟨H, 0, none⟩) (show H < W.heap.size by omega)).trans z0
  have x1' := (hb1.cell (p := ⟨H, 1, none⟩) (show H < W.heap.size by omega)).trans z1
  have HKD := Lib.hid (fun (b : Nat) (hb : b < H) => HBX.out.block b hb)
  have HX1 := Lib.hid x1
  clear hb1 z0 z1 x1 x2
  obtain ⟨base, hbase⟩ : ∃ base, base = W2.heap.size := ⟨_, rfl⟩
  have hXs : H < base := by omega
  have HBASE := Lib.hid hbase
  have hbase1 : base ≤ W2.heap.size := by omega
  clear hbase
  go_wp2_with fail
  rw [HH.out]
  go_loopw [8, 19] (fun u i wr => ∃ (k : Nat) (A : Option Addr) (c : Nat) (L : List It), k ≤ l.length ∧ i = .int .i64 (k : Int) ∧ L = ((l.take k).filter (fun y => decide (y ≠ ⟨p, q, n⟩))) ∧ u = .slice A L.length c ∧ Hid (A = none → c = 0) ∧ L.length ≤ c ∧ c ≤ 2 ^ 63 - 1 ∧ OwnIt wr base (.slice A L.length c) L ∧ Below base W2 wr) (fun _ i _ => l.length - (intOf i).toNat)
  case atStart => exact ⟨0, none, 0, [], Nat.zero_le _, rfl, by simp, rfl, Lib.hid (fun _ => rfl), Nat.le_refl _, by omega, World.ownsRow_nil _ _ _ _, Below.refl _ _⟩
  case round =>
    obtain ⟨k, A, c, L, hk, rfl, hL, rfl, HC, hc1, hc2, hOwr, hbr⟩ := hrel
    have hLl : L.length ≤ l.length := by rw [hL]; exact filt_le
    have HL := Lib.hid hL
    have hsr := hbr.size
    clear hL
    by_cases hlt : k < l.length
    case pos =>
      have hlr := hd.keep (w' := wr) (fun b hb => (hbr.block b (by have := hF b hb; omega)).trans (HKD.out b (hF b hb)))
      have hga : l[k]? = some l[k] := List.getElem?_eq_getElem hlt
      obtain ⟨ba, oa, rfl, _, a0, a1, a2⟩ := RdIt.elem hlr hga
      have HGA := Lib.hid hga
      clear hga
      generalize l[k] = y at *
      obtain ⟨yp, yq, yn⟩ := y
      dsimp only at a0 a1 a2
      obtain ⟨V, hV⟩ : ∃ V, V = wr.alloc (.cells #[.int .i64 yp, .int .i64 yq, .int .i64 yn] 30) := ⟨_, rfl⟩
      have hbV : Below wr.heap.size wr V := by rw [hV]; exact Below.of_alloc _
      have hPV : V.heap[wr.heap.size]? = some (.cells #[.int .i64 yp, .int .i64 yq, .int .i64 yn] 30 (0, 0)) := by rw [hV]; exact heap_alloc_new wr _
      have d0 : V.cell? ⟨wr.heap.size, 0, none⟩ = some (.int .i64 yp) := cell_of_row _ _ 0 _ _ _ hPV
      have d1 : V.cell? ⟨wr.heap.size, 1, none⟩ = some (.int .i64 yq) := cell_of_row _ _ 1 _ _ _ hPV
      have d2 : V.cell? ⟨wr.heap.size, 2, none⟩ = some (.int .i64 yn) := cell_of_row _ _ 2 _ _ _ hPV
      have g0 := (hbV.cell (p := ⟨H, 0, none⟩) (show H < wr.heap.size by omega)).trans ((hbr.cell (p := ⟨H, 0, none⟩) (show H < base by omega)).trans x0)
      have g1 := (hbV.cell (p := ⟨H, 1, none⟩) (show H < wr.heap.size by omega)).trans ((hbr.cell (p := ⟨H, 1, none⟩) (show H < base by omega)).trans x1')
      have hsV : wr.heap.size < V.heap.size := (Array.getElem?_eq_some_iff.1 hPV).1
      have hOV : OwnIt V base (.slice A L.length c) L := hOwr.below hbV
      have hbV' : Below base W2 V := hbr.trans (hbV.mono (by omega))
      have hbasV : base ≤ V.heap.size := by omega
      rw [hV] at d0 d1 d2 g0 g1
      have HV := Lib.hid hV
      clear hV hPV hlr hbV hOwr hbr
      by_cases hxy : (⟨yp, yq, yn⟩ : It) = ⟨p, q, n⟩
      · have HFS := Lib.hid (show ((l.take (k + 1)).filter (fun y => decide (y ≠ ⟨p, q, n⟩))) = ((l.take k).filter (fun y => decide (y ≠ ⟨p, q, n⟩))) by rw [filt_succ HGA.out, if_neg (by rw [hxy]; simp), List.append_nil])
        injection hxy with e1 e2 e3
        subst e1; subst e2; subst e3
        clear HGA
        go_wp2_with fail
        rw [← HV.out]
        go_roundw
        case rel => exact ⟨k + 1, A, c, L, by omega, by go_num, by rw [HFS.out, ← HL.out], rfl, HC, hc1, hc2, hOV, hbV'⟩
        case measure => simp [intOf]; omega
      · have HFS := Lib.hid (show ((l.take (k + 1)).filter (fun y => decide (y ≠ ⟨p, q, n⟩))) = ((l.take k).filter (fun y => decide (y ≠ ⟨p, q, n⟩))) ++ [⟨yp, yq, yn⟩] by rw [filt_succ HGA.out, if_pos (decide_eq_true hxy)])
        clear HGA
        by_cases e1 : yp = p
        · by_cases e2 : yq = q
          · have e3 : ¬ yn = n := fun e3 => hxy (It.ext' e1 e2 e3)
            subst e1; subst e2
            have n1 : (yn == n) = false := by rw [beq_eq_false_iff_ne]; exact e3
            have n1' : (yn != n) = true := by rw [bne_iff_ne]; exact e3
            clear hxy
            have hnew : Rd (V.alloc (.cells #[.int .i64 yp, .int .i64 yq, .int .i64 yn] 30)) (· = V.heap.size) 3 (.slice (some ⟨V.heap.size, 0, none⟩) 1 1) 1 (itC ⟨yp, yq, yn⟩) := rd_itC V ⟨yp, yq, yn⟩
            have hOa : OwnIt (V.alloc (.cells #[.int .i64 yp, .int .i64 yq, .int .i64 yn] 30)) base (.slice A L.length c) L := World.ownsRow.alloc hOV _
            have hbs5 : base ≤ (V.alloc (.cells #[.int .i64 yp, .int .i64 yq, .int .i64 yn] 30)).heap.size := by simp; omega
            obtain ⟨i0, hi, hz0, hz1, hz2⟩ := info_parts infoC
            rw [HV.out] at hnew hOa hbs5 hsV
            have hsz2 : (wr.alloc (.cells #[.int .i64 yp, .int .i64 yq, .int .i64 yn] 30)).heap.size = wr.heap.size + 1 := by simp
            rw [hsz2] at hnew
            clear hsz2
            go_wp2_with (at_builtin; refine wpList_append_app _ rfl (.tmp 33) (.tmp 35) 38 rfl base 30 i0 _ 3 24 Try.underlying38 hi hz0 hz1 hz2 rfl (by omega) _ L.length (icv L) rfl (.inl hOa) _ _ 1 (itC ⟨yp, yq, yn⟩) rfl hnew (itC_one _) (by unfold maxLen; omega) (by omega) hbs5 ?_; rw [← HV.out]; intro v5 w5 _ h5 hg5 hb5' ha5; have h5 := h5 (.inr (by rw [HV.out]; exact hOa)); obtain ⟨L5, hL5⟩ : ∃ L5, L5 = L ++ [(⟨yp, yq, yn⟩ : It)] := ⟨_, rfl⟩; have hO5 : OwnIt w5 base v5 L5 := (by rw [hL5]; exact owni_cast (a := L) (b := [⟨yp, yq, yn⟩]) h5); have hln5 : L5.length ≤ L.length + 1 := (by rw [hL5]; simp); have HL5 := Lib.hid hL5; have hb5 : Below base V w5 := ((Below.of_alloc _).mono hbasV).trans hb5'; clear h5 hg5 hb5' ha5 hL5 hOa hnew hi hz0 hz1 hz2 d0 d1 d2 g0 g1 hbs5; obtain ⟨A5, k5, rfl, c51, c52, c53⟩ := hO5.open_; have HC53 := Lib.hid c53; unfold maxLen at c52; clear c53)
            have hbF := hbV'.trans hb5
            clear hb5 hbV'
            go_wp2_with fail
            go_roundw
            case rel => exact ⟨k + 1, A5, k5, L5, by omega, by go_num, by rw [HFS.out, ← HL.out, HL5.out], rfl, HC53, c51, c52, hO5, hbF⟩
            case measure => simp [intOf]; omega
          · subst e1
            have n1 : (yq == q) = false := by rw [beq_eq_false_iff_ne]; exact e2
            have n1' : (yq != q) = true := by rw [bne_iff_ne]; exact e2
            clear hxy
            have hnew : Rd (V.alloc (.cells #[.int .i64 yp, .int .i64 yq, .int .i64 yn] 30)) (· = V.heap.size) 3 (.slice (some ⟨V.heap.size, 0, none⟩) 1 1) 1 (itC ⟨yp, yq, yn⟩) := rd_itC V ⟨yp, yq, yn⟩
            have hOa : OwnIt (V.alloc (.cells #[.int .i64 yp, .int .i64 yq, .int .i64 yn] 30)) base (.slice A L.length c) L := World.ownsRow.alloc hOV _
            have hbs5 : base ≤ (V.alloc (.cells #[.int .i64 yp, .int .i64 yq, .int .i64 yn] 30)).heap.size := by simp; omega
            obtain ⟨i0, hi, hz0, hz1, hz2⟩ := info_parts infoC
            rw [HV.out] at hnew hOa hbs5 hsV
            have hsz2 : (wr.alloc (.cells #[.int .i64 yp, .int .i64 yq, .int .i64 yn] 30)).heap.size = wr.heap.size + 1 := by simp
            rw [hsz2] at hnew
            clear hsz2
            go_wp2_with (at_builtin; refine wpList_append_app _ rfl (.tmp 33) (.tmp 35) 38 rfl base 30 i0 _ 3 24 Try.underlying38 hi hz0 hz1 hz2 rfl (by omega) _ L.length (icv L) rfl (.inl hOa) _ _ 1 (itC ⟨yp, yq, yn⟩) rfl hnew (itC_one _) (by unfold maxLen; omega) (by omega) hbs5 ?_; rw [← HV.out]; intro v5 w5 _ h5 hg5 hb5' ha5; have h5 := h5 (.inr (by rw [HV.out]; exact hOa)); obtain ⟨L5, hL5⟩ : ∃ L5, L5 = L ++ [(⟨yp, yq, yn⟩ : It)] := ⟨_, rfl⟩; have hO5 : OwnIt w5 base v5 L5 := (by rw [hL5]; exact owni_cast (a := L) (b := [⟨yp, yq, yn⟩]) h5); have hln5 : L5.length ≤ L.length + 1 := (by rw [hL5]; simp); have HL5 := Lib.hid hL5; have hb5 : Below base V w5 := ((Below.of_alloc _).mono hbasV).trans hb5'; clear h5 hg5 hb5' ha5 hL5 hOa hnew hi hz0 hz1 hz2 d0 d1 d2 g0 g1 hbs5; obtain ⟨A5, k5, rfl, c51, c52, c53⟩ := hO5.open_; have HC53 := Lib.hid c53; unfold maxLen at c52; clear c53)
            have hbF := hbV'.trans hb5
            clear hb5 hbV'
            go_wp2_with fail
            go_roundw
            case rel => exact ⟨k + 1, A5, k5, L5, by omega, by go_num, by rw [HFS.out, ← HL.out, HL5.out], rfl, HC53, c51, c52, hO5, hbF⟩
            case measure => simp [intOf]; omega
        · have n1 : (yp == p) = false := by rw [beq_eq_false_iff_ne]; exact e1
          have n1' : (yp != p) = true := by rw [bne_iff_ne]; exact e1
          clear hxy
          have hnew : Rd (V.alloc (.cells #[.int .i64 yp, .int .i64 yq, .int .i64 yn] 30)) (· = V.heap.size) 3 (.slice (some ⟨V.heap.size, 0, none⟩) 1 1) 1 (itC ⟨yp, yq, yn⟩) := rd_itC V ⟨yp, yq, yn⟩
          have hOa : OwnIt (V.alloc (.cells #[.int .i64 yp, .int .i64 yq, .int .i64 yn] 30)) base (.slice A L.length c) L := World.ownsRow.alloc hOV _
          have hbs5 : base ≤ (V.alloc (.cells #[.int .i64 yp, .int .i64 yq, .int .i64 yn] 30)).heap.size := by simp; omega
          obtain ⟨i0, hi, hz0, hz1, hz2⟩ := info_parts infoC
          rw [HV.out] at hnew hOa hbs5 hsV
          have hsz2 : (wr.alloc (.cells #[.int .i64 yp, .int .i64 yq, .int .i64 yn] 30)).heap.size = wr.heap.size + 1 := by simp
          rw [hsz2] at hnew
          clear hsz2
          go_wp2_with (at_builtin; refine wpList_append_app _ rfl (.tmp 33) (.tmp 35) 38 rfl base 30 i0 _ 3 24 Try.underlying38 hi hz0 hz1 hz2 rfl (by omega) _ L.length (icv L) rfl (.inl hOa) _ _ 1 (itC ⟨yp, yq, yn⟩) rfl hnew (itC_one _) (by unfold maxLen; omega) (by omega) hbs5 ?_; rw [← HV.out]; intro v5 w5 _ h5 hg5 hb5' ha5; have h5 := h5 (.inr (by rw [HV.out]; exact hOa)); obtain ⟨L5, hL5⟩ : ∃ L5, L5 = L ++ [(⟨yp, yq, yn⟩ : It)] := ⟨_, rfl⟩; have hO5 : OwnIt w5 base v5 L5 := (by rw [hL5]; exact owni_cast (a := L) (b := [⟨yp, yq, yn⟩]) h5); have hln5 : L5.length ≤ L.length + 1 := (by rw [hL5]; simp); have HL5 := Lib.hid hL5; have hb5 : Below base V w5 := ((Below.of_alloc _).mono hbasV).trans hb5'; clear h5 hg5 hb5' ha5 hL5 hOa hnew hi hz0 hz1 hz2 d0 d1 d2 g0 g1 hbs5; obtain ⟨A5, k5, rfl, c51, c52, c53⟩ := hO5.open_; have HC53 := Lib.hid c53; unfold maxLen at c52; clear c53)
          have hbF := hbV'.trans hb5
          clear hb5 hbV'
          go_wp2_with fail
          go_roundw
          case rel => exact ⟨k + 1, A5, k5, L5, by omega, by go_num, by rw [HFS.out, ← HL.out, HL5.out], rfl, HC53, c51, c52, hO5, hbF⟩
          case measure => simp [intOf]; omega
    case neg =>
    obtain rfl : k = l.length := by omega
    rw [List.take_length] at HL
    clear hlt hk
    go_wp2_with fail
    go_ret2
    have hx : L = remF ⟨p, q, n⟩ l := HL.out
    rw [← hx]
    exact ⟨A, c, rfl, HC, hc1, (by unfold maxLen; omega), DatIt.of_own hOwr, by rw [HH.out]; exact HBX.out.trans (hbr.mono (by omega))⟩
end Go.Proofs.Ytkocehfapcmiiaa
