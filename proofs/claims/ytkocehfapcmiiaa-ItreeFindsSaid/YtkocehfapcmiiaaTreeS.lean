/-
  The reference tree: before, Valid, Has, Add, Remove.
-/
import Derived.Test.YtkocehfapcmiiaaTreeR
namespace Go.Proofs.Ytkocehfapcmiiaa
open Go.RowKit Go.Lib Go.IntWalk

set_option maxHeartbeats 1000000 in
theorem rvalid_any (p q : Int) (w : World) : Calls Try.prog 32 #[perV p q] w fun e w' => e = .returned (.bool (vldP p q)) ∧ Below w.heap.size w w' := by
  have h0 : vldP p q = true ↔ 0 ≤ p ∧ p < q ∧ q ≤ 1099511627776 := by unfold vldP; exact decide_eq_true_iff
  generalize hv : vldP p q = v at *
  have H0 := Lib.hid h0
  clear hv h0
  have hbb : Below w.heap.size w (w.alloc (.cells #[.int .i64 p, .int .i64 q] 28)) := Below.of_alloc _
  have HB := Lib.hid hbb
  clear hbb
  by_cases h1 : 0 ≤ p
  · by_cases h2 : p < q
    · by_cases h3 : q ≤ 1099511627776
      · obtain rfl : v = true := H0.out.2 ⟨h1, h2, h3⟩
        go_enter Try.func32, Try.ntmps32
        go_wp2_with fail
        go_ret
        exact ⟨rfl, HB.out⟩
      · obtain rfl : v = false := by cases v; rfl; exact absurd (H0.out.1 rfl).2.2 h3
        go_enter Try.func32, Try.ntmps32
        go_wp2_with fail
        go_ret
        exact ⟨rfl, HB.out⟩
    · obtain rfl : v = false := by cases v; rfl; exact absurd (H0.out.1 rfl).2.1 h2
      go_enter Try.func32, Try.ntmps32
      go_wp2_with fail
      go_ret
      exact ⟨rfl, HB.out⟩
  · obtain rfl : v = false := by cases v; rfl; exact absurd (H0.out.1 rfl).1 h1
    go_enter Try.func32, Try.ntmps32
    go_wp2_with fail
    go_ret
    exact ⟨rfl, HB.out⟩

set_option maxHeartbeats 2000000 in
theorem before_any (p q n p' q' n' : Int) (w : World) : Calls Try.prog 44 #[itV ⟨p, q, n⟩, itV ⟨p', q', n'⟩] w fun e w' => e = .returned (.bool (decide (ltI ⟨p, q, n⟩ ⟨p', q', n'⟩))) ∧ Below w.heap.size w w' := by
  have hbb : Below w.heap.size w ((w.alloc (.cells #[.int .i64 p, .int .i64 q, .int .i64 n] 30)).alloc (.cells #[.int .i64 p', .int .i64 q', .int .i64 n'] 30)) := (Below.of_alloc _).trans ((Below.of_alloc _).mono (by simp))
  have HB := Lib.hid hbb
  clear hbb
  by_cases h1 : p = p'
  · subst h1
    by_cases h2 : q = q'
    · subst h2
      rw [show decide (ltI ⟨p, q, n⟩ ⟨p, q, n'⟩) = decide (n < n') from decide_eq_decide.2 (by unfold ltI; simp)]
      go_enter Try.func44, Try.ntmps44
      go_wp2_with fail
      go_ret
      exact ⟨rfl, HB.out⟩
    · rw [show decide (ltI ⟨p, q, n⟩ ⟨p, q', n'⟩) = decide (q < q') from decide_eq_decide.2 (by unfold ltI; simp [h2])]
      have b1 : (q != q') = true := by rw [bne_iff_ne]; exact h2
      go_enter Try.func44, Try.ntmps44
      go_wp2_with fail
      go_ret
      exact ⟨rfl, HB.out⟩
  · rw [show decide (ltI ⟨p, q, n⟩ ⟨p', q', n'⟩) = decide (p < p') from decide_eq_decide.2 (by unfold ltI; simp [h1])]
    have b1 : (p != p') = true := by rw [bne_iff_ne]; exact h1
    go_enter Try.func44, Try.ntmps44
    go_wp2_with fail
    go_ret
    exact ⟨rfl, HB.out⟩

set_option maxRecDepth 100000 in
set_option maxHeartbeats 2000000 in
theorem rhas_any (FA : Nat → Prop) (va : Value) (la : List It) (p q n : Int) (w : World) (ha : Rd w FA 3 va la.length (icv la)) (hF : ∀ b, FA b → b < w.heap.size) :
    Calls Try.prog 43 #[va, perV p q, .int .i64 n] w fun e w' => e = .returned (.bool (decide ((⟨p, q, n⟩ : It) ∈ la))) ∧ Below w.heap.size w w' := by
  obtain ⟨Aa, ca, rfl, x1, x2, x3⟩ := ha.open_
  have HX3 := Lib.hid x3
  unfold maxLen at x2
  clear x3
  obtain ⟨W, hW⟩ : ∃ W, W = w.alloc (.cells #[.int .i64 p, .int .i64 q] 28) := ⟨_, rfl⟩
  have hbW : Below w.heap.size w W := by rw [hW]; exact Below.of_alloc _
  have hsW : W.heap.size = w.heap.size + 1 := by rw [hW]; simp
  have hPW : W.heap[w.heap.size]? = some (.cells #[.int .i64 p, .int .i64 q] 28 (0, 0)) := by rw [hW]; exact heap_alloc_new w _
  have p0 : W.cell? ⟨w.heap.size, 0, none⟩ = some (.int .i64 p) := cell_of_row _ _ 0 _ _ _ hPW
  have p1 : W.cell? ⟨w.heap.size, 1, none⟩ = some (.int .i64 q) := cell_of_row _ _ 1 _ _ _ hPW
  have HW := Lib.hid hW
  clear hW hPW
  generalize hH : w.heap.size = H at *
  have HH := Lib.hid hH
  clear hH
  generalize hres : decide ((⟨p, q, n⟩ : It) ∈ la) = res
  have HR := Lib.hid hres
  clear hres
  go_enter Try.func43, Try.ntmps43
  go_wp2_with fail
  rw [← HW.out, HH.out]
  go_loopw [11] (fun i wr => ∃ k : Nat, k ≤ la.length ∧ i = .int .i64 (k : Int) ∧ (⟨p, q, n⟩ : It) ∉ la.take k ∧ Below W.heap.size W wr) (fun i _ => la.length - (intOf i).toNat)
  case atStart => exact ⟨0, Nat.zero_le _, rfl, by simp, Below.refl _ _⟩
  case round =>
    obtain ⟨k, hk, rfl, htk, hbr⟩ := hrel
    have HTK := Lib.hid htk
    have hsr := hbr.size
    clear htk
    by_cases hlt : k < la.length
    case pos =>
      have hlr := ha.keep (w' := wr) (fun b hb => (hbr.block b (by have := hF b hb; omega)).trans (hbW.block b (hF b hb)))
      have hga : la[k]? = some la[k] := List.getElem?_eq_getElem hlt
      obtain ⟨ba, oa, rfl, _, a0, a1, a2⟩ := RdIt.elem hlr hga
      have HGA := Lib.hid hga
      clear hga
      generalize la[k] = y at *
      obtain ⟨yp, yq, yn⟩ := y
      dsimp only at a0 a1 a2
      obtain ⟨V, hV⟩ : ∃ V, V = wr.alloc (.cells #[.int .i64 yp, .int .i64 yq, .int .i64 yn] 30) := ⟨_, rfl⟩
      have hbV : Below wr.heap.size wr V := by rw [hV]; exact Below.of_alloc _
      have hPV : V.heap[wr.heap.size]? = some (.cells #[.int .i64 yp, .int .i64 yq, .int .i64 yn] 30 (0, 0)) := by rw [hV]; exact heap_alloc_new wr _
      have d0 : V.cell? ⟨wr.heap.size, 0, none⟩ = some (.int .i64 yp) := cell_of_row _ _ 0 _ _ _ hPV
      have d1 : V.cell? ⟨wr.heap.size, 1, none⟩ = some (.int .i64 yq) := cell_of_row _ _ 1 _ _ _ hPV
      have d2 : V.cell? ⟨wr.heap.size, 2, none⟩ = some (.int .i64 yn) := cell_of_row _ _ 2 _ _ _ hPV
      have g0 := (hbV.cell (p := ⟨H, 0, none⟩) (show H < wr.heap.size by omega)).trans ((hbr.cell (p := ⟨H, 0, none⟩) (show H < W.heap.size by omega)).trans p0)
      have g1 := (hbV.cell (p := ⟨H, 1, none⟩) (show H < wr.heap.size by omega)).trans ((hbr.cell (p := ⟨H, 1, none⟩) (show H < W.heap.size by omega)).trans p1)
      rw [hV] at d0 d1 d2 g0 g1
      have HV := Lib.hid hV
      clear hV hPV hlr p0 p1
      by_cases hxy : (⟨yp, yq, yn⟩ : It) = ⟨p, q, n⟩
      · have HD := Lib.hid (show res = true by rw [← HR.out]; exact decide_eq_true (hxy ▸ List.mem_of_getElem? HGA.out))
        injection hxy with e1 e2 e3
        subst e1; subst e2; subst e3
        clear HGA
        go_wp2_with fail
        rw [← HV.out]
        go_ret
        exact ⟨by rw [HD.out]; rfl, hbW.trans ((hbr.trans (hbV.mono hsr)).mono (by omega))⟩
      · have HNM := Lib.hid (show (⟨p, q, n⟩ : It) ∉ la.take (k + 1) from fun h => ((take_mem HGA.out _).1 h).elim HTK.out (fun e => hxy e.symm))
        clear HGA
        by_cases e1 : yp = p
        · by_cases e2 : yq = q
          · have e3 : ¬ yn = n := fun e3 => hxy (It.ext' e1 e2 e3)
            subst e1; subst e2
            have n1 : (yn == n) = false := by rw [beq_eq_false_iff_ne]; exact e3
            have n1' : (yn != n) = true := by rw [bne_iff_ne]; exact e3
            clear e3
            go_wp2_with fail
            rw [← HV.out]
            go_roundw
            case rel => exact ⟨k + 1, by omega, by go_num, HNM.out, hbr.trans (hbV.mono hbr.size)⟩
            case measure => simp [intOf]; omega
          · subst e1
            have n1 : (yq == q) = false := by rw [beq_eq_false_iff_ne]; exact e2
            clear e2
            go_wp2_with fail
            rw [← HV.out]
            go_roundw
            case rel => exact ⟨k + 1, by omega, by go_num, HNM.out, hbr.trans (hbV.mono hbr.size)⟩
            case measure => simp [intOf]; omega
        · have n1 : (yp == p) = false := by rw [beq_eq_false_iff_ne]; exact e1
          clear e1
          go_wp2_with fail
          rw [← HV.out]
          go_roundw
          case rel => exact ⟨k + 1, by omega, by go_num, HNM.out, hbr.trans (hbV.mono hbr.size)⟩
          case measure => simp [intOf]; omega
    case neg =>
    have HD := Lib.hid (show res = false by
      rw [← HR.out]
      refine decide_eq_false ?_
      have := HTK.out
      rwa [List.take_of_length_le (by omega)] at this)
    go_wp2_with fail
    go_ret
    exact ⟨by rw [HD.out]; rfl, hbW.trans (hbr.mono (by omega))⟩

end Go.Proofs.Ytkocehfapcmiiaa
