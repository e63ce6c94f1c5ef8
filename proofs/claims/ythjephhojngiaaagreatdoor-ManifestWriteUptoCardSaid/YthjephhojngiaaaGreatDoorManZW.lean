/-
  Manifests: the walk of ManifestWrite.
-/
import Derived.Test.YthjephhojngiaaaGreatDoorManZC
namespace Go.Proofs.YthjephhojngiaaaGreatDoor
open Go.RowKit Go.Lib Go.IntWalk

theorem own_chgS {w w' : World} {base K : Nat} {v : Value} {l : List (List UInt8)} (h : OwnS w base v l) (hc : Chg (· = K) w w') (hK : K < base) : OwnS w' base v l := by
  obtain ⟨k1, k2⟩ := h
  refine ⟨k1, ?_⟩
  rcases k2 with k2 | ⟨g, cap, cur, hv, hg, hr, rest⟩
  · exact .inl k2
  · have hgl : g < w.heap.size := (Array.getElem?_eq_some_iff.1 hr).1
    exact .inr ⟨g, cap, cur, hv, hg, (hc.block g hgl (by omega)).trans hr, rest⟩
set_option maxRecDepth 100000 in
set_option maxHeartbeats 16000000 in
theorem lawWrite_any (v : Value) (fl : FL) (As : Option Addr) (cs : Nat) (m : Man) (w : World) (hE : EnvT w) (hv : FlsRd w.heap.size w v fl) (hl : flsum fl + fl.length ≤ 1048576) (hnl : ∀ p ∈ fl, p.1.length ≤ maxLen) (h0 : Rd w (· < w.heap.size) 1 (.slice As m.segs.length cs) m.segs.length (sv m.segs)) (hsm : mSize m ≤ 4194304) :
    Calls Tryz.prog 3 #[v, manV As cs m] w fun e w' => e = .returned (.bool true) ∧ Below w.heap.size w w' := by
  obtain ⟨Av, cv, rfl, a1, a2, a3⟩ := hv.open_
  have HA3 := Lib.hid a3
  unfold maxLen at a2
  clear a3
  obtain ⟨W, hW⟩ : ∃ W, W = w.alloc (.cells (rowM As cs m) 25) := ⟨_, rfl⟩
  have hbW : Below w.heap.size w W := by rw [hW]; exact Below.of_alloc _
  have hsW : W.heap.size = w.heap.size + 1 := by rw [hW]; simp
  have hPW : W.heap[w.heap.size]? = some (.cells (rowM As cs m) 25 (0, 0)) := by rw [hW]; exact heap_alloc_new w _
  have hrW : Rd W (· < w.heap.size) 1 (.slice As m.segs.length cs) m.segs.length (sv m.segs) := h0.keep fun b hb => hbW.block b hb
  obtain ⟨_, _, hce, x1, x2, x3⟩ := Rd.open_ h0
  have HX3 := Lib.hid x3
  unfold maxLen at x2
  have HW := Lib.hid hW
  have hvW : FlsRd w.heap.size W (.slice Av fl.length cv) fl := hv.below (Nat.le_refl _) hbW
  clear hW h0 x3 hce x1 hv
  generalize hH : w.heap.size = H at *
  have HH := Lib.hid hH
  clear hH
  have HEB : Hid (∀ w', Below H w w' → EnvT w') := Lib.hid fun w' hb => hE.below (by rw [HH.out]; exact hb)
  clear hE
  have HNL := Lib.hid hnl
  clear hnl
  generalize hres : loadF fl (fun _ => none) = res at *
  have HRES := Lib.hid hres
  clear hres
  have hnot : ∀ (x : Bool) (w : World), (Op.unary .not (.bool x)).run Tryz.prog w = .ok (.bool (!x)) w := fun _ _ => rfl
  go_enter Tryz.func3, Tryz.ntmps3
  go_wp2_with fail
  rw [← HW.out]
  (with_reducible refine (mread_nil W).mono ?_)
  rintro _ u0 ⟨rfl, hb0⟩
  rw [HH.out]
  have hsu0 := hb0.size
  obtain ⟨U, hU⟩ : ∃ U, U = u0.alloc (.cells #[.string ⟨#[]⟩, .slice none 0 0, .string ⟨#[]⟩, .int .i64 0, .int .i64 0] 25) := ⟨_, rfl⟩
  have hbU : Below u0.heap.size u0 U := by rw [hU]; exact Below.of_alloc _
  have hNU : U.heap[u0.heap.size]? = some (.cells #[.string ⟨#[]⟩, .slice none 0 0, .string ⟨#[]⟩, .int .i64 0, .int .i64 0] 25 (0, 0)) := by rw [hU]; exact heap_alloc_new _ _
  have hsU := hbU.size
  have n0 : U.cell? ⟨u0.heap.size, 0, none⟩ = some (.string ⟨#[]⟩) := cell_of_row _ _ 0 _ _ _ hNU
  have n1 : U.cell? ⟨u0.heap.size, 1, none⟩ = some (.slice none 0 0) := cell_of_row _ _ 1 _ _ _ hNU
  have n2 : U.cell? ⟨u0.heap.size, 2, none⟩ = some (.string ⟨#[]⟩) := cell_of_row _ _ 2 _ _ _ hNU
  have n3 : U.cell? ⟨u0.heap.size, 3, none⟩ = some (.int .i64 0) := cell_of_row _ _ 3 _ _ _ hNU
  have n4 : U.cell? ⟨u0.heap.size, 4, none⟩ = some (.int .i64 0) := cell_of_row _ _ 4 _ _ _ hNU
  rw [hU] at n0 n1 n2 n3 n4
  have HU := Lib.hid hU
  clear hU hNU
  go_wp2_with fail
  rw [← HU.out]
  (with_reducible refine (rsame_zero U).mono ?_)
  rintro _ u1 ⟨rfl, hb1⟩
  have hsu1 := hb1.size
  have hBu1 : Below H w u1 := ((hbW.trans (hb0.mono (by omega))).trans (hbU.mono (by omega))).trans (hb1.mono (by omega))
  have hbWu : Below W.heap.size W u1 := (hb0.trans (hbU.mono (by omega))).trans (hb1.mono (by omega))
  have hPu1 := (hbWu.block H (by omega)).trans hPW
  have c0 : u1.cell? ⟨H, 0, none⟩ = some (.string (strB m.base)) := cell_of_row _ _ 0 _ _ _ hPu1
  have c1 : u1.cell? ⟨H, 1, none⟩ = some (.slice As m.segs.length cs) := cell_of_row _ _ 1 _ _ _ hPu1
  have c2 : u1.cell? ⟨H, 2, none⟩ = some (.string (strB m.log)) := cell_of_row _ _ 2 _ _ _ hPu1
  have c3 : u1.cell? ⟨H, 3, none⟩ = some (.int .i64 m.tx) := cell_of_row _ _ 3 _ _ _ hPu1
  have c4 : u1.cell? ⟨H, 4, none⟩ = some (.int .i64 m.nx) := cell_of_row _ _ 4 _ _ _ hPu1
  go_wp2_with fail
  (with_reducible refine (mwrite_nil As cs m u1).mono ?_)
  rintro _ u2 ⟨rfl, hb2⟩
  have hsu2 := hb2.size
  have hB0 : Below H w u2 := hBu1.trans (hb2.mono (by omega))
  have hbWu2 : Below W.heap.size W u2 := hbWu.trans (hb2.mono (by omega))
  have hP0 := (hb2.block H (by omega)).trans hPu1
  have hr0 : Rd u2 (· < H) 1 (.slice As m.segs.length cs) m.segs.length (sv m.segs) := hrW.keep fun b hb => hbWu2.block b (by omega)
  have hv0 : FlsRd H u2 (.slice Av fl.length cv) fl := hvW.below (by omega) hbWu2
  have hs0 : H < u2.heap.size := by omega
  clear hrW hvW hPW hPu1 c0 c1 c2 c3 c4 n0 n1 n2 n3 n4 hbWu hbWu2 hBu1 hb0 hb1 hb2 hbU hsW hbW HU HW hsU hsu0 hsu1 hsu2
  have CL := Lib.hid (dload_any H _ fl u2 (by omega) hv0 (by omega) (by omega) HNL.out)
  rw [HRES.out] at CL
  go_wp2_with fail
  (with_reducible refine CL.out.mono ?_)
  rintro e1 w1 ⟨hb1, hr1⟩
  have hs1 := hb1.size
  have hB1 : Below H w w1 := hB0.trans (hb1.mono (by omega))
  have hP1 := (hb1.block H (by omega)).trans hP0
  have hrm1 : Rd w1 (· < H) 1 (.slice As m.segs.length cs) m.segs.length (sv m.segs) := hr0.keep fun b hb => hb1.block b (by omega)
  have hv1 : FlsRd H w1 (.slice Av fl.length cv) fl := hv0.below (by omega) hb1
  have CR := Lib.hid (rload_any H _ fl w1 (by omega) hv1 (by omega) (by omega) HNL.out)
  rw [HRES.out] at CR
  clear CL hP0 hr0 hv0 hB0
  cases res with
  | none =>
    simp only at hr1
    subst hr1
    go_wp2_with fail
    (with_reducible refine CR.out.mono ?_)
    rintro e2 w2 ⟨hb2, hr2⟩
    simp only at hr2
    subst hr2
    have hs2 := hb2.size
    have hbX : Below w1.heap.size w1 (w2.alloc (.cells #[.slice none 0 0, .slice none 0 0] 35)) := hb2.trans ((Below.of_alloc _).mono hs2)
    obtain ⟨X, hX⟩ : ∃ X, X = w2.alloc (.cells #[.slice none 0 0, .slice none 0 0] 35) := ⟨_, rfl⟩
    rw [← hX] at hbX
    have hsX := hbX.size
    have hBX : Below H w X := hB1.trans (hbX.mono (by omega))
    have HX := Lib.hid hX
    clear hX
    go_wp2_with fail
    rw [← HX.out]
    (with_reducible refine (mworks_any X (HEB.out _ hBX)).mono ?_)
    rintro ez wz ⟨rfl, hbz⟩
    go_wp2_with fail
    go_ret
    exact ⟨rfl, (hBX).trans (hbz.mono (by omega))⟩
  | some fm =>
    simp only at hr1
    obtain ⟨D, rfl, hDl, hD1⟩ := hr1
    go_wp2_with fail
    (with_reducible refine CR.out.mono ?_)
    rintro e2 w2 ⟨hb2, hr2⟩
    simp only at hr2
    obtain ⟨lv, fl2, rfl, hf2, hI2, hz2⟩ := hr2
    have hs2 := hb2.size
    have hD2 := hD1.below (by omega) hb2
    have hv2 : FlsRd H w2 (.slice Av fl.length cv) fl := hv1.below (by omega) hb2
    have hP2 := (hb2.block H (by omega)).trans hP1
    have hrm2 : Rd w2 (· < H) 1 (.slice As m.segs.length cs) m.segs.length (sv m.segs) := hrm1.keep fun b hb => hb2.block b (by omega)
    have hB2 : Below H w w2 := hB1.trans (hb2.mono (by omega))
    have hl2 : fl2.length ≤ 1048576 := by have := hz2.len; simp at this; omega
    obtain ⟨Al, cl, rfl, l1, l2, l3⟩ := hf2.open_
    have HL3 := Lib.hid l3
    unfold maxLen at l2
    obtain ⟨X, hX⟩ : ∃ X, X = w2.alloc (.cells #[.slice Al fl2.length cl, .slice none 0 0] 35) := ⟨_, rfl⟩
    have hbX : Below w2.heap.size w2 X := by rw [hX]; exact Below.of_alloc _
    have hTX : X.heap[w2.heap.size]? = some (.cells #[.slice Al fl2.length cl, .slice none 0 0] 35 (0, 0)) := by rw [hX]; exact heap_alloc_new _ _
    have hsX := hbX.size
    have hsX' : w2.heap.size < X.heap.size := by rw [hX]; simp
    have hDX := hD2.below (by omega) hbX
    have hvX : FlsRd H X (.slice Av fl.length cv) fl := hv2.below (by omega) hbX
    have hfX := hf2.below (by omega) hbX
    have hPX := (hbX.block H (by omega)).trans hP2
    have hrX : Rd X (· < H) 1 (.slice As m.segs.length cs) m.segs.length (sv m.segs) := hrm2.keep fun b hb => hbX.block b (by omega)
    have hBX : Below H w X := hB2.trans (hbX.mono (by omega))
    have CF := Lib.hid (files_any _ fl X (by obtain ⟨ps, q1, q2, q3⟩ := hvX; exact ⟨ps, q1, q2.wide (fun b hb => by rcases hb with hb | ⟨cs, hb⟩; exact .inl (by omega); exact .inr ⟨cs, hb⟩), fun p hp => (q3 p hp).wide (fun b hb => by rcases hb with hb | ⟨cs, fr, hb⟩; exact .inl (by omega); exact .inr ⟨cs, fr, hb⟩)⟩) hl)
    have HX := Lib.hid hX
    clear hX l3 CR hD1 hD2 hv1 hv2 hP1 hP2 hrm1 hrm2 hf2
    go_wp2_with fail
    rw [← HX.out]
    (with_reducible refine CF.out.mono ?_)
    rintro e3 w3 ⟨rfl, hb3⟩
    have hs3 := hb3.size
    have hP3 := (hb3.block H (by omega)).trans hPX
    have hT3 := (hb3.block w2.heap.size (by omega)).trans hTX
    have hr3 : Rd w3 (· < H) 1 (.slice As m.segs.length cs) m.segs.length (sv m.segs) := hrX.keep fun b hb => hb3.block b (by omega)
    have hB3 : Below H w w3 := hBX.trans (hb3.mono (by omega))
    clear CF
    by_cases hsmall : (flsum fl : Int) + fl.length ≤ 4000
    case neg =>
      rw [decide_eq_false hsmall]
      go_wp2_with fail
      (with_reducible refine (mworks_any w3 (HEB.out _ hB3)).mono ?_)
      rintro ez wz ⟨rfl, hbz⟩
      go_wp2_with fail
      go_ret
      exact ⟨rfl, (hB3).trans (hbz.mono (by omega))⟩
    case pos =>
      rw [decide_eq_true hsmall]
      have CG := Lib.hid (large_any (· < H) As cs m w3 hr3 (fun b hb => by omega) hsm)
      have c0 : w3.cell? ⟨H, 0, none⟩ = some (.string (strB m.base)) := cell_of_row _ _ 0 _ _ _ hP3
      have c1 : w3.cell? ⟨H, 1, none⟩ = some (.slice As m.segs.length cs) := cell_of_row _ _ 1 _ _ _ hP3
      have c2 : w3.cell? ⟨H, 2, none⟩ = some (.string (strB m.log)) := cell_of_row _ _ 2 _ _ _ hP3
      have c3 : w3.cell? ⟨H, 3, none⟩ = some (.int .i64 m.tx) := cell_of_row _ _ 3 _ _ _ hP3
      have c4 : w3.cell? ⟨H, 4, none⟩ = some (.int .i64 m.nx) := cell_of_row _ _ 4 _ _ _ hP3
      go_wp2_with fail
      (with_reducible refine CG.out.mono ?_)
      rintro e4 w4 ⟨bl, rfl, hbl, hb4⟩
      have hs4 := hb4.size
      have hP4 := (hb4.block H (by omega)).trans hP3
      have hT4 := (hb4.block w2.heap.size (by omega)).trans hT3
      have hr4 : Rd w4 (· < H) 1 (.slice As m.segs.length cs) m.segs.length (sv m.segs) := hr3.keep fun b hb => hb4.block b (by omega)
      have hB4 : Below H w w4 := hB3.trans (hb4.mono (by omega))
      clear c0 c1 c2 c3 c4 CG
      cases bl with
      | true =>
        go_wp2_with fail
        (with_reducible refine (mworks_any w4 (HEB.out _ hB4)).mono ?_)
        rintro ez wz ⟨rfl, hbz⟩
        go_wp2_with fail
        go_ret
        exact ⟨rfl, (hB4).trans (hbz.mono (by omega))⟩
      | false =>
        have hz := hbl.out rfl
        have hsg := segs_le m
        have hD4 := (hDX.below (by omega) hb3).below (by omega) hb4
        have hf4 := (hfX.below (by omega) hb3).below (by omega) hb4
        have hTl : w2.heap.size < w4.heap.size := by omega
        have hHT : H < w2.heap.size := by omega
        have hHD : H < D := by omega
        have hZ0 : flsum fl + fl.length ≤ 4000 := by omega
        generalize hT : w2.heap.size = T at *
        have HT := Lib.hid hT
        clear hT
        clear hDX hfX hPX hTX hrX hvX hbX hBX hP3 hT3 hr3 hB3 hb3 hb4 hb1 hb2 hB1 hB2 HX hsX hsX' hs3 hs2 hs1 hs4 hDl
        have hfl2 : lookL (viewL fl2 []) fileN = fm fileN := hI2.2 fileN
        have CM : Hid (Calls Tryz.prog 5 #[.pointer (some ⟨D, 0, none⟩)] w4 (MRead (readF (fm fileN)) w4)) := Lib.hid (mread_any H _ D none fm [] w4 (by omega) hD4 (by omega) (fun l h => by have := hD4.file h; omega))
        have HRL : Hid (∀ l, lookL (viewL fl2 []) fileN = some l → l.length ≤ 1000000) := Lib.hid fun l h => by rw [hfl2] at h; have := hD4.file (nm := fileN) (l := l) h; omega
        have HLK := Lib.hid hfl2
        clear hfl2
        obtain ⟨R, hR⟩ : ∃ R, R = readF (fm fileN) := ⟨_, rfl⟩
        have HR := Lib.hid hR
        rw [← hR] at CM
        clear hR
        obtain ⟨rm, rb, re⟩ := R
        go_wp2_with fail
        (with_reducible refine CM.out.mono ?_)
        rintro e5 w5 ⟨A5, k5, rfl, hO5, hb5⟩
        dsimp only at hO5 ⊢
        have hs5 := hb5.size
        obtain ⟨X5, hX5⟩ : ∃ X, X = w5.alloc (.cells (rowM A5 k5 rm) 25) := ⟨_, rfl⟩
        have hbX5 : Below w5.heap.size w5 X5 := by rw [hX5]; exact Below.of_alloc _
        have hN5 : X5.heap[w5.heap.size]? = some (.cells (rowM A5 k5 rm) 25 (0, 0)) := by rw [hX5]; exact heap_alloc_new _ _
        have hsX5 := hbX5.size
        have hsX5' : w5.heap.size < X5.heap.size := by rw [hX5]; simp
        have hb45 : Below w4.heap.size w4 X5 := hb5.trans (hbX5.mono (by omega))
        have hO5' := hO5.below hbX5
        have hT5 := (hb45.block T (by omega)).trans hT4
        have hf5 := hf4.below (by omega) hb45
        have CRM : Hid (Calls Tryz.prog 13 #[.agg #[.slice Al fl2.length cl, .slice none 0 0]] X5 (MRead (rm, rb, re) X5)) := Lib.hid (by
          have h := rmread_any H _ _ _ fl2 [] X5 (by omega) hf5 (DosRd.nil _ _) hz2 (by omega) HRL.out
          rw [HLK.out, ← HR.out] at h
          exact h)
        have t0 : X5.cell? ⟨T, 0, none⟩ = some (.slice Al fl2.length cl) := cell_of_row _ _ 0 _ _ _ hT5
        have t1 : X5.cell? ⟨T, 1, none⟩ = some (.slice none 0 0) := cell_of_row _ _ 1 _ _ _ hT5
        rw [hX5] at t0 t1
        have HX5 := Lib.hid hX5
        clear hX5 CM hO5
        go_wp2_with fail
        rw [← HX5.out]
        (with_reducible refine CRM.out.mono ?_)
        rintro e6 w6 ⟨A6, k6, rfl, hO6, hb6⟩
        dsimp only at hO6 ⊢
        have hs6 := hb6.size
        obtain ⟨X6, hX6⟩ : ∃ X, X = w6.alloc (.cells (rowM A6 k6 rm) 25) := ⟨_, rfl⟩
        have hbX6 : Below w6.heap.size w6 X6 := by rw [hX6]; exact Below.of_alloc _
        have hN6 : X6.heap[w6.heap.size]? = some (.cells (rowM A6 k6 rm) 25 (0, 0)) := by rw [hX6]; exact heap_alloc_new _ _
        have hsX6 := hbX6.size
        have hsX6' : w6.heap.size < X6.heap.size := by rw [hX6]; simp
        have hb56 : Below X5.heap.size X5 X6 := hb6.trans (hbX6.mono (by omega))
        have hN5' := (hb56.block w5.heap.size (by omega)).trans hN5
        have hO5a : OwnS X6 w4.heap.size (.slice A5 rm.segs.length k5) rm.segs := hO5'.below (hb56.mono (by omega))
        have hO6a := hO6.below hbX6
        have CS := Lib.hid (rsame_any _ _ A5 k5 rm A6 k6 rm X6 (Rd.of_own hO5a) (Rd.of_own hO6a) (fun b hb => hb.2) (fun b hb => hb.2))
        rw [show decide (rm = rm) = true from by simp] at CS
        have n0 : X6.cell? ⟨w5.heap.size, 0, none⟩ = some (.string (strB rm.base)) := cell_of_row _ _ 0 _ _ _ hN5'
        have n1 : X6.cell? ⟨w5.heap.size, 1, none⟩ = some (.slice A5 rm.segs.length k5) := cell_of_row _ _ 1 _ _ _ hN5'
        have n2 : X6.cell? ⟨w5.heap.size, 2, none⟩ = some (.string (strB rm.log)) := cell_of_row _ _ 2 _ _ _ hN5'
        have n3 : X6.cell? ⟨w5.heap.size, 3, none⟩ = some (.int .i64 rm.tx) := cell_of_row _ _ 3 _ _ _ hN5'
        have n4 : X6.cell? ⟨w5.heap.size, 4, none⟩ = some (.int .i64 rm.nx) := cell_of_row _ _ 4 _ _ _ hN5'
        have o0 : X6.cell? ⟨w6.heap.size, 0, none⟩ = some (.string (strB rm.base)) := cell_of_row _ _ 0 _ _ _ hN6
        have o1 : X6.cell? ⟨w6.heap.size, 1, none⟩ = some (.slice A6 rm.segs.length k6) := cell_of_row _ _ 1 _ _ _ hN6
        have o2 : X6.cell? ⟨w6.heap.size, 2, none⟩ = some (.string (strB rm.log)) := cell_of_row _ _ 2 _ _ _ hN6
        have o3 : X6.cell? ⟨w6.heap.size, 3, none⟩ = some (.int .i64 rm.tx) := cell_of_row _ _ 3 _ _ _ hN6
        have o4 : X6.cell? ⟨w6.heap.size, 4, none⟩ = some (.int .i64 rm.nx) := cell_of_row _ _ 4 _ _ _ hN6
        rw [hX6] at n0 n1 n2 n3 n4 o0 o1 o2 o3 o4
        have HX6 := Lib.hid hX6
        clear hX6 CRM hO6 t0 t1
        have hnb : (rb != rb) = false := by simp
        have hne : (re != re) = false := by simp
        go_wp2_with fail
        rw [← HX6.out]
        (with_reducible refine CS.out.mono ?_)
        rintro e7 w7 ⟨rfl, hb7⟩
        have hs7 := hb7.size
        clear n0 n1 n2 n3 n4 o0 o1 o2 o3 o4
        generalize hK : w5.heap.size = K at *
        have HK := Lib.hid hK
        clear hK
        have hb47 : Below w4.heap.size w4 w7 := (hb45.trans (hb56.mono (by omega))).trans (hb7.mono (by omega))
        have hb57 : Below X5.heap.size X5 w7 := hb56.trans (hb7.mono (by omega))
        have hP7 := (hb47.block H (by omega)).trans hP4
        have hT7 := (hb47.block T (by omega)).trans hT4
        have hN7 := (hb57.block K (by omega)).trans hN5
        have hD7 := hD4.below (by omega) hb47
        have hf7 := hf4.below (by omega) hb47
        have hr7 : Rd w7 (· < H) 1 (.slice As m.segs.length cs) m.segs.length (sv m.segs) := hr4.keep fun b hb => hb47.block b (by omega)
        have hB7 : Below H w w7 := hB4.trans (hb47.mono (by omega))
        have hKl : K < w7.heap.size := by omega
        have hTK : T < K := by omega
        have hTl7 : T < w7.heap.size := by omega
        have hHl7 : H < w7.heap.size := by omega
        clear hb45 hb56 hb57 hb7 hbX5 hbX6 hb5 hb6 hs7 hsX6 hsX6' hs6 hsX5 hsX5' hs5 hN5 hN5' hN6 hO5' hO5a hO6a hT5 hf5 HX5 HX6 hT4 hP4 hr4 hD4 hf4 hB4 hb47 hnb hne hTl CS HR HRL HLK
        have CW := Lib.hid (mwrite2 H _ D fm (· < H) As cs m w7 (by omega) hD7 (by omega) hr7 (fun b hb => by omega) hz)
        have hI3 := wf_is hI2 m
        have hz3 := wfl_sz hz2 hz
        obtain ⟨fm3, hfm3⟩ : ∃ f, f = wfm fm m := ⟨_, rfl⟩
        have HFM := Lib.hid hfm3
        obtain ⟨fl3, hfl3⟩ : ∃ f, f = wfl fl2 m := ⟨_, rfl⟩
        have HFL := Lib.hid hfl3
        obtain ⟨ce, hce⟩ : ∃ c, c = chkF m := ⟨_, rfl⟩
        have HCE := Lib.hid hce
        rw [← hfm3, ← hce] at CW
        rw [← hfm3, ← hfl3] at hI3
        rw [← hfl3] at hz3
        clear hfm3 hfl3 hce
        generalize hZ : flsum fl + fl.length = Z at *
        have HZ := Lib.hid hZ
        clear hZ
        have c0 : w7.cell? ⟨H, 0, none⟩ = some (.string (strB m.base)) := cell_of_row _ _ 0 _ _ _ hP7
        have c1 : w7.cell? ⟨H, 1, none⟩ = some (.slice As m.segs.length cs) := cell_of_row _ _ 1 _ _ _ hP7
        have c2 : w7.cell? ⟨H, 2, none⟩ = some (.string (strB m.log)) := cell_of_row _ _ 2 _ _ _ hP7
        have c3 : w7.cell? ⟨H, 3, none⟩ = some (.int .i64 m.tx) := cell_of_row _ _ 3 _ _ _ hP7
        have c4 : w7.cell? ⟨H, 4, none⟩ = some (.int .i64 m.nx) := cell_of_row _ _ 4 _ _ _ hP7
        go_wp2_with fail
        (with_reducible refine CW.out.mono ?_)
        rintro e8 w8 ⟨rfl, hD8, hc8⟩
        have hs8 := hc8.size
        have hP8 := (hc8.block H (by omega) (hD7.not_log hP7 (by decide) (by decide))).trans hP7
        have hT8 := (hc8.block T (by omega) (hD7.not_log hT7 (by decide) (by decide))).trans hT7
        have hN8 := (hc8.block K (by omega) (hD7.not_log hN7 (by decide) (by decide))).trans hN7
        have hf8 := hf7.chg (by omega) hc8 hD7.br hD7.fr34
        have hr8 : Rd w8 (· < H) 1 (.slice As m.segs.length cs) m.segs.length (sv m.segs) := hr7.keep fun b hb => hc8.block b (by omega) (fun h => by have := hD7.ge h; omega)
        have hB8 : Below H w w8 := hB7.trans (hD7.bel (by omega) hc8)
        clear c0 c1 c2 c3 c4 CW hP7 hT7 hN7 hf7 hr7 hB7 hD7 hc8
        have CR := Lib.hid (rmwrite2 H _ _ _ fl2 (· < H) As cs m w8 (by omega) hf8 (DosRd.nil _ _) hz2 (by omega) hr8 (fun b hb => by omega) hz)
        rw [← HFL.out, ← HCE.out] at CR
        have t0 : w8.cell? ⟨T, 0, none⟩ = some (.slice Al fl2.length cl) := cell_of_row _ _ 0 _ _ _ hT8
        have t1 : w8.cell? ⟨T, 1, none⟩ = some (.slice none 0 0) := cell_of_row _ _ 1 _ _ _ hT8
        have c0 : w8.cell? ⟨H, 0, none⟩ = some (.string (strB m.base)) := cell_of_row _ _ 0 _ _ _ hP8
        have c1 : w8.cell? ⟨H, 1, none⟩ = some (.slice As m.segs.length cs) := cell_of_row _ _ 1 _ _ _ hP8
        have c2 : w8.cell? ⟨H, 2, none⟩ = some (.string (strB m.log)) := cell_of_row _ _ 2 _ _ _ hP8
        have c3 : w8.cell? ⟨H, 3, none⟩ = some (.int .i64 m.tx) := cell_of_row _ _ 3 _ _ _ hP8
        have c4 : w8.cell? ⟨H, 4, none⟩ = some (.int .i64 m.nx) := cell_of_row _ _ 4 _ _ _ hP8
        go_wp2_with fail
        (with_reducible refine CR.out.mono ?_)
        rintro e9 w9 ⟨_, _, rfl, hf9, ho9, hb9⟩
        have hs9 := hb9.size
        obtain ⟨A9, c9, rfl, y1, y2, y3⟩ := hf9.open_
        obtain ⟨B9, d9, rfl, z1, z2, z3⟩ := ho9.open_
        have HY3 := Lib.hid y3
        have HZ3 := Lib.hid z3
        clear y3 z3 c0 c1 c2 c3 c4 t0 t1 CR
        simp only [List.length_nil] at z1 ho9 ⊢
        have hP9 := (hb9.block H (by omega)).trans hP8
        have hT9 := (hb9.block T (by omega)).trans hT8
        have hN9 := (hb9.block K (by omega)).trans hN8
        have hD9 := hD8.below (by omega) hb9
        obtain ⟨q0, q1, q2, q3, q6, q4, q5, hC⟩ := two_store w9 T _ _ (.slice A9 fl3.length c9) (.slice B9 0 d9) _ hT9
        obtain ⟨Y, hY⟩ : ∃ Y, Y = ((w9.setCell ⟨T, 0, none⟩ (.slice A9 fl3.length c9)).setCell ⟨T, 1, none⟩ (.slice B9 0 d9)) := ⟨_, rfl⟩
        have hsY : Y.heap.size = w9.heap.size := by rw [hY]; simp
        rw [← hY] at q6 hC
        have hDY := hD9.keep (by omega) hC (fun b hb => by subst hb; exact ⟨by omega, _, _, _, hT9, by decide, by decide, by decide⟩)
        have hfY := FlsRd.box hf9 (by omega) (by omega) hT9 hC
        have hoY := DosRd.box ho9 (by omega) (by omega) hT9 hC
        have hPY := (hC.block H (by omega) (by omega)).trans hP9
        have hNY := (hC.block K (by omega) (by omega)).trans hN9
        have hrY : Rd Y (· < H) 1 (.slice As m.segs.length cs) m.segs.length (sv m.segs) := hr8.keep fun b hb => (hC.block b (by omega) (by omega)).trans (hb9.block b (by omega))
        have hBY : Below H w Y := (hB8.trans (hb9.mono (by omega))).trans (hC.below (B := H) (by omega) (fun i hi => by omega))
        have hTY := q6
        have HY := Lib.hid hY
        have hTl9 : T < Y.heap.size := by omega
        have hKl9 : K < Y.heap.size := by omega
        have hHl9 : H < Y.heap.size := by omega
        clear hY hsY
        go_wp2_with fail
        rw [← HY.out]
        clear q0 q1 q2 q3 q4 q5 q6 hC hP9 hT9 hN9 hD9 hf9 ho9 hP8 hT8 hN8 hf8 hr8 hB8 hD8 hb9 HY hs9 hs8
        have t0 : Y.cell? ⟨T, 0, none⟩ = some (.slice A9 fl3.length c9) := cell_of_row _ _ 0 _ _ _ hTY
        have t1 : Y.cell? ⟨T, 1, none⟩ = some (.slice B9 0 d9) := cell_of_row _ _ 1 _ _ _ hTY
        have hne : (ce != ce) = false := by simp
        refine wp_region_noPanic ?_
        refine wp_region_held_drew (S := (fun w' => Below Y.heap.size Y w')) (by kernel_rfl) ?_ (fun hHeld => ?_)
        · exact (Below.refl _ _).drew
        refine heldTake 0 (some 102) (v := ?_) rfl rfl (by kernel_rfl) (by kernel_rfl) (by kernel_rfl) (by rfl) hHeld (fun _ _ _ h => h) ?_ ?_
        rotate_left
        · intro w' hSw; (try dsimp only at hSw); go_simp <;> with_reducible rfl
        simp only [Act.put, List.setIfInBounds_toArray, List.set_cons_zero, List.set_cons_succ]
        refine heldTake 1 (some 103) (v := ?_) rfl rfl (by kernel_rfl) (by kernel_rfl) (by kernel_rfl) (by rfl) hHeld (fun _ _ _ h => h) ?_ ?_
        rotate_left
        · intro w' hSw; (try dsimp only at hSw); go_simp <;> with_reducible rfl
        simp only [Act.put, List.setIfInBounds_toArray, List.set_cons_zero, List.set_cons_succ]
        refine heldTake 2 (some 104) (v := ?_) rfl rfl (by kernel_rfl) (by kernel_rfl) (by kernel_rfl) (by rfl) hHeld (fun _ _ _ h => h) ?_ ?_
        rotate_left
        · intro w' hSw; (try dsimp only at hSw); go_simp <;> with_reducible rfl
        simp only [Act.put, List.setIfInBounds_toArray, List.set_cons_zero, List.set_cons_succ]
        refine heldTake 3 (some 105) (v := ?_) rfl rfl (by kernel_rfl) (by kernel_rfl) (by kernel_rfl) (by rfl) hHeld (fun _ _ _ h => h) ?_ ?_
        rotate_left
        · intro w' hSw; (try dsimp only at hSw); go_simp <;> with_reducible rfl
        simp only [Act.put, List.setIfInBounds_toArray, List.set_cons_zero, List.set_cons_succ]
        refine heldTake 4 (some 106) (v := ?_) rfl rfl (by kernel_rfl) (by kernel_rfl) (by kernel_rfl) (by rfl) hHeld (fun _ _ _ h => h) ?_ ?_
        rotate_left
        · intro w' hSw; (try dsimp only at hSw); go_simp <;> with_reducible rfl
        simp only [Act.put, List.setIfInBounds_toArray, List.set_cons_zero, List.set_cons_succ]
        refine heldTake 6 (some 108) (v := ?_) rfl rfl (by kernel_rfl) (by kernel_rfl) (by kernel_rfl) (by rfl) hHeld (fun _ _ _ h => h) ?_ ?_
        rotate_left
        · intro w' hSw; (try dsimp only at hSw); have q0 := (hSw.cell (p := ⟨T, 0, none⟩) (show T < Y.heap.size by omega)).trans t0; have q1 := (hSw.cell (p := ⟨T, 1, none⟩) (show T < Y.heap.size by omega)).trans t1; go_simp <;> with_reducible rfl
        simp only [Act.put, List.setIfInBounds_toArray, List.set_cons_zero, List.set_cons_succ]
        refine heldCall 5 (some 107) (f := ?_) (args := ?_) rfl rfl (by kernel_rfl) (by rfl) ?_ ?_
        rotate_left 2
        · go_simp <;> first | (constructor <;> with_reducible rfl) | with_reducible rfl
        (with_reducible refine (dviewl_any H _ D fm3 [] Y.drew ?_ hDY.drew.rd ?_).mono ?_)
        · show H ≤ Y.heap.size; omega
        · omega
        rintro _ x1 ⟨v1, fl1, rfl, hF1, hI1, hb1⟩
        have hbx1 : Below Y.heap.size Y x1 := Below.undrew hb1
        obtain rfl : fl1 = fl3 := hI1.unique hI3
        have hs1 := hbx1.size
        refine ⟨_, rfl, keepAnd ?_ (fun hNew => ?_)⟩
        · exact hbx1
        clear hHeld
        have hHeld := hNew
        clear hNew
        simp only [Act.put, List.setIfInBounds_toArray, List.set_cons_zero, List.set_cons_succ]
        refine heldCall 7 (some 109) (f := ?_) (args := ?_) rfl rfl (by kernel_rfl) (by rfl) ?_ ?_
        rotate_left 2
        · go_simp <;> first | (constructor <;> with_reducible rfl) | with_reducible rfl
        (with_reducible refine (rview_any H _ _ _ fl1 [] x1 (by omega) (hfY.below (by omega) hbx1) (hoY.below (by omega) hbx1) hz3 (by omega)).mono ?_)
        rintro _ x2 ⟨v2, rfl, hF2, hb2⟩
        have hbx2 : Below Y.heap.size Y x2 := hbx1.trans (hb2.mono hs1)
        have hs2 := hbx2.size
        refine ⟨_, rfl, keepAnd ?_ (fun hNew => ?_)⟩
        · exact hbx2
        clear hHeld
        have hHeld := hNew
        clear hNew
        simp only [Act.put, List.setIfInBounds_toArray, List.set_cons_zero, List.set_cons_succ]
        refine heldCall 8 (some 110) (f := ?_) (args := ?_) rfl rfl (by kernel_rfl) (by rfl) ?_ ?_
        rotate_left 2
        · go_simp <;> first | (constructor <;> with_reducible rfl) | with_reducible rfl
        (with_reducible refine (fsame_any H v1 v2 fl1 (viewL fl1 []) x2 (by omega) (hF1.rd.below (by omega) hb2) hF2).mono ?_)
        rintro _ x3 ⟨he, hb3⟩
        rw [show decide (fl1 = viewL fl1 []) = true from decide_eq_true rfl] at he
        subst he
        have hbx3 : Below Y.heap.size Y x3 := hbx2.trans (hb3.mono hs2)
        have hs3 := hbx3.size
        refine ⟨_, rfl, keepAnd ?_ (fun hNew => ?_)⟩
        · exact hbx3
        clear hHeld
        have hHeld := hNew
        clear hNew
        simp only [Act.put, List.setIfInBounds_toArray, List.set_cons_zero, List.set_cons_succ]
        refine heldTake 9 (some 111) (v := ?_) rfl rfl (by kernel_rfl) (by kernel_rfl) (by kernel_rfl) (by rfl) hHeld (fun _ _ _ h => h) ?_ ?_
        rotate_left
        · intro w' hSw; (try dsimp only at hSw); go_simp <;> with_reducible rfl
        simp only [Act.put, List.setIfInBounds_toArray, List.set_cons_zero, List.set_cons_succ]
        refine heldTake 10 (some 112) (v := ?_) rfl rfl (by kernel_rfl) (by kernel_rfl) (by kernel_rfl) (by rfl) hHeld (fun _ _ _ h => h) ?_ ?_
        rotate_left
        · intro w' hSw; (try dsimp only at hSw); go_simp <;> with_reducible rfl
        simp only [Act.put, List.setIfInBounds_toArray, List.set_cons_zero, List.set_cons_succ]
        refine heldTake 11 (some 113) (v := ?_) rfl rfl (by kernel_rfl) (by kernel_rfl) (by kernel_rfl) (by rfl) hHeld (fun _ _ _ h => h) ?_ ?_
        rotate_left
        · intro w' hSw; (try dsimp only at hSw); go_simp <;> with_reducible rfl
        simp only [Act.put, List.setIfInBounds_toArray, List.set_cons_zero, List.set_cons_succ]
        refine heldTake 12 (some 114) (v := ?_) rfl rfl (by kernel_rfl) (by kernel_rfl) (by kernel_rfl) (by rfl) hHeld (fun _ _ _ h => h) ?_ ?_
        rotate_left
        · intro w' hSw; (try dsimp only at hSw); go_simp <;> with_reducible rfl
        simp only [Act.put, List.setIfInBounds_toArray, List.set_cons_zero, List.set_cons_succ]
        refine heldTake 14 (some 116) (v := ?_) rfl rfl (by kernel_rfl) (by kernel_rfl) (by kernel_rfl) (by rfl) hHeld (fun _ _ _ h => h) ?_ ?_
        rotate_left
        · intro w' hSw; (try dsimp only at hSw); have q0 := (hSw.cell (p := ⟨T, 0, none⟩) (show T < Y.heap.size by omega)).trans t0; have q1 := (hSw.cell (p := ⟨T, 1, none⟩) (show T < Y.heap.size by omega)).trans t1; go_simp <;> with_reducible rfl
        simp only [Act.put, List.setIfInBounds_toArray, List.set_cons_zero, List.set_cons_succ]
        refine heldTake 15 (some 117) (v := ?_) rfl rfl (by kernel_rfl) (by kernel_rfl) (by kernel_rfl) (by rfl) hHeld (fun _ _ _ h => h) ?_ ?_
        rotate_left
        · intro w' hSw; (try dsimp only at hSw); have q0 := (hSw.cell (p := ⟨T, 0, none⟩) (show T < Y.heap.size by omega)).trans t0; have q1 := (hSw.cell (p := ⟨T, 1, none⟩) (show T < Y.heap.size by omega)).trans t1; go_simp <;> with_reducible rfl
        simp only [Act.put, List.setIfInBounds_toArray, List.set_cons_zero, List.set_cons_succ]
        refine heldCall 13 (some 115) (f := ?_) (args := ?_) rfl rfl (by kernel_rfl) (by rfl) ?_ ?_
        rotate_left 2
        · go_simp <;> first | (constructor <;> with_reducible rfl) | with_reducible rfl
        (with_reducible refine (dfiles_any H _ D fm3 [] x3 (by omega) (hDY.below (by omega) hbx3).rd (by omega)).mono ?_)
        rintro _ x4 ⟨v4, fl4, rfl, hF4, hI4, hb4⟩
        have hbx4 : Below Y.heap.size Y x4 := hbx3.trans (hb4.mono hs3)
        obtain rfl : fl4 = fl1 := hI4.unique hI3
        have hs4 := hbx4.size
        refine ⟨_, rfl, keepAnd ?_ (fun hNew => ?_)⟩
        · exact hbx4
        clear hHeld
        have hHeld := hNew
        clear hNew
        simp only [Act.put, List.setIfInBounds_toArray, List.set_cons_zero, List.set_cons_succ]
        refine heldCall 16 (some 118) (f := ?_) (args := ?_) rfl rfl (by kernel_rfl) (by rfl) ?_ ?_
        rotate_left 2
        · go_simp <;> first | (constructor <;> with_reducible rfl) | with_reducible rfl
        (with_reducible refine (fsame_any H v4 _ fl4 fl4 x4 (by omega) hF4.rd (hfY.below (by omega) hbx4)).mono ?_)
        rintro _ x5 ⟨he, hb5⟩
        rw [show decide (fl4 = fl4) = true from decide_eq_true rfl] at he
        subst he
        have hbx5 : Below Y.heap.size Y x5 := hbx4.trans (hb5.mono hs4)
        have hs5 := hbx5.size
        refine ⟨_, rfl, keepAnd ?_ (fun hNew => ?_)⟩
        · exact hbx5
        clear hHeld
        have hHeld := hNew
        clear hNew
        simp only [Act.put, List.setIfInBounds_toArray, List.set_cons_zero, List.set_cons_succ]
        refine heldTake 17 (some 119) (v := ?_) rfl rfl (by kernel_rfl) (by kernel_rfl) (by kernel_rfl) (by rfl) hHeld (fun _ _ _ h => h) ?_ ?_
        rotate_left
        · intro w' hSw; (try dsimp only at hSw); go_simp <;> with_reducible rfl
        simp only [Act.put, List.setIfInBounds_toArray, List.set_cons_zero, List.set_cons_succ]
        refine heldTake 18 (some 120) (v := ?_) rfl rfl (by kernel_rfl) (by kernel_rfl) (by kernel_rfl) (by rfl) hHeld (fun _ _ _ h => h) ?_ ?_
        rotate_left
        · intro w' hSw; (try dsimp only at hSw); go_simp <;> with_reducible rfl
        simp only [Act.put, List.setIfInBounds_toArray, List.set_cons_zero, List.set_cons_succ]
        refine heldTake 19 (some 121) (v := ?_) rfl rfl (by kernel_rfl) (by kernel_rfl) (by kernel_rfl) (by rfl) hHeld (fun _ _ _ h => h) ?_ ?_
        rotate_left
        · intro w' hSw; (try dsimp only at hSw); go_simp <;> with_reducible rfl
        simp only [Act.put, List.setIfInBounds_toArray, List.set_cons_zero, List.set_cons_succ]
        refine heldTake 20 (some 122) (v := ?_) rfl rfl (by kernel_rfl) (by kernel_rfl) (by kernel_rfl) (by rfl) hHeld (fun _ _ _ h => h) ?_ ?_
        rotate_left
        · intro w' hSw; (try dsimp only at hSw); go_simp <;> with_reducible rfl
        simp only [Act.put, List.setIfInBounds_toArray, List.set_cons_zero, List.set_cons_succ]
        refine heldCall 21 (some 123) (f := ?_) (args := ?_) rfl rfl (by kernel_rfl) (by rfl) ?_ ?_
        rotate_left 2
        · go_simp <;> first | (constructor <;> with_reducible rfl) | with_reducible rfl
        have CP : Calls Tryz.prog 19 #[.pointer (some ⟨D, 0, none⟩)] x5 (fun e w' => e = .returned (.int .i64 0) ∧ x5 = w') := dpending_any H _ D none fm3 [] x5 (hDY.below (by omega) hbx5)
        (with_reducible refine CP.mono ?_)
        rintro _ x6 ⟨rfl, rfl⟩
        refine ⟨_, rfl, keepAnd ?_ (fun hNew => ?_)⟩
        · exact hbx5
        clear hHeld
        have hHeld := hNew
        clear hNew
        simp only [Act.put, List.setIfInBounds_toArray, List.set_cons_zero, List.set_cons_succ]
        refine heldTake 22 (some 124) (v := ?_) rfl rfl (by kernel_rfl) (by kernel_rfl) (by kernel_rfl) (by rfl) hHeld (fun _ _ _ h => h) ?_ ?_
        rotate_left
        · intro w' hSw; (try dsimp only at hSw); go_simp <;> with_reducible rfl
        simp only [Act.put, List.setIfInBounds_toArray, List.set_cons_zero, List.set_cons_succ]
        refine heldTake 23 (some 125) (v := ?_) rfl rfl (by kernel_rfl) (by kernel_rfl) (by kernel_rfl) (by rfl) hHeld (fun _ _ _ h => h) ?_ ?_
        rotate_left
        · intro w' hSw; (try dsimp only at hSw); go_simp <;> with_reducible rfl
        simp only [Act.put, List.setIfInBounds_toArray, List.set_cons_zero, List.set_cons_succ]
        refine wpAnyH_done (by kernel_rfl) ?_ _
        refine NoPanic.normal ?_
        have hP10 := (hbx5.block H (by omega)).trans hPY
        have hN10 := (hbx5.block K (by omega)).trans hNY
        have hD10 := hDY.below (by omega) hbx5
        have hr10 : Rd x5 (· < H) 1 (.slice As m.segs.length cs) m.segs.length (sv m.segs) := hrY.keep fun b hb => hbx5.block b (by omega)
        have hB10 : Below H w x5 := hBY.trans (hbx5.mono (by omega))
        clear t0 t1 hPY hNY hDY hrY hBY hHeld hF1 hF2 hF4 hfY hoY hTY
        by_cases hc0 : ce = 0
        case neg =>
          have bq : (ce != 0) = true := by rw [bne_iff_ne]; exact hc0
          go_wp2_with fail
          (with_reducible refine (mworks_any x5 (HEB.out _ hB10)).mono ?_)
          rintro ez wz ⟨rfl, hbz⟩
          go_wp2_with fail
          go_ret
          exact ⟨rfl, (hB10).trans (hbz.mono (by omega))⟩
        case pos =>
          subst hc0
          obtain ⟨g1, g2, g3, g4⟩ := frm_small hz
          have hck := HCE.out.symm
          have h3 : fm3 fileN = some (frm (bodyM m)) := by rw [HFM.out]; unfold wfm; rw [if_pos hck]; rfl
          have hrd : readF (viewF fm3 [] fileN) = (m, true, 0) := by
            rw [show viewF fm3 [] fileN = fm3 fileN from rfl, h3]
            show ((decM (frm (bodyM m))).1, decide ((decM (frm (bodyM m))).2 = 0), (decM (frm (bodyM m))).2) = _
            rw [decM_put hck (by omega)]
            rfl
          have CM := Lib.hid (mread_any H _ D none fm3 [] x5 (by omega) hD10 (by omega) (fun l h => by rw [show viewF fm3 [] fileN = fm3 fileN from rfl, h3] at h; injection h with h; subst h; omega))
          rw [hrd] at CM
          clear hrd h3
          go_wp2_with fail
          (with_reducible refine CM.out.mono ?_)
          rintro _ w11 ⟨A11, k11, rfl, hO11, hb11⟩
          dsimp only at hO11 ⊢
          have hs11 := hb11.size
          have hP11 := (hb11.block H (by omega)).trans hP10
          have hN11 := (hb11.block K (by omega)).trans hN10
          have hr11 : Rd w11 (· < H) 1 (.slice As m.segs.length cs) m.segs.length (sv m.segs) := hr10.keep fun b hb => hb11.block b (by omega)
          have hB11 : Below H w w11 := hB10.trans (hb11.mono (by omega))
          have hrow := row_set5 hN11 (.string (strB m.base)) (.slice A11 m.segs.length k11) (.string (strB m.log)) (.int .i64 m.tx) (.int .i64 m.nx)
          have hc := five_chg' w11 K (.string (strB m.base)) (.slice A11 m.segs.length k11) (.string (strB m.log)) (.int .i64 m.tx) (.int .i64 m.nx)
          have f0 := frozen_of_row _ _ 0 _ _ hN11
          have f1 := frozen_of_row _ _ 1 _ _ hN11
          have f2 := frozen_of_row _ _ 2 _ _ hN11
          have f3 := frozen_of_row _ _ 3 _ _ hN11
          have f4 := frozen_of_row _ _ 4 _ _ hN11
          have n0 : w11.cell? ⟨K, 0, none⟩ = some (.string (strB rm.base)) := cell_of_row _ _ 0 _ _ _ hN11
          have n1 : w11.cell? ⟨K, 1, none⟩ = some (.slice A5 rm.segs.length k5) := cell_of_row _ _ 1 _ _ _ hN11
          have n2 : w11.cell? ⟨K, 2, none⟩ = some (.string (strB rm.log)) := cell_of_row _ _ 2 _ _ _ hN11
          have n3 : w11.cell? ⟨K, 3, none⟩ = some (.int .i64 rm.tx) := cell_of_row _ _ 3 _ _ _ hN11
          have n4 : w11.cell? ⟨K, 4, none⟩ = some (.int .i64 rm.nx) := cell_of_row _ _ 4 _ _ _ hN11
          obtain ⟨V, hV⟩ : ∃ V, V = (((((w11.setCell ⟨K, 0, none⟩ (.string (strB m.base))).setCell ⟨K, 1, none⟩ (.slice A11 m.segs.length k11)).setCell ⟨K, 2, none⟩ (.string (strB m.log))).setCell ⟨K, 3, none⟩ (.int .i64 m.tx)).setCell ⟨K, 4, none⟩ (.int .i64 m.nx)) := ⟨_, rfl⟩
          rw [← hV] at hrow hc
          have hPV := (hc.block H (by omega) (by omega)).trans hP11
          have hrV : Rd V (· < H) 1 (.slice As m.segs.length cs) m.segs.length (sv m.segs) := hr11.keep fun b hb => hc.block b (by omega) (by omega)
          have hBV : Below H w V := hB11.trans (hc.below (by omega) (fun i hi => by omega))
          have hOV := own_chgS hO11 hc (by omega)
          have hsV := hc.size
          have p0 : V.cell? ⟨K, 0, none⟩ = some (.string (strB m.base)) := cell_of_row _ _ 0 _ _ _ hrow
          have p1 : V.cell? ⟨K, 1, none⟩ = some (.slice A11 m.segs.length k11) := cell_of_row _ _ 1 _ _ _ hrow
          have p2 : V.cell? ⟨K, 2, none⟩ = some (.string (strB m.log)) := cell_of_row _ _ 2 _ _ _ hrow
          have p3 : V.cell? ⟨K, 3, none⟩ = some (.int .i64 m.tx) := cell_of_row _ _ 3 _ _ _ hrow
          have p4 : V.cell? ⟨K, 4, none⟩ = some (.int .i64 m.nx) := cell_of_row _ _ 4 _ _ _ hrow
          have r0 : V.cell? ⟨H, 0, none⟩ = some (.string (strB m.base)) := cell_of_row _ _ 0 _ _ _ hPV
          have r1 : V.cell? ⟨H, 1, none⟩ = some (.slice As m.segs.length cs) := cell_of_row _ _ 1 _ _ _ hPV
          have r2 : V.cell? ⟨H, 2, none⟩ = some (.string (strB m.log)) := cell_of_row _ _ 2 _ _ _ hPV
          have r3 : V.cell? ⟨H, 3, none⟩ = some (.int .i64 m.tx) := cell_of_row _ _ 3 _ _ _ hPV
          have r4 : V.cell? ⟨H, 4, none⟩ = some (.int .i64 m.nx) := cell_of_row _ _ 4 _ _ _ hPV
          rw [hV] at p0 p1 p2 p3 p4 r0 r1 r2 r3 r4
          have CS := Lib.hid (rsame_any _ _ A11 k11 m As cs m V (Rd.of_own hOV) hrV (fun b hb => hb.2) (fun b hb => by omega))
          rw [show decide (m = m) = true from decide_eq_true rfl] at CS
          have HV := Lib.hid hV
          clear hV hrow hc CM
          go_wp2_with fail
          rw [← HV.out]
          (with_reducible refine CS.out.mono ?_)
          rintro _ w12 ⟨rfl, hb12⟩
          have hs12 := hb12.size
          have hB12 : Below H w w12 := hBV.trans (hb12.mono (by omega))
          clear p0 p1 p2 p3 p4 r0 r1 r2 r3 r4 n0 n1 n2 n3 n4 f0 f1 f2 f3 f4
          go_wp2_with fail
          (with_reducible refine (mworks_any w12 (HEB.out _ hB12)).mono ?_)
          rintro ez wz ⟨rfl, hbz⟩
          go_wp2_with fail
          go_ret
          exact ⟨rfl, (hB12).trans (hbz.mono (by omega))⟩
end Go.Proofs.YthjephhojngiaaaGreatDoor
