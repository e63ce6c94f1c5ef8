/-
  SegmentTorn, SegmentBack.
-/
import Derived.Test.YtacjiocffbgkkaaSegT
namespace Go.Proofs.Ytacjiocffbgkkaa
open Go.RowKit Go.Lib Go.IntWalk Go.Sort Go.Shelf

set_option maxRecDepth 1000000 in
set_option maxHeartbeats 4000000 in
theorem lawTorn_any (v : Value) (ps : List VP) (x y : Int) (w : World) (hv : RdVs w (· < w.heap.size) v ps) (hx : 0 ≤ x ∧ x ≤ 255) (hy : 0 ≤ y ∧ y ≤ 65535) :
    Calls Try.prog 6 #[v, .int .u8 x, .int .u16 y] w fun e w' => e = .returned (.bool true) ∧ Below w.heap.size w w' := by
  have KF := few_any v ps w hv
  have HV := Lib.hid hv
  have K1 := fun (n : Int) (h2 : ps.length ≤ 1048576) => build_any [116] v ps n w hv (by decide) h2
  obtain ⟨A, c, rfl, hc1, hc2, hc3⟩ := hv.1.open_
  have H1 := Lib.hid K1
  clear hv hc3 hc2 K1
  have hS : strB [116] = ⟨#[116]⟩ := rfl
  rw [hS] at H1
  have hm0 : 0 ≤ x % 20 := by omega
  have hm1 : x % 20 < 20 := by omega
  go_enter Try.func6, Try.ntmps6
  go_wp2_with fail
  (with_reducible refine KF.mono ?_)
  rintro _ w1 ⟨b, rfl, hw1, hb⟩
  rw [hw1]
  clear hw1 w1 KF
  cases b
  case false =>
    clear hb
    go_wp2_with fail
    (with_reducible refine (works_any w).mono ?_)
    rintro _ w2 ⟨rfl, hb2⟩
    go_wp2_with fail
    go_ret
    exact ⟨rfl, hb2⟩
  case true =>
    have hl := hb rfl
    clear hb
    have K1 := H1.out (1 + x % 20) (by omega)
    obtain ⟨res, hres⟩ : ∃ r, r = bldF [116] (ps.map (·.2)) (1 + x % 20) := ⟨_, rfl⟩
    rw [← hres] at K1
    obtain ⟨rb, re⟩ := res
    have HRES := Lib.hid hres
    clear hres H1
    go_wp2_with fail
    (with_reducible refine K1.mono ?_)
    rintro _ w2 ⟨u1, rfl, hO1, hb2⟩
    simp only at hO1 ⊢
    have HB2 := Lib.hid hb2
    obtain ⟨A1, c1, rfl, x1, x2, x3⟩ := Rd.open_ hO1.rd
    unfold maxLen at x2
    have HO1 := Lib.hid hO1.rd
    clear hb2 hO1 K1 x3
    by_cases he : re = 0
    case neg =>
      have hbn : (re != 0) = true := by simpa using he
      go_wp2_with fail
      (with_reducible refine (works_any w2).mono ?_)
      rintro _ w5 ⟨rfl, hb5⟩
      go_wp2_with fail
      go_ret
      exact ⟨by simp, HB2.out.trans (hb5.mono HB2.out.size)⟩
    case pos =>
      subst he
      obtain ⟨l1, l2⟩ := bld_len HRES.out.symm (by rw [List.length_map]; exact hl)
      have hne : ¬ rb.length = 0 := by omega
      have hT : ∀ k, k < rb.length → opnF (rb.take k) = (([], []), 2) := fun k hk => opn_torn HRES.out.symm (by rw [List.length_map]; omega) hk
      have HT := Lib.hid hT
      clear hT HRES
      have hk0 : 0 ≤ y % (rb.length : Int) := Int.emod_nonneg _ (by omega)
      have hk1 : y % (rb.length : Int) < rb.length := Int.emod_lt_of_pos _ (by omega)
      have hk2 : y % (rb.length : Int) ≤ (c1 : Int) := by omega
      obtain ⟨b, off, rfl, _, _⟩ := bytes_at HO1.out l1
      have hsub : RdB w2 (· < w2.heap.size) (.slice (some ⟨b, off, none⟩) (y % (rb.length : Int)).toNat c1) (rb.take (y % (rb.length : Int)).toNat) := by
        have := HO1.out.sub (o := 0) (k := (y % (rb.length : Int)).toNat) (c' := c1) (by omega) (by omega) (Nat.le_refl _) l1
        rw [List.drop_zero] at this
        exact this
      have KO := open_any _ _ w2 hsub (by rw [List.length_take]; omega)
      rw [HT.out _ (by omega)] at KO
      clear hsub
      go_wp2_with fail
      (with_reducible refine KO.mono ?_)
      rintro _ w3 ⟨hb3, hor⟩
      rcases hor with ⟨_, rfl⟩ | ⟨h0, _⟩
      case inr => exact absurd h0 (by decide)
      simp only
      have HB3 : Hid (Below w.heap.size w w3) := Lib.hid (HB2.out.trans (hb3.mono HB2.out.size))
      clear hb3 KO
      go_wp2_with fail
      (with_reducible refine (works_any w3).mono ?_)
      rintro _ w5 ⟨rfl, hb5⟩
      go_wp2_with fail
      go_ret
      exact ⟨rfl, HB3.out.trans (hb5.mono HB3.out.size)⟩
set_option maxRecDepth 1000000 in
set_option maxHeartbeats 4000000 in
theorem lawBack_any (v : Value) (ps : List VP) (x : Int) (w : World) (hv : RdVs w (· < w.heap.size) v ps) (hx : 0 ≤ x ∧ x ≤ 255) :
    Calls Try.prog 4 #[v, .int .u8 x] w fun e w' => e = .returned (.bool true) ∧ Below w.heap.size w w' := by
  have KF := few_any v ps w hv
  have HV := Lib.hid hv
  have K1 := fun (n : Int) (h2 : ps.length ≤ 1048576) => build_any [116] v ps n w hv (by decide) h2
  obtain ⟨A, c, rfl, hc1, hc2, hc3⟩ := hv.1.open_
  have H1 := Lib.hid K1
  clear hv hc3 hc2 K1
  have hS : strB [116] = ⟨#[116]⟩ := rfl
  rw [hS] at H1
  have hm0 : 0 ≤ x % 20 := by omega
  have hm1 : x % 20 < 20 := by omega
  go_enter Try.func4, Try.ntmps4
  go_wp2_with fail
  (with_reducible refine KF.mono ?_)
  rintro _ w1 ⟨b, rfl, hw1, hb⟩
  rw [hw1]
  clear hw1 w1 KF
  cases b
  case false =>
    clear hb
    go_wp2_with fail
    (with_reducible refine (works_any w).mono ?_)
    rintro _ w2 ⟨rfl, hb2⟩
    go_wp2_with fail
    go_ret
    exact ⟨rfl, hb2⟩
  case true =>
    have hl := hb rfl
    clear hb
    have K1 := H1.out (1 + x % 20) (by omega)
    obtain ⟨res, hres⟩ : ∃ r, r = bldF [116] (ps.map (·.2)) (1 + x % 20) := ⟨_, rfl⟩
    rw [← hres] at K1
    obtain ⟨rb, re⟩ := res
    have HRES := Lib.hid hres
    clear hres H1
    go_wp2_with fail
    (with_reducible refine K1.mono ?_)
    rintro _ w2 ⟨u1, rfl, hO1, hb2⟩
    simp only at hO1 ⊢
    have HB2 := Lib.hid hb2
    obtain ⟨A1, c1, rfl, x1, x2, x3⟩ := Rd.open_ hO1.rd
    unfold maxLen at x2
    have HO1 := Lib.hid hO1.rd
    clear hb2 hO1 K1 x3
    by_cases he : re = 0
    case neg =>
      have hbn : (re != 0) = true := by simpa using he
      have hrb : rb = [] := by
        have := bld_err (t := [116]) (vs := ps.map (·.2)) (n := 1 + x % 20) (by rw [← HRES.out]; exact he)
        rw [← HRES.out] at this
        exact this
      have hrl : rb.length = 0 := by rw [hrb]; rfl
      go_wp2_with fail
      (with_reducible refine (works_any w2).mono ?_)
      rintro _ w5 ⟨rfl, hb5⟩
      go_wp2_with fail
      go_ret
      exact ⟨rfl, HB2.out.trans (hb5.mono HB2.out.size)⟩
    case pos =>
      subst he
      obtain ⟨l1, l2⟩ := bld_len HRES.out.symm (by rw [List.length_map]; exact hl)
      obtain ⟨q1, q2, q3, q4, q5⟩ := bld_has HRES.out.symm
      have KO := open_any _ _ w2 HO1.out l2
      rw [opn_bld HRES.out.symm (by rw [List.length_map]; omega)] at KO
      have hsz := (szF_chunks q2 (ps.map (·.2))).2
      have hnum := chunks_num (1 + x % 20).toNat q2 (ps.map (·.2)).length (ps.map (·.2)) (Nat.le_refl _)
      rw [List.length_map] at hnum
      obtain ⟨C, hC⟩ : ∃ C, C = chunks (1 + x % 20).toNat (ps.map (·.2)) := ⟨_, rfl⟩
      rw [← hC] at q3 q4 q5 hsz hnum KO
      have HROW : Hid (∀ d ∈ C, ∀ z ∈ d, z.row.length ≤ 12) := Lib.hid fun d hd z hz => (closed_go ((q3 d hd).2 z hz)).2
      have HFULL : Hid (srchF C ⟨0, 1099511627776, 0, 1099511627776⟩ = (C.flatten, C.length)) := Lib.hid (srch_full fun d hd => ⟨(q3 d hd).1, fun z hz => closed_valid ((q3 d hd).2 z hz)⟩)
      have HFL := Lib.hid q4
      have HNUM : Hid ((C.length : Int) = ((ps.length : Int) + (1 + x % 20) - 1).tdiv (1 + x % 20)) := Lib.hid (by
        rw [hnum, Int.tdiv_eq_ediv_of_nonneg (by omega)]
        rw [Int.natCast_ediv, Int.toNat_of_nonneg (by omega)]
        congr 1
        omega)
      have hCl : C.length ≤ 100 := by rw [List.length_map] at q5; omega
      clear q1 q2 q3 q4 q5 hnum hC HRES
      go_wp2_with fail
      (with_reducible refine KO.mono ?_)
      rintro _ y2 ⟨hy2, hor⟩
      rcases hor with ⟨h0, _⟩ | ⟨_, P, rfl, hSA⟩
      · exact absurd rfl h0
      simp only at hSA ⊢
      rw [HFL.out, hsz] at hSA
      have HSA := Lib.hid hSA
      have HY2 : Hid (Below w.heap.size w y2) := Lib.hid (HB2.out.trans (hy2.mono HB2.out.size))
      clear hy2 hSA KO hsz HO1
      have KT : ∀ V, SegAt V P [116] C → Calls Try.prog 13 #[.pointer (some ⟨P, 0, none⟩)] V fun e w' => e = .returned (.string ⟨#[116]⟩) ∧ w' = V := fun V h => segTable_any P [116] _ V h
      have KL : ∀ V, SegAt V P [116] C → Calls Try.prog 14 #[.pointer (some ⟨P, 0, none⟩)] V fun e w' => e = .returned (.int .i64 (ps.length : Nat)) ∧ Below V.heap.size V w' := fun V h => by
        have k := segLen_any P [116] _ V h (by rw [HFL.out, List.length_map]; omega)
        rw [HFL.out, List.length_map] at k
        exact k
      obtain ⟨E, hE⟩ : ∃ E, E = ((ps.length : Int) + (1 + x % 20) - 1).tdiv (1 + x % 20) := ⟨_, rfl⟩
      have hCE : (C.length : Int) = E := HNUM.out.trans hE.symm
      have hq0 : ¬ (1 + x % 20 = 0) := by omega
      have hE2 : (IntKind.i64.wrap (IntKind.i64.wrap (ps.length + (1 + x % 20)) - 1)) = (ps.length : Int) + (1 + x % 20) - 1 := by
        rw [IntWalk.i64_in (ps.length + (1 + x % 20)) (by omega), IntWalk.i64_in _ (by omega)]
      have hq1 : IntKind.i64.wrap (((ps.length : Int) + (1 + x % 20) - 1).tdiv (1 + x % 20)) = E := by
        rw [← hE]
        exact IntWalk.i64_in _ (by omega)
      clear hE
      have KK : ∀ V, SegAt V P [116] C → Calls Try.prog 15 #[.pointer (some ⟨P, 0, none⟩)] V fun e w' => e = .returned (.int .i64 E) ∧ w' = V := fun V h => by
        have k := segBlocks_any P [116] C V h
        rw [hCE] at k
        exact k
      have KS : ∀ V, SegAt V P [116] C → Calls Try.prog 18 #[.pointer (some ⟨P, 0, none⟩), .agg #[.int .i64 0, .int .i64 1099511627776, .int .i64 0, .int .i64 1099511627776]] V fun e w' => ∃ u, e = .returned (.tuple #[u, .int .i64 E]) ∧ VsOut (ps.map (·.2)) V w' u := fun V h => by
        have k := segSearch_any P [116] C 0 1099511627776 0 1099511627776 V h (by rw [HFL.out, List.length_map]; omega) HROW.out
        rw [HFULL.out, HFL.out] at k
        simp only [hCE] at k
        exact k
      have KV : ∀ V, SegAt V P [116] C → Calls Try.prog 17 #[.pointer (some ⟨P, 0, none⟩)] V fun e w' => ∃ u, e = .returned u ∧ VsOut (ps.map (·.2)) V w' u := fun V h => by
        have k := segVersions_any P [116] C V h (by rw [HFL.out, List.length_map]; omega) HROW.out
        rw [HFL.out] at k
        exact k
      go_wp2_with fail
      refine wp_region_noPanic ?_
      refine wp_region_held_drew (S := (fun w' => Below y2.heap.size y2 w')) (by kernel_rfl) ?_ (fun hHeld => ?_)
      · exact (Below.refl _ _).drew
      refine heldTake 0 (some 39) (v := ?_) rfl rfl (by kernel_rfl) (by kernel_rfl) (by kernel_rfl) (by rfl) hHeld (fun _ _ _ h => h) ?_ ?_
      rotate_left
      · intro w' hSw; (try dsimp only at hSw); go_simp <;> with_reducible rfl
      simp only [Act.put, List.setIfInBounds_toArray, List.set_cons_zero, List.set_cons_succ]
      refine heldTake 1 (some 40) (v := ?_) rfl rfl (by kernel_rfl) (by kernel_rfl) (by kernel_rfl) (by rfl) hHeld (fun _ _ _ h => h) ?_ ?_
      rotate_left
      · intro w' hSw; (try dsimp only at hSw); go_simp <;> with_reducible rfl
      simp only [Act.put, List.setIfInBounds_toArray, List.set_cons_zero, List.set_cons_succ]
      refine heldTake 2 (some 41) (v := ?_) rfl rfl (by kernel_rfl) (by kernel_rfl) (by kernel_rfl) (by rfl) hHeld (fun _ _ _ h => h) ?_ ?_
      rotate_left
      · intro w' hSw; (try dsimp only at hSw); go_simp <;> with_reducible rfl
      simp only [Act.put, List.setIfInBounds_toArray, List.set_cons_zero, List.set_cons_succ]
      refine heldTake 3 (some 42) (v := ?_) rfl rfl (by kernel_rfl) (by kernel_rfl) (by kernel_rfl) (by rfl) hHeld (fun _ _ _ h => h) ?_ ?_
      rotate_left
      · intro w' hSw; (try dsimp only at hSw); go_simp <;> with_reducible rfl
      simp only [Act.put, List.setIfInBounds_toArray, List.set_cons_zero, List.set_cons_succ]
      refine heldCall 4 (some 43) (f := ?_) (args := ?_) rfl rfl (by kernel_rfl) (by rfl) ?_ ?_
      rotate_left 2
      · go_simp <;> first | (constructor <;> with_reducible rfl) | with_reducible rfl
      have hS0 : SegAt y2.drew P [116] C := HSA.out.below (Below.refl _ _).drew
      (with_reducible refine (KT _ hS0).mono ?_)
      rintro _ z1 ⟨rfl, hz1⟩
      have hb1 : Below y2.heap.size y2 z1 := by rw [hz1]; exact (Below.refl _ _).drew
      have hS1 : SegAt z1 P [116] C := by rw [hz1]; exact hS0
      refine ⟨_, rfl, keepAnd ?_ (fun hNew => ?_)⟩
      · exact hb1
      clear hHeld
      have hHeld := hNew
      clear hNew
      simp only [Act.put, List.setIfInBounds_toArray, List.set_cons_zero, List.set_cons_succ]
      refine heldTake 5 (some 44) (v := ?_) rfl rfl (by kernel_rfl) (by kernel_rfl) (by kernel_rfl) (by rfl) hHeld (fun _ _ _ h => h) ?_ ?_
      rotate_left
      · intro w' hSw; (try dsimp only at hSw); go_simp <;> with_reducible rfl
      simp only [Act.put, List.setIfInBounds_toArray, List.set_cons_zero, List.set_cons_succ]
      refine heldTake 6 (some 45) (v := ?_) rfl rfl (by kernel_rfl) (by kernel_rfl) (by kernel_rfl) (by rfl) hHeld (fun _ _ _ h => h) ?_ ?_
      rotate_left
      · intro w' hSw; (try dsimp only at hSw); go_simp <;> with_reducible rfl
      simp only [Act.put, List.setIfInBounds_toArray, List.set_cons_zero, List.set_cons_succ]
      refine heldTake 7 (some 46) (v := ?_) rfl rfl (by kernel_rfl) (by kernel_rfl) (by kernel_rfl) (by rfl) hHeld (fun _ _ _ h => h) ?_ ?_
      rotate_left
      · intro w' hSw; (try dsimp only at hSw); go_simp <;> with_reducible rfl
      simp only [Act.put, List.setIfInBounds_toArray, List.set_cons_zero, List.set_cons_succ]
      refine heldTake 8 (some 47) (v := ?_) rfl rfl (by kernel_rfl) (by kernel_rfl) (by kernel_rfl) (by rfl) hHeld (fun _ _ _ h => h) ?_ ?_
      rotate_left
      · intro w' hSw; (try dsimp only at hSw); go_simp <;> with_reducible rfl
      simp only [Act.put, List.setIfInBounds_toArray, List.set_cons_zero, List.set_cons_succ]
      refine heldTake 10 (some 49) (v := ?_) rfl rfl (by kernel_rfl) (by kernel_rfl) (by kernel_rfl) (by rfl) hHeld (fun _ _ _ h => h) ?_ ?_
      rotate_left
      · intro w' hSw; (try dsimp only at hSw); go_simp <;> with_reducible rfl
      simp only [Act.put, List.setIfInBounds_toArray, List.set_cons_zero, List.set_cons_succ]
      refine heldTake 11 (some 50) (v := ?_) rfl rfl (by kernel_rfl) (by kernel_rfl) (by kernel_rfl) (by rfl) hHeld (fun _ _ _ h => h) ?_ ?_
      rotate_left
      · intro w' hSw; (try dsimp only at hSw); go_simp <;> with_reducible rfl
      simp only [Act.put, List.setIfInBounds_toArray, List.set_cons_zero, List.set_cons_succ]
      refine heldCall 9 (some 48) (f := ?_) (args := ?_) rfl rfl (by kernel_rfl) (by rfl) ?_ ?_
      rotate_left 2
      · go_simp <;> first | (constructor <;> with_reducible rfl) | with_reducible rfl
      (with_reducible refine (KL _ hS1).mono ?_)
      rintro _ z2 ⟨rfl, hz2⟩
      have hb2 : Below y2.heap.size y2 z2 := hb1.trans (hz2.mono hb1.size)
      have hS2 := hS1.below hz2
      refine ⟨_, rfl, keepAnd ?_ (fun hNew => ?_)⟩
      · exact hb2
      clear hHeld
      have hHeld := hNew
      clear hNew
      simp only [Act.put, List.setIfInBounds_toArray, List.set_cons_zero, List.set_cons_succ]
      refine heldTake 12 (some 51) (v := ?_) rfl rfl (by kernel_rfl) (by kernel_rfl) (by kernel_rfl) (by rfl) hHeld (fun _ _ _ h => h) ?_ ?_
      rotate_left
      · intro w' hSw; (try dsimp only at hSw); go_simp <;> with_reducible rfl
      simp only [Act.put, List.setIfInBounds_toArray, List.set_cons_zero, List.set_cons_succ]
      refine heldTake 13 (some 52) (v := ?_) rfl rfl (by kernel_rfl) (by kernel_rfl) (by kernel_rfl) (by rfl) hHeld (fun _ _ _ h => h) ?_ ?_
      rotate_left
      · intro w' hSw; (try dsimp only at hSw); go_simp <;> with_reducible rfl
      simp only [Act.put, List.setIfInBounds_toArray, List.set_cons_zero, List.set_cons_succ]
      refine heldTake 14 (some 53) (v := ?_) rfl rfl (by kernel_rfl) (by kernel_rfl) (by kernel_rfl) (by rfl) hHeld (fun _ _ _ h => h) ?_ ?_
      rotate_left
      · intro w' hSw; (try dsimp only at hSw); go_simp <;> with_reducible rfl
      simp only [Act.put, List.setIfInBounds_toArray, List.set_cons_zero, List.set_cons_succ]
      refine heldTake 15 (some 54) (v := ?_) rfl rfl (by kernel_rfl) (by kernel_rfl) (by kernel_rfl) (by rfl) hHeld (fun _ _ _ h => h) ?_ ?_
      rotate_left
      · intro w' hSw; (try dsimp only at hSw); go_simp <;> with_reducible rfl
      simp only [Act.put, List.setIfInBounds_toArray, List.set_cons_zero, List.set_cons_succ]
      refine heldTake 17 (some 56) (v := ?_) rfl rfl (by kernel_rfl) (by kernel_rfl) (by kernel_rfl) (by rfl) hHeld (fun _ _ _ h => h) ?_ ?_
      rotate_left
      · intro w' hSw; (try dsimp only at hSw); go_simp <;> with_reducible rfl
      simp only [Act.put, List.setIfInBounds_toArray, List.set_cons_zero, List.set_cons_succ]
      refine heldTake 18 (some 57) (v := ?_) rfl rfl (by kernel_rfl) (by kernel_rfl) (by kernel_rfl) (by rfl) hHeld (fun _ _ _ h => h) ?_ ?_
      rotate_left
      · intro w' hSw; (try dsimp only at hSw); go_simp <;> with_reducible rfl
      simp only [Act.put, List.setIfInBounds_toArray, List.set_cons_zero, List.set_cons_succ]
      refine heldTake 19 (some 58) (v := ?_) rfl rfl (by kernel_rfl) (by kernel_rfl) (by kernel_rfl) (by rfl) hHeld (fun _ _ _ h => h) ?_ ?_
      rotate_left
      · intro w' hSw; (try dsimp only at hSw); go_simp <;> with_reducible rfl
      simp only [Act.put, List.setIfInBounds_toArray, List.set_cons_zero, List.set_cons_succ]
      refine heldTake 20 (some 59) (v := ?_) rfl rfl (by kernel_rfl) (by kernel_rfl) (by kernel_rfl) (by rfl) hHeld (fun _ _ _ h => h) ?_ ?_
      rotate_left
      · intro w' hSw; (try dsimp only at hSw); go_simp <;> with_reducible rfl
      simp only [Act.put, List.setIfInBounds_toArray, List.set_cons_zero, List.set_cons_succ]
      refine heldTake 21 (some 60) (v := ?_) rfl rfl (by kernel_rfl) (by kernel_rfl) (by kernel_rfl) (by rfl) hHeld (fun _ _ _ h => h) ?_ ?_
      rotate_left
      · intro w' hSw; (try dsimp only at hSw); go_simp <;> with_reducible rfl
      simp only [Act.put, List.setIfInBounds_toArray, List.set_cons_zero, List.set_cons_succ]
      refine heldTake 22 (some 61) (v := ?_) rfl rfl (by kernel_rfl) (by kernel_rfl) (by kernel_rfl) (by rfl) hHeld (fun _ _ _ h => h) ?_ ?_
      rotate_left
      · intro w' hSw; (try dsimp only at hSw); go_simp <;> with_reducible rfl
      simp only [Act.put, List.setIfInBounds_toArray, List.set_cons_zero, List.set_cons_succ]
      refine heldTake 23 (some 62) (v := ?_) rfl rfl (by kernel_rfl) (by kernel_rfl) (by kernel_rfl) (by rfl) hHeld (fun _ _ _ h => h) ?_ ?_
      rotate_left
      · intro w' hSw; (try dsimp only at hSw); go_simp <;> with_reducible rfl
      simp only [Act.put, List.setIfInBounds_toArray, List.set_cons_zero, List.set_cons_succ]
      refine heldCall 16 (some 55) (f := ?_) (args := ?_) rfl rfl (by kernel_rfl) (by rfl) ?_ ?_
      rotate_left 2
      · go_simp <;> first | (constructor <;> with_reducible rfl) | with_reducible rfl
      (with_reducible refine (KK _ hS2).mono ?_)
      rintro _ z3 ⟨rfl, hz3⟩
      have hb3 : Below y2.heap.size y2 z3 := by rw [hz3]; exact hb2
      have hS3 : SegAt z3 P [116] C := by rw [hz3]; exact hS2
      refine ⟨_, rfl, keepAnd ?_ (fun hNew => ?_)⟩
      · exact hb3
      clear hHeld
      have hHeld := hNew
      clear hNew
      simp only [Act.put, List.setIfInBounds_toArray, List.set_cons_zero, List.set_cons_succ]
      refine heldTake 24 (some 63) (v := ?_) rfl rfl (by kernel_rfl) (by kernel_rfl) (by kernel_rfl) (by rfl) hHeld (fun _ _ _ h => h) ?_ ?_
      rotate_left
      · intro w' hSw; (try dsimp only at hSw); go_simp <;> with_reducible rfl
      simp only [Act.put, List.setIfInBounds_toArray, List.set_cons_zero, List.set_cons_succ]
      refine heldTake 25 (some 64) (v := ?_) rfl rfl (by kernel_rfl) (by kernel_rfl) (by kernel_rfl) (by rfl) hHeld (fun _ _ _ h => h) ?_ ?_
      rotate_left
      · intro w' hSw; (try dsimp only at hSw); go_simp <;> with_reducible rfl
      simp only [Act.put, List.setIfInBounds_toArray, List.set_cons_zero, List.set_cons_succ]
      refine heldTake 26 (some 65) (v := ?_) rfl rfl (by kernel_rfl) (by kernel_rfl) (by kernel_rfl) (by rfl) hHeld (fun _ _ _ h => h) ?_ ?_
      rotate_left
      · intro w' hSw; (try dsimp only at hSw); go_simp <;> with_reducible rfl
      simp only [Act.put, List.setIfInBounds_toArray, List.set_cons_zero, List.set_cons_succ]
      refine heldTake 27 (some 66) (v := ?_) rfl rfl (by kernel_rfl) (by kernel_rfl) (by kernel_rfl) (by rfl) hHeld (fun _ _ _ h => h) ?_ ?_
      rotate_left
      · intro w' hSw; (try dsimp only at hSw); go_simp <;> with_reducible rfl
      simp only [Act.put, List.setIfInBounds_toArray, List.set_cons_zero, List.set_cons_succ]
      refine heldTake 29 (some 68) (v := ?_) rfl rfl (by kernel_rfl) (by kernel_rfl) (by kernel_rfl) (by rfl) hHeld (fun _ _ _ h => h) ?_ ?_
      rotate_left
      · intro w' hSw; (try dsimp only at hSw); go_simp <;> with_reducible rfl
      simp only [Act.put, List.setIfInBounds_toArray, List.set_cons_zero, List.set_cons_succ]
      refine heldCall 28 (some 67) (f := ?_) (args := ?_) rfl rfl (by kernel_rfl) (by rfl) ?_ ?_
      rotate_left 2
      · go_simp <;> first | (constructor <;> with_reducible rfl) | with_reducible rfl
      (with_reducible refine (KV _ hS3).mono ?_)
      rintro _ z4 ⟨uv, rfl, Qv, hQv, hQvm, hz4⟩
      have hb4 : Below y2.heap.size y2 z4 := hb3.trans (hz4.mono hb3.size)
      refine ⟨_, rfl, keepAnd ?_ (fun hNew => ?_)⟩
      · exact hb4
      clear hHeld
      have hHeld := hNew
      clear hNew
      simp only [Act.put, List.setIfInBounds_toArray, List.set_cons_zero, List.set_cons_succ]
      refine heldCall 30 (some 69) (f := ?_) (args := ?_) rfl rfl (by kernel_rfl) (by rfl) ?_ ?_
      rotate_left 2
      · go_simp <;> first | (constructor <;> with_reducible rfl) | with_reducible rfl
      (with_reducible refine (sameVersions_any _ _ Qv ps z4 hQv (HV.out.below (HY2.out.trans (hb4.mono HY2.out.size))) (by rw [hQvm])).mono ?_)
      rintro _ z5 ⟨rfl, hz5⟩
      have hb5 : Below y2.heap.size y2 z5 := hb4.trans (hz5.mono hb4.size)
      refine ⟨_, rfl, keepAnd ?_ (fun hNew => ?_)⟩
      · exact hb5
      clear hHeld
      have hHeld := hNew
      clear hNew
      simp only [Act.put, List.setIfInBounds_toArray, List.set_cons_zero, List.set_cons_succ]
      refine heldTake 31 (some 70) (v := ?_) rfl rfl (by kernel_rfl) (by kernel_rfl) (by kernel_rfl) (by rfl) hHeld (fun _ _ _ h => h) ?_ ?_
      rotate_left
      · intro w' hSw; (try dsimp only at hSw); go_simp <;> with_reducible rfl
      simp only [Act.put, List.setIfInBounds_toArray, List.set_cons_zero, List.set_cons_succ]
      refine heldTake 32 (some 71) (v := ?_) rfl rfl (by kernel_rfl) (by kernel_rfl) (by kernel_rfl) (by rfl) hHeld (fun _ _ _ h => h) ?_ ?_
      rotate_left
      · intro w' hSw; (try dsimp only at hSw); go_simp <;> with_reducible rfl
      simp only [Act.put, List.setIfInBounds_toArray, List.set_cons_zero, List.set_cons_succ]
      refine wpAnyH_done (by kernel_rfl) ?_ _
      refine NoPanic.normal ?_
      clear hHeld
      have HB5 : Hid (Below w.heap.size w z5) := Lib.hid (HY2.out.trans (hb5.mono HY2.out.size))
      have hS5 : SegAt z5 P [116] C := (hS3.below hz4).below hz5
      clear hb1 hb2 hb3 hb4 hb5 hz4 hz5 hS0 hS1 hS2 hS3 hQv hQvm hz1 hz2 hz3 KT KL KV HY2
      go_wp2_with fail
      (with_reducible refine (KS _ hS5).mono ?_)
      rintro _ x6 ⟨us, rfl, Qs, hQs, hQm, hx6⟩
      have HB6 : Hid (Below w.heap.size w x6) := Lib.hid (HB5.out.trans (hx6.mono HB5.out.size))
      have hS6 := hS5.below hx6
      have KM := sameVersions_any _ _ Qs ps x6 hQs (HV.out.below HB6.out) (by rw [hQm])
      obtain ⟨As, cs, rfl, w1, w2, w3⟩ := hQs.1.open_
      clear hQs hQm hx6 w2 w3 KS HB5 hS5
      go_wp2_with fail
      (with_reducible refine KM.mono ?_)
      rintro _ x7 ⟨rfl, hx7⟩
      have HB7 : Hid (Below w.heap.size w x7) := Lib.hid (HB6.out.trans (hx7.mono HB6.out.size))
      have KK7 := KK _ (hS6.below hx7)
      clear hx7 KM HB6 hS6 KK
      go_wp2_with fail
      (with_reducible refine KK7.mono ?_)
      rintro _ x8 ⟨rfl, hx8⟩
      rw [hx8]
      clear hx8 x8 KK7
      go_wp2_with fail
      (with_reducible refine (works_any x7).mono ?_)
      rintro _ x9 ⟨rfl, hb9⟩
      go_wp2_with fail
      go_ret
      exact ⟨rfl, HB7.out.trans (hb9.mono HB7.out.size)⟩
end Go.Proofs.Ytacjiocffbgkkaa
