/-
  The walks of CodecBack.
-/
import Derived.Test.YthfclmkeadpcbaaLaw3
import Derived.Test.YthfclmkeadpcbaaCodecJ
import Derived.Test.YthfclmkeadpcbaaBackPure
import Derived.Test.YthfclmkeadpcbaaMem3
namespace Go.Proofs.Ythfclmkeadpcbaa
open Go.ChangeShapes Go.WideShapes Go.ChangeAt Go.RowKit Go.Lib

theorem RdB.take {w : World} {F : Nat → Prop} {A : Option Addr} {l : List UInt8} {c j c' : Nat} (h : RdB w F (.slice A l.length c) l) (hj : j ≤ l.length) (hc : j ≤ c') (hc' : c' ≤ c) : RdB w F (.slice A j c') (l.take j) := by
  obtain ⟨h1, A', c'', hv, h2, h3, h4, h5⟩ := h
  injection hv with e1 e2 e3
  subst e1 e3
  have hlen : (l.take j).length = j := by rw [List.length_take]; omega
  refine ⟨by rw [bv_length, Nat.mul_one], A, c', by rw [hlen], by rw [hlen]; exact hc, by omega, fun h => by have := h4 h; omega, fun hp => ?_⟩
  obtain ⟨ad, he, hF, hcell⟩ := h5 (by omega)
  refine ⟨ad, he, hF, fun i u hi => hcell i u ?_⟩
  have hb : bv (l.take j) = (bv l).take j := by unfold bv; rw [List.map_take]
  rw [hb, List.getElem?_take] at hi
  split at hi
  · exact hi
  · cases hi
theorem run_slice3 {P : Program} {t e : TypeId} {i : TypeInfo} (ht : P.underlying t = some (.slice e)) (hi : P.info? e = some i) (A : Option Addr) (n c h m : Nat) (h1 : h ≤ m) (h2 : m ≤ c) (w : World) :
    (Instr.slice t (.slice A n c) none (some (.int .i64 (h : Int))) (some (.int .i64 (m : Int)))).run P w = .ok (.slice A h m) w := by
  simp [Instr.slice, run_underlying ht, Instr.sliceBounds, Instr.sliceBound, asIntOf, sizeOf, typeInfo, hi, h1, h2, add_zero']

theorem back_row (l : List UInt8) (xs : List Val) (f t : Int) (hv : xs.all validV = true) (hn : xs.length ≤ 12) : decR (l ++ encR xs ++ (encI f ++ encI t)) (l.length : Int) = (xs, ((l ++ encR xs).length : Int), 0) := by
  rw [List.append_assoc]; exact decR_put l (encI f ++ encI t) xs hv hn
theorem back_from (l : List UInt8) (xs : List Val) (f t : Int) (h1 : -9223372036854775808 ≤ f) (h2 : f ≤ 9223372036854775807) : decI (l ++ encR xs ++ (encI f ++ encI t)) ((l ++ encR xs).length : Int) = (f, ((l ++ encR xs ++ encI f).length : Int), 0) :=
  decI_put (l ++ encR xs) (encI t) f h1 h2
theorem back_to (l : List UInt8) (xs : List Val) (f t : Int) (h1 : -9223372036854775808 ≤ t) (h2 : t ≤ 9223372036854775807) : decI (l ++ encR xs ++ (encI f ++ encI t)) ((l ++ encR xs ++ encI f).length : Int) = (t, ((l ++ encR xs ++ (encI f ++ encI t)).length : Int), 0) := by
  have h := decI_put (l ++ encR xs ++ encI f) [] t h1 h2
  simpa using h

set_option maxRecDepth 100000 in
set_option maxHeartbeats 2000000 in
theorem lawBack_no (v u : Value) (xs : List Val) (f t k : Int) (w : World) (hu : RdV w (· < w.heap.size) u xs) (hok : ∀ x ∈ xs, goV x) (hval : (xs.all validV && decide (xs.length ≤ 12)) = false) :
    Calls Try.prog 10 #[v, u, .agg #[.int .i64 f, .int .i64 t], .int .i64 k] w fun e w' => e = .returned (.bool true) ∧ Below w.heap.size w w' := by
  have HV := Lib.hid hval
  clear hval
  go_enter Try.func10, Try.ntmps10
  go_wp2_with fail
  (with_reducible refine (refValidRow_any u xs _ ?_ hok).mono ?_)
  · exact hu.below (below1 _)
  rw [HV.out]
  rintro e w1 ⟨rfl, hb1⟩
  have hB1 : Below w.heap.size w w1 := (below1 _).trans (hb1.mono (by simp))
  go_wp2_with fail
  (with_reducible refine (works_any _).mono ?_)
  rintro e w8 ⟨rfl, hb8⟩
  go_wp2_with fail
  go_ret
  exact ⟨rfl, hB1.trans (hb8.mono hB1.size)⟩

set_option maxRecDepth 100000 in
set_option maxHeartbeats 4000000 in
theorem lawBack_nn (A : Option Addr) (c : Nat) (u : Value) (l : List UInt8) (xs : List Val) (f t k : Int) (w : World) (hv : RdB w (· < w.heap.size) (.slice A l.length c) l) (hu : RdV w (· < w.heap.size) u xs) (hok : ∀ x ∈ xs, goV x)
    (hput : ∀ x ∈ xs, putV x) (hl : l.length + (encR xs).length + 300 ≤ 140737488354000) (f1 : -9223372036854775808 ≤ f) (f2 : f ≤ 9223372036854775807) (t1 : -9223372036854775808 ≤ t) (t2 : t ≤ 9223372036854775807)
    (hval : xs.all validV = true) (hlen : xs.length ≤ 12)
    (ys : List Val) (m d : Int) (hd : (d == 0) = false) (hR : decR l k = (ys, m, d))
    (yf yt m2 d2 : Int) (hd2 : (d2 == 0) = false) (hP : decP l k = ((yf, yt), m2, d2)) :
    Calls Try.prog 10 #[.slice A l.length c, u, .agg #[.int .i64 f, .int .i64 t], .int .i64 k] w fun e w' => e = .returned (.bool true) ∧ Below w.heap.size w w' := by
  have h1 := back_row l xs f t hval hlen
  have h2 := back_from l xs f t f1 f2
  have h3 := back_to l xs f t t1 t2
  generalize (l ++ encR xs).length = k1 at h1 h2
  generalize (l ++ encR xs ++ encI f).length = k2 at h2 h3
  generalize hLe : l ++ encR xs ++ (encI f ++ encI t) = L at h1 h2 h3
  have HL := Lib.hid hLe
  clear hLe
  have hv0 : (xs.all validV && decide (xs.length ≤ 12)) = true := by rw [hval]; simp [hlen]
  have hRow := fun (W : World) (h : Below w.heap.size w W) => row_any _ l k W (hv.below h)
  have hPer := fun (W : World) (h : Below w.heap.size w W) => period_any _ l k W (hv.below h)
  rw [hR] at hRow
  rw [hP] at hPer
  have H1 := Lib.hid h1
  have H2 := Lib.hid h2
  have H3 := Lib.hid h3
  have HV := Lib.hid hv0
  have HR := Lib.hid hRow
  have HQ := Lib.hid hPer
  clear h1 h2 h3 hval hv0 hRow hPer hR hP
  go_enter Try.func10, Try.ntmps10
  go_wp2_with fail
  (with_reducible refine (refValidRow_any u xs _ ?_ hok).mono ?_)
  · exact hu.below (below1 _)
  rw [HV.out]
  rintro e w1 ⟨rfl, hb1⟩
  have hB1 : Below w.heap.size w w1 := (below1 _).trans (hb1.mono (by simp))
  have c0 := (hb1.cell (p := ⟨w.heap.size, 0, none⟩) (by simp)).trans (box_cell w _ _ 0 rfl)
  have c1 := (hb1.cell (p := ⟨w.heap.size, 1, none⟩) (by simp)).trans (box_cell w _ _ 1 rfl)
  have hz1 : w.heap.size < w1.heap.size := Nat.lt_of_lt_of_le (by simp) hb1.size
  go_wp2_with fail
  refine wp_region_noPanic ?_
  refine wp_region_held_drew (S := (fun w' => w'.cell? ⟨w.heap.size, 0, none⟩ = some (.int .i64 f) ∧ w'.cell? ⟨w.heap.size, 1, none⟩ = some (.int .i64 t))) (by kernel_rfl) ?_ (fun hHeld => ?_)
  · exact ⟨c0, c1⟩
  refine heldTake 0 (some 29) (v := ?_) rfl rfl (by kernel_rfl) (by kernel_rfl) (by kernel_rfl) (by rfl) hHeld (fun _ _ _ h => h) ?_ ?_
  rotate_left
  · intro w' hSw; (try dsimp only at hSw); go_simp <;> with_reducible rfl
  simp only [Act.put, List.setIfInBounds_toArray, List.set_cons_zero, List.set_cons_succ]
  refine heldTake 1 (some 30) (v := ?_) rfl rfl (by kernel_rfl) (by kernel_rfl) (by kernel_rfl) (by rfl) hHeld (fun _ _ _ h => h) ?_ ?_
  rotate_left
  · intro w' hSw; (try dsimp only at hSw); go_simp <;> with_reducible rfl
  simp only [Act.put, List.setIfInBounds_toArray, List.set_cons_zero, List.set_cons_succ]
  refine heldTake 3 (some 32) (v := ?_) rfl rfl (by kernel_rfl) (by kernel_rfl) (by kernel_rfl) (by rfl) hHeld (fun _ _ _ h => h) ?_ ?_
  rotate_left
  · intro w' hSw; (try dsimp only at hSw); go_simp <;> with_reducible rfl
  simp only [Act.put, List.setIfInBounds_toArray, List.set_cons_zero, List.set_cons_succ]
  refine heldCall 2 (some 31) (f := ?_) (args := ?_) rfl rfl (by kernel_rfl) (by rfl) ?_ ?_
  rotate_left 2
  · go_simp <;> first | (constructor <;> with_reducible rfl) | with_reducible rfl
  (with_reducible refine (putRow_any _ u l xs _ ?_ ?_ hput ?_).mono ?_)
  · exact hv.below hB1.drew
  · exact hu.below hB1.drew
  · omega
  rintro e w2 ⟨v2, rfl, ho2, hb2⟩
  have hB2 := hB1.drew.trans (hb2.mono hB1.drew.size)
  have c0 := (hb2.cell (p := ⟨w.heap.size, 0, none⟩) hz1).trans c0
  have c1 := (hb2.cell (p := ⟨w.heap.size, 1, none⟩) hz1).trans c1
  refine ⟨_, rfl, keepAnd ?_ (fun hNew => ?_)⟩
  · exact ⟨c0, c1⟩
  clear hHeld
  have hHeld := hNew
  clear hNew
  simp only [Act.put, List.setIfInBounds_toArray, List.set_cons_zero, List.set_cons_succ]
  refine heldCall 4 (some 33) (f := ?_) (args := ?_) rfl rfl (by kernel_rfl) (by rfl) ?_ ?_
  rotate_left 2
  · go_simp <;> first | (constructor <;> with_reducible rfl) | with_reducible rfl
  (with_reducible refine (putPeriod_any v2 (l ++ encR xs) f t _ f1 f2 t1 t2 ?_ ?_).mono ?_)
  · exact ho2.rd
  · rw [List.length_append]; omega
  rintro e w3 ⟨v3, rfl, ho3, hb3⟩
  have hB3 := hB2.trans (hb3.mono hB2.size)
  have hz2 : w.heap.size < w2.heap.size := Nat.lt_of_lt_of_le hz1 hb2.size
  have c0 := (hb3.cell (p := ⟨w.heap.size, 0, none⟩) hz2).trans c0
  have c1 := (hb3.cell (p := ⟨w.heap.size, 1, none⟩) hz2).trans c1
  refine ⟨_, rfl, keepAnd ?_ (fun hNew => ?_)⟩
  · exact ⟨c0, c1⟩
  clear hHeld
  have hHeld := hNew
  clear hNew
  simp only [Act.put, List.setIfInBounds_toArray, List.set_cons_zero, List.set_cons_succ]
  refine heldTake 5 (some 9) (v := ?_) rfl rfl (by kernel_rfl) (by kernel_rfl) (by kernel_rfl) (by rfl) hHeld (fun _ _ _ h => h) ?_ ?_
  rotate_left
  · intro w' hSw; (try dsimp only at hSw); go_simp <;> with_reducible rfl
  simp only [Act.put, List.setIfInBounds_toArray, List.set_cons_zero, List.set_cons_succ]
  refine wpAnyH_done (by kernel_rfl) ?_ _
  refine NoPanic.normal ?_
  rw [HL.out] at ho3
  go_wp2_with fail
  have hT := row_any v3 _ (l.length : Int) _ ho3.rd
  rw [H1.out] at hT
  (with_reducible refine hT.mono ?_)
  clear hT
  rintro e w4 ⟨v4, rfl, ho4, hb4⟩
  simp only at ho4
  have hB4 := hB3.trans (hb4.mono hB3.size)
  have hz3 : w.heap.size < w3.heap.size := Nat.lt_of_lt_of_le hz2 hb3.size
  have hz4 : w.heap.size < w4.heap.size := Nat.lt_of_lt_of_le hz3 hb4.size
  have c0 := (hb4.cell (p := ⟨w.heap.size, 0, none⟩) hz3).trans c0
  have c1 := (hb4.cell (p := ⟨w.heap.size, 1, none⟩) hz3).trans c1
  go_wp2_with fail
  (with_reducible refine (rows_same v4 u xs _ ?_ ?_).mono ?_)
  · exact ho4.rd
  · exact hu.below hB4
  rintro e w5 ⟨rfl, hb5⟩
  have hB5 := hB4.trans (hb5.mono hB4.size)
  have c0 := (hb5.cell (p := ⟨w.heap.size, 0, none⟩) hz4).trans c0
  have c1 := (hb5.cell (p := ⟨w.heap.size, 1, none⟩) hz4).trans c1
  have hr3 := (ho3.rd.below hb4).below hb5
  go_wp2_with fail
  have hT := int_any _ v3 _ (k1 : Int) _ hr3
  rw [H2.out] at hT
  (with_reducible refine hT.mono ?_)
  clear hT
  rintro e _ ⟨rfl, rfl⟩
  go_wp2_with fail
  have hT := int_any _ v3 _ (k2 : Int) _ hr3
  rw [H3.out] at hT
  (with_reducible refine hT.mono ?_)
  clear hT
  rintro e _ ⟨rfl, rfl⟩
  obtain ⟨A3, c3, rfl, _, _, _⟩ := hr3.open_
  go_wp2_with fail
  (with_reducible refine (HR.out _ hB5).mono ?_)
  rintro e w6 ⟨v6, rfl, ho6, hb6⟩
  simp only at ho6
  have hB6 := hB5.trans (hb6.mono hB5.size)
  clear c0 c1
  go_wp2_with fail
  refine wp_region_noPanic ?_
  refine wp_region_held_drew (S := (fun _ => True)) (by kernel_rfl) ?_ (fun hHeld => ?_)
  · trivial
  refine heldTake 0 (some 95) (v := ?_) rfl rfl (by kernel_rfl) (by kernel_rfl) (by kernel_rfl) (by rfl) hHeld (fun _ _ _ h => h) ?_ ?_
  rotate_left
  · intro w' hSw; (try dsimp only at hSw); go_simp <;> with_reducible rfl
  simp only [Act.put, List.setIfInBounds_toArray, List.set_cons_zero, List.set_cons_succ]
  refine heldTake 1 (some 96) (v := ?_) rfl rfl (by kernel_rfl) (by kernel_rfl) (by kernel_rfl) (by rfl) hHeld (fun _ _ _ h => h) ?_ ?_
  rotate_left
  · intro w' hSw; (try dsimp only at hSw); go_simp <;> with_reducible rfl
  simp only [Act.put, List.setIfInBounds_toArray, List.set_cons_zero, List.set_cons_succ]
  refine heldTake 2 (some 97) (v := ?_) rfl rfl (by kernel_rfl) (by kernel_rfl) (by kernel_rfl) (by rfl) hHeld (fun _ _ _ h => h) ?_ ?_
  rotate_left
  · intro w' hSw; (try dsimp only at hSw); go_simp <;> with_reducible rfl
  simp only [Act.put, List.setIfInBounds_toArray, List.set_cons_zero, List.set_cons_succ]
  refine heldSkip 3 (some 98) rfl rfl (by kernel_rfl) (by kernel_rfl) (by kernel_rfl) (by rfl) hHeld (fun _ _ _ h => h) ?_
  simp only [Act.put, List.setIfInBounds_toArray, List.set_cons_zero, List.set_cons_succ]
  refine heldSkip 4 (some 99) rfl rfl (by kernel_rfl) (by kernel_rfl) (by kernel_rfl) (by rfl) hHeld (fun _ _ _ h => h) ?_
  simp only [Act.put, List.setIfInBounds_toArray, List.set_cons_zero, List.set_cons_succ]
  refine heldSkip 5 (some 100) rfl rfl (by kernel_rfl) (by kernel_rfl) (by kernel_rfl) (by rfl) hHeld (fun _ _ _ h => h) ?_
  simp only [Act.put, List.setIfInBounds_toArray, List.set_cons_zero, List.set_cons_succ]
  refine heldSkip 6 (some 101) rfl rfl (by kernel_rfl) (by kernel_rfl) (by kernel_rfl) (by rfl) hHeld (fun _ _ _ h => h) ?_
  simp only [Act.put, List.setIfInBounds_toArray, List.set_cons_zero, List.set_cons_succ]
  refine heldSkip 7 (some 102) rfl rfl (by kernel_rfl) (by kernel_rfl) (by kernel_rfl) (by rfl) hHeld (fun _ _ _ h => h) ?_
  simp only [Act.put, List.setIfInBounds_toArray, List.set_cons_zero, List.set_cons_succ]
  refine heldSkip 8 (some 103) rfl rfl (by kernel_rfl) (by kernel_rfl) (by kernel_rfl) (by rfl) hHeld (fun _ _ _ h => h) ?_
  simp only [Act.put, List.setIfInBounds_toArray, List.set_cons_zero, List.set_cons_succ]
  refine heldSkip 9 (some 104) rfl rfl (by kernel_rfl) (by kernel_rfl) (by kernel_rfl) (by rfl) hHeld (fun _ _ _ h => h) ?_
  simp only [Act.put, List.setIfInBounds_toArray, List.set_cons_zero, List.set_cons_succ]
  refine heldSkip 10 (some 105) rfl rfl (by kernel_rfl) (by kernel_rfl) (by kernel_rfl) (by rfl) hHeld (fun _ _ _ h => h) ?_
  simp only [Act.put, List.setIfInBounds_toArray, List.set_cons_zero, List.set_cons_succ]
  refine heldSkip 11 (some 106) rfl rfl (by kernel_rfl) (by kernel_rfl) (by kernel_rfl) (by rfl) hHeld (fun _ _ _ h => h) ?_
  simp only [Act.put, List.setIfInBounds_toArray, List.set_cons_zero, List.set_cons_succ]
  refine heldSkip 12 (some 107) rfl rfl (by kernel_rfl) (by kernel_rfl) (by kernel_rfl) (by rfl) hHeld (fun _ _ _ h => h) ?_
  simp only [Act.put, List.setIfInBounds_toArray, List.set_cons_zero, List.set_cons_succ]
  refine heldSkip 13 (some 108) rfl rfl (by kernel_rfl) (by kernel_rfl) (by kernel_rfl) (by rfl) hHeld (fun _ _ _ h => h) ?_
  simp only [Act.put, List.setIfInBounds_toArray, List.set_cons_zero, List.set_cons_succ]
  refine heldSkip 14 (some 109) rfl rfl (by kernel_rfl) (by kernel_rfl) (by kernel_rfl) (by rfl) hHeld (fun _ _ _ h => h) ?_
  simp only [Act.put, List.setIfInBounds_toArray, List.set_cons_zero, List.set_cons_succ]
  refine heldTake 15 (some 110) (v := ?_) rfl rfl (by kernel_rfl) (by kernel_rfl) (by kernel_rfl) (by rfl) hHeld (fun _ _ _ h => h) ?_ ?_
  rotate_left
  · intro w' hSw; (try dsimp only at hSw); go_simp <;> with_reducible rfl
  simp only [Act.put, List.setIfInBounds_toArray, List.set_cons_zero, List.set_cons_succ]
  refine wpAnyH_done (by kernel_rfl) ?_ _
  refine NoPanic.normal ?_
  go_wp2_with fail
  (with_reducible refine (HQ.out _ hB6.drew).mono ?_)
  rintro e w8 ⟨rfl, hb8⟩
  simp only
  have hB8 := hB6.drew.trans (hb8.mono hB6.drew.size)
  have d0 := box_cell w8 #[.int .i64 yf, .int .i64 yt] 44 0 rfl
  have d1 := box_cell w8 #[.int .i64 yf, .int .i64 yt] 44 1 rfl
  have hB9 := hB8.alloc hB8.size (.cells #[.int .i64 yf, .int .i64 yt] 44)
  have hz9 : w8.heap.size < (w8.alloc (.cells #[.int .i64 yf, .int .i64 yt] 44)).heap.size := by simp
  go_wp2_with fail
  refine wp_region_noPanic ?_
  refine wp_region_held_drew (S := (fun _ => True)) (by kernel_rfl) ?_ (fun hHeld => ?_)
  · trivial
  refine heldTake 0 (some 118) (v := ?_) rfl rfl (by kernel_rfl) (by kernel_rfl) (by kernel_rfl) (by rfl) hHeld (fun _ _ _ h => h) ?_ ?_
  rotate_left
  · intro w' hSw; (try dsimp only at hSw); go_simp <;> with_reducible rfl
  simp only [Act.put, List.setIfInBounds_toArray, List.set_cons_zero, List.set_cons_succ]
  refine heldTake 1 (some 119) (v := ?_) rfl rfl (by kernel_rfl) (by kernel_rfl) (by kernel_rfl) (by rfl) hHeld (fun _ _ _ h => h) ?_ ?_
  rotate_left
  · intro w' hSw; (try dsimp only at hSw); go_simp <;> with_reducible rfl
  simp only [Act.put, List.setIfInBounds_toArray, List.set_cons_zero, List.set_cons_succ]
  refine heldTake 2 (some 120) (v := ?_) rfl rfl (by kernel_rfl) (by kernel_rfl) (by kernel_rfl) (by rfl) hHeld (fun _ _ _ h => h) ?_ ?_
  rotate_left
  · intro w' hSw; (try dsimp only at hSw); go_simp <;> with_reducible rfl
  simp only [Act.put, List.setIfInBounds_toArray, List.set_cons_zero, List.set_cons_succ]
  refine heldSkip 3 (some 121) rfl rfl (by kernel_rfl) (by kernel_rfl) (by kernel_rfl) (by rfl) hHeld (fun _ _ _ h => h) ?_
  simp only [Act.put, List.setIfInBounds_toArray, List.set_cons_zero, List.set_cons_succ]
  refine heldSkip 4 (some 122) rfl rfl (by kernel_rfl) (by kernel_rfl) (by kernel_rfl) (by rfl) hHeld (fun _ _ _ h => h) ?_
  simp only [Act.put, List.setIfInBounds_toArray, List.set_cons_zero, List.set_cons_succ]
  refine heldSkip 5 (some 123) rfl rfl (by kernel_rfl) (by kernel_rfl) (by kernel_rfl) (by rfl) hHeld (fun _ _ _ h => h) ?_
  simp only [Act.put, List.setIfInBounds_toArray, List.set_cons_zero, List.set_cons_succ]
  refine heldSkip 6 (some 124) rfl rfl (by kernel_rfl) (by kernel_rfl) (by kernel_rfl) (by rfl) hHeld (fun _ _ _ h => h) ?_
  simp only [Act.put, List.setIfInBounds_toArray, List.set_cons_zero, List.set_cons_succ]
  refine heldSkip 7 (some 125) rfl rfl (by kernel_rfl) (by kernel_rfl) (by kernel_rfl) (by rfl) hHeld (fun _ _ _ h => h) ?_
  simp only [Act.put, List.setIfInBounds_toArray, List.set_cons_zero, List.set_cons_succ]
  refine heldSkip 8 (some 126) rfl rfl (by kernel_rfl) (by kernel_rfl) (by kernel_rfl) (by rfl) hHeld (fun _ _ _ h => h) ?_
  simp only [Act.put, List.setIfInBounds_toArray, List.set_cons_zero, List.set_cons_succ]
  refine heldSkip 9 (some 127) rfl rfl (by kernel_rfl) (by kernel_rfl) (by kernel_rfl) (by rfl) hHeld (fun _ _ _ h => h) ?_
  simp only [Act.put, List.setIfInBounds_toArray, List.set_cons_zero, List.set_cons_succ]
  refine heldSkip 10 (some 128) rfl rfl (by kernel_rfl) (by kernel_rfl) (by kernel_rfl) (by rfl) hHeld (fun _ _ _ h => h) ?_
  simp only [Act.put, List.setIfInBounds_toArray, List.set_cons_zero, List.set_cons_succ]
  refine heldSkip 11 (some 129) rfl rfl (by kernel_rfl) (by kernel_rfl) (by kernel_rfl) (by rfl) hHeld (fun _ _ _ h => h) ?_
  simp only [Act.put, List.setIfInBounds_toArray, List.set_cons_zero, List.set_cons_succ]
  refine heldSkip 12 (some 130) rfl rfl (by kernel_rfl) (by kernel_rfl) (by kernel_rfl) (by rfl) hHeld (fun _ _ _ h => h) ?_
  simp only [Act.put, List.setIfInBounds_toArray, List.set_cons_zero, List.set_cons_succ]
  refine heldSkip 13 (some 131) rfl rfl (by kernel_rfl) (by kernel_rfl) (by kernel_rfl) (by rfl) hHeld (fun _ _ _ h => h) ?_
  simp only [Act.put, List.setIfInBounds_toArray, List.set_cons_zero, List.set_cons_succ]
  refine heldSkip 14 (some 132) rfl rfl (by kernel_rfl) (by kernel_rfl) (by kernel_rfl) (by rfl) hHeld (fun _ _ _ h => h) ?_
  simp only [Act.put, List.setIfInBounds_toArray, List.set_cons_zero, List.set_cons_succ]
  refine heldTake 15 (some 133) (v := ?_) rfl rfl (by kernel_rfl) (by kernel_rfl) (by kernel_rfl) (by rfl) hHeld (fun _ _ _ h => h) ?_ ?_
  rotate_left
  · intro w' hSw; (try dsimp only at hSw); go_simp <;> with_reducible rfl
  simp only [Act.put, List.setIfInBounds_toArray, List.set_cons_zero, List.set_cons_succ]
  refine wpAnyH_done (by kernel_rfl) ?_ _
  refine NoPanic.normal ?_
  go_wp2_with fail
  (with_reducible refine (works_any _).mono ?_)
  rintro e w11 ⟨rfl, hb11⟩
  go_wp2_with fail
  go_ret
  exact ⟨rfl, hB9.drew.trans (hb11.mono hB9.drew.size)⟩

set_option maxRecDepth 100000 in
set_option maxHeartbeats 4000000 in
theorem lawBack_ny (A : Option Addr) (c : Nat) (u : Value) (l : List UInt8) (xs : List Val) (f t k : Int) (w : World) (hc : l.length ≤ c) (hv : RdB w (· < w.heap.size) (.slice A l.length c) l) (hu : RdV w (· < w.heap.size) u xs) (hok : ∀ x ∈ xs, goV x)
    (hput : ∀ x ∈ xs, putV x) (hl : l.length + (encR xs).length + 300 ≤ 140737488354000) (f1 : -9223372036854775808 ≤ f) (f2 : f ≤ 9223372036854775807) (t1 : -9223372036854775808 ≤ t) (t2 : t ≤ 9223372036854775807)
    (hval : xs.all validV = true) (hlen : xs.length ≤ 12)
    (ys : List Val) (m d : Int) (hd : (d == 0) = false) (hR : decR l k = (ys, m, d))
    (yf yt : Int) (kp mp : Nat) (hkp : kp ≤ l.length) (hmp : mp ≤ l.length) (hpe : l.take kp ++ (encI yf ++ encI yt) = l.take mp) (y1 : -9223372036854775808 ≤ yf) (y2 : yf ≤ 9223372036854775807) (y3 : -9223372036854775808 ≤ yt) (y4 : yt ≤ 9223372036854775807)
    (hP : decP l k = ((yf, yt), (mp : Int), 0)) (hk2 : k = (kp : Int)) :
    Calls Try.prog 10 #[.slice A l.length c, u, .agg #[.int .i64 f, .int .i64 t], .int .i64 k] w fun e w' => e = .returned (.bool true) ∧ Below w.heap.size w w' := by
  have h1 := back_row l xs f t hval hlen
  have h2 := back_from l xs f t f1 f2
  have h3 := back_to l xs f t t1 t2
  generalize (l ++ encR xs).length = k1 at h1 h2
  generalize (l ++ encR xs ++ encI f).length = k2 at h2 h3
  generalize hLe : l ++ encR xs ++ (encI f ++ encI t) = L at h1 h2 h3
  have HL := Lib.hid hLe
  clear hLe
  have hv0 : (xs.all validV && decide (xs.length ≤ 12)) = true := by rw [hval]; simp [hlen]
  have hRow := fun (W : World) (h : Below w.heap.size w W) => row_any _ l k W (hv.below h)
  have hPer := fun (W : World) (h : Below w.heap.size w W) => period_any _ l k W (hv.below h)
  rw [hR] at hRow
  rw [hP] at hPer
  have H1 := Lib.hid h1
  have H2 := Lib.hid h2
  have H3 := Lib.hid h3
  have HV := Lib.hid hv0
  have HR := Lib.hid hRow
  have HQ := Lib.hid hPer
  clear h1 h2 h3 hval hv0 hRow hPer hR hP
  have hkd : kp ≤ c := by omega
  have hmd : mp ≤ c := by omega
  have HP := Lib.hid hpe
  clear hpe
  subst hk2
  go_enter Try.func10, Try.ntmps10
  go_wp2_with fail
  (with_reducible refine (refValidRow_any u xs _ ?_ hok).mono ?_)
  · exact hu.below (below1 _)
  rw [HV.out]
  rintro e w1 ⟨rfl, hb1⟩
  have hB1 : Below w.heap.size w w1 := (below1 _).trans (hb1.mono (by simp))
  have c0 := (hb1.cell (p := ⟨w.heap.size, 0, none⟩) (by simp)).trans (box_cell w _ _ 0 rfl)
  have c1 := (hb1.cell (p := ⟨w.heap.size, 1, none⟩) (by simp)).trans (box_cell w _ _ 1 rfl)
  have hz1 : w.heap.size < w1.heap.size := Nat.lt_of_lt_of_le (by simp) hb1.size
  go_wp2_with fail
  refine wp_region_noPanic ?_
  refine wp_region_held_drew (S := (fun w' => w'.cell? ⟨w.heap.size, 0, none⟩ = some (.int .i64 f) ∧ w'.cell? ⟨w.heap.size, 1, none⟩ = some (.int .i64 t))) (by kernel_rfl) ?_ (fun hHeld => ?_)
  · exact ⟨c0, c1⟩
  refine heldTake 0 (some 29) (v := ?_) rfl rfl (by kernel_rfl) (by kernel_rfl) (by kernel_rfl) (by rfl) hHeld (fun _ _ _ h => h) ?_ ?_
  rotate_left
  · intro w' hSw; (try dsimp only at hSw); go_simp <;> with_reducible rfl
  simp only [Act.put, List.setIfInBounds_toArray, List.set_cons_zero, List.set_cons_succ]
  refine heldTake 1 (some 30) (v := ?_) rfl rfl (by kernel_rfl) (by kernel_rfl) (by kernel_rfl) (by rfl) hHeld (fun _ _ _ h => h) ?_ ?_
  rotate_left
  · intro w' hSw; (try dsimp only at hSw); go_simp <;> with_reducible rfl
  simp only [Act.put, List.setIfInBounds_toArray, List.set_cons_zero, List.set_cons_succ]
  refine heldTake 3 (some 32) (v := ?_) rfl rfl (by kernel_rfl) (by kernel_rfl) (by kernel_rfl) (by rfl) hHeld (fun _ _ _ h => h) ?_ ?_
  rotate_left
  · intro w' hSw; (try dsimp only at hSw); go_simp <;> with_reducible rfl
  simp only [Act.put, List.setIfInBounds_toArray, List.set_cons_zero, List.set_cons_succ]
  refine heldCall 2 (some 31) (f := ?_) (args := ?_) rfl rfl (by kernel_rfl) (by rfl) ?_ ?_
  rotate_left 2
  · go_simp <;> first | (constructor <;> with_reducible rfl) | with_reducible rfl
  (with_reducible refine (putRow_any _ u l xs _ ?_ ?_ hput ?_).mono ?_)
  · exact hv.below hB1.drew
  · exact hu.below hB1.drew
  · omega
  rintro e w2 ⟨v2, rfl, ho2, hb2⟩
  have hB2 := hB1.drew.trans (hb2.mono hB1.drew.size)
  have c0 := (hb2.cell (p := ⟨w.heap.size, 0, none⟩) hz1).trans c0
  have c1 := (hb2.cell (p := ⟨w.heap.size, 1, none⟩) hz1).trans c1
  refine ⟨_, rfl, keepAnd ?_ (fun hNew => ?_)⟩
  · exact ⟨c0, c1⟩
  clear hHeld
  have hHeld := hNew
  clear hNew
  simp only [Act.put, List.setIfInBounds_toArray, List.set_cons_zero, List.set_cons_succ]
  refine heldCall 4 (some 33) (f := ?_) (args := ?_) rfl rfl (by kernel_rfl) (by rfl) ?_ ?_
  rotate_left 2
  · go_simp <;> first | (constructor <;> with_reducible rfl) | with_reducible rfl
  (with_reducible refine (putPeriod_any v2 (l ++ encR xs) f t _ f1 f2 t1 t2 ?_ ?_).mono ?_)
  · exact ho2.rd
  · rw [List.length_append]; omega
  rintro e w3 ⟨v3, rfl, ho3, hb3⟩
  have hB3 := hB2.trans (hb3.mono hB2.size)
  have hz2 : w.heap.size < w2.heap.size := Nat.lt_of_lt_of_le hz1 hb2.size
  have c0 := (hb3.cell (p := ⟨w.heap.size, 0, none⟩) hz2).trans c0
  have c1 := (hb3.cell (p := ⟨w.heap.size, 1, none⟩) hz2).trans c1
  refine ⟨_, rfl, keepAnd ?_ (fun hNew => ?_)⟩
  · exact ⟨c0, c1⟩
  clear hHeld
  have hHeld := hNew
  clear hNew
  simp only [Act.put, List.setIfInBounds_toArray, List.set_cons_zero, List.set_cons_succ]
  refine heldTake 5 (some 9) (v := ?_) rfl rfl (by kernel_rfl) (by kernel_rfl) (by kernel_rfl) (by rfl) hHeld (fun _ _ _ h => h) ?_ ?_
  rotate_left
  · intro w' hSw; (try dsimp only at hSw); go_simp <;> with_reducible rfl
  simp only [Act.put, List.setIfInBounds_toArray, List.set_cons_zero, List.set_cons_succ]
  refine wpAnyH_done (by kernel_rfl) ?_ _
  refine NoPanic.normal ?_
  rw [HL.out] at ho3
  go_wp2_with fail
  have hT := row_any v3 _ (l.length : Int) _ ho3.rd
  rw [H1.out] at hT
  (with_reducible refine hT.mono ?_)
  clear hT
  rintro e w4 ⟨v4, rfl, ho4, hb4⟩
  simp only at ho4
  have hB4 := hB3.trans (hb4.mono hB3.size)
  have hz3 : w.heap.size < w3.heap.size := Nat.lt_of_lt_of_le hz2 hb3.size
  have hz4 : w.heap.size < w4.heap.size := Nat.lt_of_lt_of_le hz3 hb4.size
  have c0 := (hb4.cell (p := ⟨w.heap.size, 0, none⟩) hz3).trans c0
  have c1 := (hb4.cell (p := ⟨w.heap.size, 1, none⟩) hz3).trans c1
  go_wp2_with fail
  (with_reducible refine (rows_same v4 u xs _ ?_ ?_).mono ?_)
  · exact ho4.rd
  · exact hu.below hB4
  rintro e w5 ⟨rfl, hb5⟩
  have hB5 := hB4.trans (hb5.mono hB4.size)
  have c0 := (hb5.cell (p := ⟨w.heap.size, 0, none⟩) hz4).trans c0
  have c1 := (hb5.cell (p := ⟨w.heap.size, 1, none⟩) hz4).trans c1
  have hr3 := (ho3.rd.below hb4).below hb5
  go_wp2_with fail
  have hT := int_any _ v3 _ (k1 : Int) _ hr3
  rw [H2.out] at hT
  (with_reducible refine hT.mono ?_)
  clear hT
  rintro e _ ⟨rfl, rfl⟩
  go_wp2_with fail
  have hT := int_any _ v3 _ (k2 : Int) _ hr3
  rw [H3.out] at hT
  (with_reducible refine hT.mono ?_)
  clear hT
  rintro e _ ⟨rfl, rfl⟩
  obtain ⟨A3, c3, rfl, _, _, _⟩ := hr3.open_
  go_wp2_with fail
  (with_reducible refine (HR.out _ hB5).mono ?_)
  rintro e w6 ⟨v6, rfl, ho6, hb6⟩
  simp only at ho6
  have hB6 := hB5.trans (hb6.mono hB5.size)
  clear c0 c1
  go_wp2_with fail
  refine wp_region_noPanic ?_
  refine wp_region_held_drew (S := (fun _ => True)) (by kernel_rfl) ?_ (fun hHeld => ?_)
  · trivial
  refine heldTake 0 (some 95) (v := ?_) rfl rfl (by kernel_rfl) (by kernel_rfl) (by kernel_rfl) (by rfl) hHeld (fun _ _ _ h => h) ?_ ?_
  rotate_left
  · intro w' hSw; (try dsimp only at hSw); go_simp <;> with_reducible rfl
  simp only [Act.put, List.setIfInBounds_toArray, List.set_cons_zero, List.set_cons_succ]
  refine heldTake 1 (some 96) (v := ?_) rfl rfl (by kernel_rfl) (by kernel_rfl) (by kernel_rfl) (by rfl) hHeld (fun _ _ _ h => h) ?_ ?_
  rotate_left
  · intro w' hSw; (try dsimp only at hSw); go_simp <;> with_reducible rfl
  simp only [Act.put, List.setIfInBounds_toArray, List.set_cons_zero, List.set_cons_succ]
  refine heldTake 2 (some 97) (v := ?_) rfl rfl (by kernel_rfl) (by kernel_rfl) (by kernel_rfl) (by rfl) hHeld (fun _ _ _ h => h) ?_ ?_
  rotate_left
  · intro w' hSw; (try dsimp only at hSw); go_simp <;> with_reducible rfl
  simp only [Act.put, List.setIfInBounds_toArray, List.set_cons_zero, List.set_cons_succ]
  refine heldSkip 3 (some 98) rfl rfl (by kernel_rfl) (by kernel_rfl) (by kernel_rfl) (by rfl) hHeld (fun _ _ _ h => h) ?_
  simp only [Act.put, List.setIfInBounds_toArray, List.set_cons_zero, List.set_cons_succ]
  refine heldSkip 4 (some 99) rfl rfl (by kernel_rfl) (by kernel_rfl) (by kernel_rfl) (by rfl) hHeld (fun _ _ _ h => h) ?_
  simp only [Act.put, List.setIfInBounds_toArray, List.set_cons_zero, List.set_cons_succ]
  refine heldSkip 5 (some 100) rfl rfl (by kernel_rfl) (by kernel_rfl) (by kernel_rfl) (by rfl) hHeld (fun _ _ _ h => h) ?_
  simp only [Act.put, List.setIfInBounds_toArray, List.set_cons_zero, List.set_cons_succ]
  refine heldSkip 6 (some 101) rfl rfl (by kernel_rfl) (by kernel_rfl) (by kernel_rfl) (by rfl) hHeld (fun _ _ _ h => h) ?_
  simp only [Act.put, List.setIfInBounds_toArray, List.set_cons_zero, List.set_cons_succ]
  refine heldSkip 7 (some 102) rfl rfl (by kernel_rfl) (by kernel_rfl) (by kernel_rfl) (by rfl) hHeld (fun _ _ _ h => h) ?_
  simp only [Act.put, List.setIfInBounds_toArray, List.set_cons_zero, List.set_cons_succ]
  refine heldSkip 8 (some 103) rfl rfl (by kernel_rfl) (by kernel_rfl) (by kernel_rfl) (by rfl) hHeld (fun _ _ _ h => h) ?_
  simp only [Act.put, List.setIfInBounds_toArray, List.set_cons_zero, List.set_cons_succ]
  refine heldSkip 9 (some 104) rfl rfl (by kernel_rfl) (by kernel_rfl) (by kernel_rfl) (by rfl) hHeld (fun _ _ _ h => h) ?_
  simp only [Act.put, List.setIfInBounds_toArray, List.set_cons_zero, List.set_cons_succ]
  refine heldSkip 10 (some 105) rfl rfl (by kernel_rfl) (by kernel_rfl) (by kernel_rfl) (by rfl) hHeld (fun _ _ _ h => h) ?_
  simp only [Act.put, List.setIfInBounds_toArray, List.set_cons_zero, List.set_cons_succ]
  refine heldSkip 11 (some 106) rfl rfl (by kernel_rfl) (by kernel_rfl) (by kernel_rfl) (by rfl) hHeld (fun _ _ _ h => h) ?_
  simp only [Act.put, List.setIfInBounds_toArray, List.set_cons_zero, List.set_cons_succ]
  refine heldSkip 12 (some 107) rfl rfl (by kernel_rfl) (by kernel_rfl) (by kernel_rfl) (by rfl) hHeld (fun _ _ _ h => h) ?_
  simp only [Act.put, List.setIfInBounds_toArray, List.set_cons_zero, List.set_cons_succ]
  refine heldSkip 13 (some 108) rfl rfl (by kernel_rfl) (by kernel_rfl) (by kernel_rfl) (by rfl) hHeld (fun _ _ _ h => h) ?_
  simp only [Act.put, List.setIfInBounds_toArray, List.set_cons_zero, List.set_cons_succ]
  refine heldSkip 14 (some 109) rfl rfl (by kernel_rfl) (by kernel_rfl) (by kernel_rfl) (by rfl) hHeld (fun _ _ _ h => h) ?_
  simp only [Act.put, List.setIfInBounds_toArray, List.set_cons_zero, List.set_cons_succ]
  refine heldTake 15 (some 110) (v := ?_) rfl rfl (by kernel_rfl) (by kernel_rfl) (by kernel_rfl) (by rfl) hHeld (fun _ _ _ h => h) ?_ ?_
  rotate_left
  · intro w' hSw; (try dsimp only at hSw); go_simp <;> with_reducible rfl
  simp only [Act.put, List.setIfInBounds_toArray, List.set_cons_zero, List.set_cons_succ]
  refine wpAnyH_done (by kernel_rfl) ?_ _
  refine NoPanic.normal ?_
  go_wp2_with fail
  (with_reducible refine (HQ.out _ hB6.drew).mono ?_)
  rintro e w8 ⟨rfl, hb8⟩
  simp only
  have hB8 := hB6.drew.trans (hb8.mono hB6.drew.size)
  have d0 := box_cell w8 #[.int .i64 yf, .int .i64 yt] 44 0 rfl
  have d1 := box_cell w8 #[.int .i64 yf, .int .i64 yt] 44 1 rfl
  have hB9 := hB8.alloc hB8.size (.cells #[.int .i64 yf, .int .i64 yt] 44)
  have hz9 : w8.heap.size < (w8.alloc (.cells #[.int .i64 yf, .int .i64 yt] 44)).heap.size := by simp
  go_wp2_with fail
  refine wp_region_noPanic ?_
  refine wp_region_held_drew (S := (fun w' => RdB w' (fun _ => True) (.slice A l.length c) l ∧ w'.cell? ⟨w8.heap.size, 0, none⟩ = some (.int .i64 yf) ∧ w'.cell? ⟨w8.heap.size, 1, none⟩ = some (.int .i64 yt))) (by kernel_rfl) ?_ (fun hHeld => ?_)
  · exact ⟨(hv.below hB9).wide fun _ _ => trivial, d0, d1⟩
  refine heldTake 0 (some 118) (v := ?_) rfl rfl (by kernel_rfl) (by kernel_rfl) (by kernel_rfl) (by rfl) hHeld (fun _ _ _ h => h) ?_ ?_
  rotate_left
  · intro w' hSw; (try dsimp only at hSw); go_simp <;> with_reducible rfl
  simp only [Act.put, List.setIfInBounds_toArray, List.set_cons_zero, List.set_cons_succ]
  refine heldTake 1 (some 119) (v := ?_) rfl rfl (by kernel_rfl) (by kernel_rfl) (by kernel_rfl) (by rfl) hHeld (fun _ _ _ h => h) ?_ ?_
  rotate_left
  · intro w' hSw; (try dsimp only at hSw); go_simp <;> with_reducible rfl
  simp only [Act.put, List.setIfInBounds_toArray, List.set_cons_zero, List.set_cons_succ]
  refine heldTake 2 (some 120) (v := ?_) rfl rfl (by kernel_rfl) (by kernel_rfl) (by kernel_rfl) (by rfl) hHeld (fun _ _ _ h => h) ?_ ?_
  rotate_left
  · intro w' hSw; (try dsimp only at hSw); go_simp <;> with_reducible rfl
  simp only [Act.put, List.setIfInBounds_toArray, List.set_cons_zero, List.set_cons_succ]
  refine heldTake 3 (some 121) (v := ?_) rfl rfl (by kernel_rfl) (by kernel_rfl) (by kernel_rfl) (by rfl) hHeld (fun _ _ _ h => h) ?_ ?_
  rotate_left
  · intro w' hSw; (try dsimp only at hSw); go_simp <;> with_reducible rfl
  simp only [Act.put, List.setIfInBounds_toArray, List.set_cons_zero, List.set_cons_succ]
  refine heldTake 4 (some 122) (v := ?_) rfl rfl (by kernel_rfl) (by kernel_rfl) (by kernel_rfl) (by rfl) hHeld (fun _ _ _ h => h) ?_ ?_
  rotate_left
  · intro w' hSw; (try dsimp only at hSw); go_simp <;> with_reducible rfl
  simp only [Act.put, List.setIfInBounds_toArray, List.set_cons_zero, List.set_cons_succ]
  refine heldTake 5 (some 123) (v := ?_) rfl rfl (by kernel_rfl) (by kernel_rfl) (by kernel_rfl) (by rfl) hHeld (fun _ _ _ h => h) ?_ ?_
  rotate_left
  · intro w' hSw; (try dsimp only at hSw); go_simp <;> with_reducible rfl
  simp only [Act.put, List.setIfInBounds_toArray, List.set_cons_zero, List.set_cons_succ]
  refine heldTake 6 (some 124) (v := ?_) rfl rfl (by kernel_rfl) (by kernel_rfl) (by kernel_rfl) (by rfl) hHeld (fun _ _ _ h => h) ?_ ?_
  rotate_left
  · intro w' hSw; (try dsimp only at hSw); go_simp <;> with_reducible rfl
  simp only [Act.put, List.setIfInBounds_toArray, List.set_cons_zero, List.set_cons_succ]
  refine heldTake 7 (some 125) (v := ?_) rfl rfl (by kernel_rfl) (by kernel_rfl) (by kernel_rfl) (by rfl) hHeld (fun _ _ _ h => h) ?_ ?_
  rotate_left
  · intro w' hSw; (try dsimp only at hSw); go_simp <;> with_reducible rfl
  simp only [Act.put, List.setIfInBounds_toArray, List.set_cons_zero, List.set_cons_succ]
  refine heldTake 10 (some 128) (v := ?_) rfl rfl (by kernel_rfl) (by kernel_rfl) (by kernel_rfl) (by rfl) hHeld (fun _ _ _ h => h) ?_ ?_
  rotate_left
  · intro w' hSw; (try dsimp only at hSw); go_simp <;> with_reducible rfl
  simp only [Act.put, List.setIfInBounds_toArray, List.set_cons_zero, List.set_cons_succ]
  refine heldTake 11 (some 129) (v := ?_) rfl rfl (by kernel_rfl) (by kernel_rfl) (by kernel_rfl) (by rfl) hHeld (fun _ _ _ h => h) ?_ ?_
  rotate_left
  · intro w' hSw; (try dsimp only at hSw); go_simp <;> with_reducible rfl
  simp only [Act.put, List.setIfInBounds_toArray, List.set_cons_zero, List.set_cons_succ]
  refine heldTake 12 (some 130) (v := ?_) rfl rfl (by kernel_rfl) (by kernel_rfl) (by kernel_rfl) (by rfl) hHeld (fun _ _ _ h => h) ?_ ?_
  rotate_left
  · intro w' hSw; (try dsimp only at hSw); go_simp <;> with_reducible rfl
  simp only [Act.put, List.setIfInBounds_toArray, List.set_cons_zero, List.set_cons_succ]
  refine heldTake 13 (some 131) (v := ?_) rfl rfl (by kernel_rfl) (by kernel_rfl) (by kernel_rfl) (by rfl) hHeld (fun _ _ _ h => h) ?_ ?_
  rotate_left
  · intro w' hSw; (try dsimp only at hSw); go_simp; rw [run_bytes_str (hSw.1.take hmp hmd (Nat.le_refl _))]; rfl
  simp only [Act.put, List.setIfInBounds_toArray, List.set_cons_zero, List.set_cons_succ]
  refine heldCall 8 (some 126) (f := ?_) (args := ?_) rfl rfl (by kernel_rfl) (by rfl) ?_ ?_
  rotate_left 2
  · go_simp <;> first | (constructor <;> with_reducible rfl) | with_reducible rfl
  (with_reducible refine (putPeriod_any (.slice A kp kp) (l.take kp) yf yt _ y1 y2 y3 y4 ?_ ?_).mono ?_)
  · exact (hv.below hB9.drew).take hkp (Nat.le_refl _) (by omega)
  · rw [List.length_take]; omega
  rw [HP.out]
  rintro e w10 ⟨v10, rfl, ho10, hb10⟩
  have hB10 := hB9.drew.trans (hb10.mono hB9.drew.size)
  have d0 := (hb10.cell (p := ⟨w8.heap.size, 0, none⟩) hz9).trans d0
  have d1 := (hb10.cell (p := ⟨w8.heap.size, 1, none⟩) hz9).trans d1
  refine ⟨_, rfl, keepAnd ?_ (fun hNew => ?_)⟩
  · exact ⟨(hv.below hB10).wide fun _ _ => trivial, d0, d1⟩
  clear hHeld
  have hHeld := hNew
  clear hNew
  simp only [Act.put, List.setIfInBounds_toArray, List.set_cons_zero, List.set_cons_succ]
  refine heldRun 9 (some 127) (v := .string (strB (l.take mp))) (w' := w10) rfl rfl (by kernel_rfl) (by rfl) ?_ ?_ ?_
  · go_simp; rw [run_bytes_str ho10.rd]; rfl
  · exact ⟨(hv.below hB10).wide fun _ _ => trivial, d0, d1⟩
  simp only [Act.put, List.setIfInBounds_toArray, List.set_cons_zero, List.set_cons_succ]
  refine heldTake 14 (some 132) (v := ?_) rfl rfl (by kernel_rfl) (by kernel_rfl) (by kernel_rfl) (by rfl) hHeld (fun _ _ _ h => h) ?_ ?_
  rotate_left
  · intro w' hSw; (try dsimp only at hSw); go_simp <;> with_reducible rfl
  simp only [Act.put, List.setIfInBounds_toArray, List.set_cons_zero, List.set_cons_succ]
  refine heldTake 15 (some 133) (v := ?_) rfl rfl (by kernel_rfl) (by kernel_rfl) (by kernel_rfl) (by rfl) hHeld (fun _ _ _ h => h) ?_ ?_
  rotate_left
  · intro w' hSw; (try dsimp only at hSw); go_simp <;> with_reducible rfl
  simp only [Act.put, List.setIfInBounds_toArray, List.set_cons_zero, List.set_cons_succ]
  refine wpAnyH_done (by kernel_rfl) ?_ _
  refine NoPanic.normal ?_
  go_wp2_with fail
  (with_reducible refine (works_any _).mono ?_)
  rintro e w11 ⟨rfl, hb11⟩
  go_wp2_with fail
  go_ret
  exact ⟨rfl, hB10.trans (hb11.mono hB10.size)⟩

set_option maxRecDepth 100000 in
set_option maxHeartbeats 4000000 in
theorem lawBack_yn (A : Option Addr) (c : Nat) (u : Value) (l : List UInt8) (xs : List Val) (f t k : Int) (w : World) (hc : l.length ≤ c) (hv : RdB w (· < w.heap.size) (.slice A l.length c) l) (hu : RdV w (· < w.heap.size) u xs) (hok : ∀ x ∈ xs, goV x)
    (hput : ∀ x ∈ xs, putV x) (hl : l.length + (encR xs).length + 300 ≤ 140737488354000) (f1 : -9223372036854775808 ≤ f) (f2 : f ≤ 9223372036854775807) (t1 : -9223372036854775808 ≤ t) (t2 : t ≤ 9223372036854775807)
    (hval : xs.all validV = true) (hlen : xs.length ≤ 12)
    (ys : List Val) (ka ma : Nat) (hka : ka ≤ l.length) (hma : ma ≤ l.length) (hys : ∀ x ∈ ys, putV x) (hye : l.take ka ++ encR ys = l.take ma) (hya : (l.take ka).length + (encR ys).length + 200 ≤ 140737488354000)
    (hR : decR l k = (ys, (ma : Int), 0)) (hk1 : k = (ka : Int))
    (yf yt m2 d2 : Int) (hd2 : (d2 == 0) = false) (hP : decP l k = ((yf, yt), m2, d2)) :
    Calls Try.prog 10 #[.slice A l.length c, u, .agg #[.int .i64 f, .int .i64 t], .int .i64 k] w fun e w' => e = .returned (.bool true) ∧ Below w.heap.size w w' := by
  have h1 := back_row l xs f t hval hlen
  have h2 := back_from l xs f t f1 f2
  have h3 := back_to l xs f t t1 t2
  generalize (l ++ encR xs).length = k1 at h1 h2
  generalize (l ++ encR xs ++ encI f).length = k2 at h2 h3
  generalize hLe : l ++ encR xs ++ (encI f ++ encI t) = L at h1 h2 h3
  have HL := Lib.hid hLe
  clear hLe
  have hv0 : (xs.all validV && decide (xs.length ≤ 12)) = true := by rw [hval]; simp [hlen]
  have hRow := fun (W : World) (h : Below w.heap.size w W) => row_any _ l k W (hv.below h)
  have hPer := fun (W : World) (h : Below w.heap.size w W) => period_any _ l k W (hv.below h)
  rw [hR] at hRow
  rw [hP] at hPer
  have H1 := Lib.hid h1
  have H2 := Lib.hid h2
  have H3 := Lib.hid h3
  have HV := Lib.hid hv0
  have HR := Lib.hid hRow
  have HQ := Lib.hid hPer
  clear h1 h2 h3 hval hv0 hRow hPer hR hP
  have hkc : ka ≤ c := by omega
  have hmc : ma ≤ c := by omega
  have HY := Lib.hid hys
  have HE := Lib.hid hye
  clear hys hye
  subst hk1
  go_enter Try.func10, Try.ntmps10
  go_wp2_with fail
  (with_reducible refine (refValidRow_any u xs _ ?_ hok).mono ?_)
  · exact hu.below (below1 _)
  rw [HV.out]
  rintro e w1 ⟨rfl, hb1⟩
  have hB1 : Below w.heap.size w w1 := (below1 _).trans (hb1.mono (by simp))
  have c0 := (hb1.cell (p := ⟨w.heap.size, 0, none⟩) (by simp)).trans (box_cell w _ _ 0 rfl)
  have c1 := (hb1.cell (p := ⟨w.heap.size, 1, none⟩) (by simp)).trans (box_cell w _ _ 1 rfl)
  have hz1 : w.heap.size < w1.heap.size := Nat.lt_of_lt_of_le (by simp) hb1.size
  go_wp2_with fail
  refine wp_region_noPanic ?_
  refine wp_region_held_drew (S := (fun w' => w'.cell? ⟨w.heap.size, 0, none⟩ = some (.int .i64 f) ∧ w'.cell? ⟨w.heap.size, 1, none⟩ = some (.int .i64 t))) (by kernel_rfl) ?_ (fun hHeld => ?_)
  · exact ⟨c0, c1⟩
  refine heldTake 0 (some 29) (v := ?_) rfl rfl (by kernel_rfl) (by kernel_rfl) (by kernel_rfl) (by rfl) hHeld (fun _ _ _ h => h) ?_ ?_
  rotate_left
  · intro w' hSw; (try dsimp only at hSw); go_simp <;> with_reducible rfl
  simp only [Act.put, List.setIfInBounds_toArray, List.set_cons_zero, List.set_cons_succ]
  refine heldTake 1 (some 30) (v := ?_) rfl rfl (by kernel_rfl) (by kernel_rfl) (by kernel_rfl) (by rfl) hHeld (fun _ _ _ h => h) ?_ ?_
  rotate_left
  · intro w' hSw; (try dsimp only at hSw); go_simp <;> with_reducible rfl
  simp only [Act.put, List.setIfInBounds_toArray, List.set_cons_zero, List.set_cons_succ]
  refine heldTake 3 (some 32) (v := ?_) rfl rfl (by kernel_rfl) (by kernel_rfl) (by kernel_rfl) (by rfl) hHeld (fun _ _ _ h => h) ?_ ?_
  rotate_left
  · intro w' hSw; (try dsimp only at hSw); go_simp <;> with_reducible rfl
  simp only [Act.put, List.setIfInBounds_toArray, List.set_cons_zero, List.set_cons_succ]
  refine heldCall 2 (some 31) (f := ?_) (args := ?_) rfl rfl (by kernel_rfl) (by rfl) ?_ ?_
  rotate_left 2
  · go_simp <;> first | (constructor <;> with_reducible rfl) | with_reducible rfl
  (with_reducible refine (putRow_any _ u l xs _ ?_ ?_ hput ?_).mono ?_)
  · exact hv.below hB1.drew
  · exact hu.below hB1.drew
  · omega
  rintro e w2 ⟨v2, rfl, ho2, hb2⟩
  have hB2 := hB1.drew.trans (hb2.mono hB1.drew.size)
  have c0 := (hb2.cell (p := ⟨w.heap.size, 0, none⟩) hz1).trans c0
  have c1 := (hb2.cell (p := ⟨w.heap.size, 1, none⟩) hz1).trans c1
  refine ⟨_, rfl, keepAnd ?_ (fun hNew => ?_)⟩
  · exact ⟨c0, c1⟩
  clear hHeld
  have hHeld := hNew
  clear hNew
  simp only [Act.put, List.setIfInBounds_toArray, List.set_cons_zero, List.set_cons_succ]
  refine heldCall 4 (some 33) (f := ?_) (args := ?_) rfl rfl (by kernel_rfl) (by rfl) ?_ ?_
  rotate_left 2
  · go_simp <;> first | (constructor <;> with_reducible rfl) | with_reducible rfl
  (with_reducible refine (putPeriod_any v2 (l ++ encR xs) f t _ f1 f2 t1 t2 ?_ ?_).mono ?_)
  · exact ho2.rd
  · rw [List.length_append]; omega
  rintro e w3 ⟨v3, rfl, ho3, hb3⟩
  have hB3 := hB2.trans (hb3.mono hB2.size)
  have hz2 : w.heap.size < w2.heap.size := Nat.lt_of_lt_of_le hz1 hb2.size
  have c0 := (hb3.cell (p := ⟨w.heap.size, 0, none⟩) hz2).trans c0
  have c1 := (hb3.cell (p := ⟨w.heap.size, 1, none⟩) hz2).trans c1
  refine ⟨_, rfl, keepAnd ?_ (fun hNew => ?_)⟩
  · exact ⟨c0, c1⟩
  clear hHeld
  have hHeld := hNew
  clear hNew
  simp only [Act.put, List.setIfInBounds_toArray, List.set_cons_zero, List.set_cons_succ]
  refine heldTake 5 (some 9) (v := ?_) rfl rfl (by kernel_rfl) (by kernel_rfl) (by kernel_rfl) (by rfl) hHeld (fun _ _ _ h => h) ?_ ?_
  rotate_left
  · intro w' hSw; (try dsimp only at hSw); go_simp <;> with_reducible rfl
  simp only [Act.put, List.setIfInBounds_toArray, List.set_cons_zero, List.set_cons_succ]
  refine wpAnyH_done (by kernel_rfl) ?_ _
  refine NoPanic.normal ?_
  rw [HL.out] at ho3
  go_wp2_with fail
  have hT := row_any v3 _ (l.length : Int) _ ho3.rd
  rw [H1.out] at hT
  (with_reducible refine hT.mono ?_)
  clear hT
  rintro e w4 ⟨v4, rfl, ho4, hb4⟩
  simp only at ho4
  have hB4 := hB3.trans (hb4.mono hB3.size)
  have hz3 : w.heap.size < w3.heap.size := Nat.lt_of_lt_of_le hz2 hb3.size
  have hz4 : w.heap.size < w4.heap.size := Nat.lt_of_lt_of_le hz3 hb4.size
  have c0 := (hb4.cell (p := ⟨w.heap.size, 0, none⟩) hz3).trans c0
  have c1 := (hb4.cell (p := ⟨w.heap.size, 1, none⟩) hz3).trans c1
  go_wp2_with fail
  (with_reducible refine (rows_same v4 u xs _ ?_ ?_).mono ?_)
  · exact ho4.rd
  · exact hu.below hB4
  rintro e w5 ⟨rfl, hb5⟩
  have hB5 := hB4.trans (hb5.mono hB4.size)
  have c0 := (hb5.cell (p := ⟨w.heap.size, 0, none⟩) hz4).trans c0
  have c1 := (hb5.cell (p := ⟨w.heap.size, 1, none⟩) hz4).trans c1
  have hr3 := (ho3.rd.below hb4).below hb5
  go_wp2_with fail
  have hT := int_any _ v3 _ (k1 : Int) _ hr3
  rw [H2.out] at hT
  (with_reducible refine hT.mono ?_)
  clear hT
  rintro e _ ⟨rfl, rfl⟩
  go_wp2_with fail
  have hT := int_any _ v3 _ (k2 : Int) _ hr3
  rw [H3.out] at hT
  (with_reducible refine hT.mono ?_)
  clear hT
  rintro e _ ⟨rfl, rfl⟩
  obtain ⟨A3, c3, rfl, _, _, _⟩ := hr3.open_
  go_wp2_with fail
  (with_reducible refine (HR.out _ hB5).mono ?_)
  rintro e w6 ⟨v6, rfl, ho6, hb6⟩
  simp only at ho6
  have hB6 := hB5.trans (hb6.mono hB5.size)
  clear c0 c1
  go_wp2_with fail
  refine wp_region_noPanic ?_
  refine wp_region_held_drew (S := (fun w' => RdB w' (fun _ => True) (.slice A l.length c) l)) (by kernel_rfl) ?_ (fun hHeld => ?_)
  · exact (hv.below hB6).wide fun _ _ => trivial
  refine heldTake 0 (some 95) (v := ?_) rfl rfl (by kernel_rfl) (by kernel_rfl) (by kernel_rfl) (by rfl) hHeld (fun _ _ _ h => h) ?_ ?_
  rotate_left
  · intro w' hSw; (try dsimp only at hSw); go_simp <;> with_reducible rfl
  simp only [Act.put, List.setIfInBounds_toArray, List.set_cons_zero, List.set_cons_succ]
  refine heldTake 1 (some 96) (v := ?_) rfl rfl (by kernel_rfl) (by kernel_rfl) (by kernel_rfl) (by rfl) hHeld (fun _ _ _ h => h) ?_ ?_
  rotate_left
  · intro w' hSw; (try dsimp only at hSw); go_simp <;> with_reducible rfl
  simp only [Act.put, List.setIfInBounds_toArray, List.set_cons_zero, List.set_cons_succ]
  refine heldTake 2 (some 97) (v := ?_) rfl rfl (by kernel_rfl) (by kernel_rfl) (by kernel_rfl) (by rfl) hHeld (fun _ _ _ h => h) ?_ ?_
  rotate_left
  · intro w' hSw; (try dsimp only at hSw); go_simp <;> with_reducible rfl
  simp only [Act.put, List.setIfInBounds_toArray, List.set_cons_zero, List.set_cons_succ]
  refine heldTake 3 (some 98) (v := ?_) rfl rfl (by kernel_rfl) (by kernel_rfl) (by kernel_rfl) (by rfl) hHeld (fun _ _ _ h => h) ?_ ?_
  rotate_left
  · intro w' hSw; (try dsimp only at hSw); go_simp <;> with_reducible rfl
  simp only [Act.put, List.setIfInBounds_toArray, List.set_cons_zero, List.set_cons_succ]
  refine heldTake 4 (some 99) (v := ?_) rfl rfl (by kernel_rfl) (by kernel_rfl) (by kernel_rfl) (by rfl) hHeld (fun _ _ _ h => h) ?_ ?_
  rotate_left
  · intro w' hSw; (try dsimp only at hSw); go_simp <;> with_reducible rfl
  simp only [Act.put, List.setIfInBounds_toArray, List.set_cons_zero, List.set_cons_succ]
  refine heldTake 5 (some 100) (v := ?_) rfl rfl (by kernel_rfl) (by kernel_rfl) (by kernel_rfl) (by rfl) hHeld (fun _ _ _ h => h) ?_ ?_
  rotate_left
  · intro w' hSw; (try dsimp only at hSw); go_simp <;> with_reducible rfl
  simp only [Act.put, List.setIfInBounds_toArray, List.set_cons_zero, List.set_cons_succ]
  refine heldTake 6 (some 101) (v := ?_) rfl rfl (by kernel_rfl) (by kernel_rfl) (by kernel_rfl) (by rfl) hHeld (fun _ _ _ h => h) ?_ ?_
  rotate_left
  · intro w' hSw; (try dsimp only at hSw); go_simp <;> with_reducible rfl
  simp only [Act.put, List.setIfInBounds_toArray, List.set_cons_zero, List.set_cons_succ]
  refine heldTake 7 (some 102) (v := ?_) rfl rfl (by kernel_rfl) (by kernel_rfl) (by kernel_rfl) (by rfl) hHeld (fun _ _ _ h => h) ?_ ?_
  rotate_left
  · intro w' hSw; (try dsimp only at hSw); go_simp <;> with_reducible rfl
  simp only [Act.put, List.setIfInBounds_toArray, List.set_cons_zero, List.set_cons_succ]
  refine heldTake 10 (some 105) (v := ?_) rfl rfl (by kernel_rfl) (by kernel_rfl) (by kernel_rfl) (by rfl) hHeld (fun _ _ _ h => h) ?_ ?_
  rotate_left
  · intro w' hSw; (try dsimp only at hSw); go_simp <;> with_reducible rfl
  simp only [Act.put, List.setIfInBounds_toArray, List.set_cons_zero, List.set_cons_succ]
  refine heldTake 11 (some 106) (v := ?_) rfl rfl (by kernel_rfl) (by kernel_rfl) (by kernel_rfl) (by rfl) hHeld (fun _ _ _ h => h) ?_ ?_
  rotate_left
  · intro w' hSw; (try dsimp only at hSw); go_simp <;> with_reducible rfl
  simp only [Act.put, List.setIfInBounds_toArray, List.set_cons_zero, List.set_cons_succ]
  refine heldTake 12 (some 107) (v := ?_) rfl rfl (by kernel_rfl) (by kernel_rfl) (by kernel_rfl) (by rfl) hHeld (fun _ _ _ h => h) ?_ ?_
  rotate_left
  · intro w' hSw; (try dsimp only at hSw); go_simp <;> with_reducible rfl
  simp only [Act.put, List.setIfInBounds_toArray, List.set_cons_zero, List.set_cons_succ]
  refine heldTake 13 (some 108) (v := ?_) rfl rfl (by kernel_rfl) (by kernel_rfl) (by kernel_rfl) (by rfl) hHeld (fun _ _ _ h => h) ?_ ?_
  rotate_left
  · intro w' hSw; (try dsimp only at hSw); go_simp; rw [run_bytes_str (hSw.take hma hmc (Nat.le_refl _))]; rfl
  simp only [Act.put, List.setIfInBounds_toArray, List.set_cons_zero, List.set_cons_succ]
  refine heldCall 8 (some 103) (f := ?_) (args := ?_) rfl rfl (by kernel_rfl) (by rfl) ?_ ?_
  rotate_left 2
  · go_simp <;> first | (constructor <;> with_reducible rfl) | with_reducible rfl
  (with_reducible refine (putRow_any (.slice A ka ka) v6 (l.take ka) ys _ ?_ ?_ HY.out ?_).mono ?_)
  · exact (hv.below hB6.drew).take hka (Nat.le_refl _) (by omega)
  · exact ho6.rd
  · exact hya
  rw [HE.out]
  rintro e w7 ⟨v7, rfl, ho7, hb7⟩
  have hB7 := hB6.drew.trans (hb7.mono hB6.drew.size)
  refine ⟨_, rfl, keepAnd ?_ (fun hNew => ?_)⟩
  · exact (hv.below hB7).wide fun _ _ => trivial
  clear hHeld
  have hHeld := hNew
  clear hNew
  simp only [Act.put, List.setIfInBounds_toArray, List.set_cons_zero, List.set_cons_succ]
  refine heldRun 9 (some 104) (v := .string (strB (l.take ma))) (w' := w7) rfl rfl (by kernel_rfl) (by rfl) ?_ ?_ ?_
  · go_simp; rw [run_bytes_str ho7.rd]; rfl
  · exact (hv.below hB7).wide fun _ _ => trivial
  simp only [Act.put, List.setIfInBounds_toArray, List.set_cons_zero, List.set_cons_succ]
  refine heldTake 14 (some 109) (v := ?_) rfl rfl (by kernel_rfl) (by kernel_rfl) (by kernel_rfl) (by rfl) hHeld (fun _ _ _ h => h) ?_ ?_
  rotate_left
  · intro w' hSw; (try dsimp only at hSw); go_simp <;> with_reducible rfl
  simp only [Act.put, List.setIfInBounds_toArray, List.set_cons_zero, List.set_cons_succ]
  refine heldTake 15 (some 110) (v := ?_) rfl rfl (by kernel_rfl) (by kernel_rfl) (by kernel_rfl) (by rfl) hHeld (fun _ _ _ h => h) ?_ ?_
  rotate_left
  · intro w' hSw; (try dsimp only at hSw); go_simp <;> with_reducible rfl
  simp only [Act.put, List.setIfInBounds_toArray, List.set_cons_zero, List.set_cons_succ]
  refine wpAnyH_done (by kernel_rfl) ?_ _
  refine NoPanic.normal ?_
  go_wp2_with fail
  (with_reducible refine (HQ.out _ hB7).mono ?_)
  rintro e w8 ⟨rfl, hb8⟩
  simp only
  have hB8 := hB7.trans (hb8.mono hB7.size)
  have d0 := box_cell w8 #[.int .i64 yf, .int .i64 yt] 44 0 rfl
  have d1 := box_cell w8 #[.int .i64 yf, .int .i64 yt] 44 1 rfl
  have hB9 := hB8.alloc hB8.size (.cells #[.int .i64 yf, .int .i64 yt] 44)
  have hz9 : w8.heap.size < (w8.alloc (.cells #[.int .i64 yf, .int .i64 yt] 44)).heap.size := by simp
  go_wp2_with fail
  refine wp_region_noPanic ?_
  refine wp_region_held_drew (S := (fun _ => True)) (by kernel_rfl) ?_ (fun hHeld => ?_)
  · trivial
  refine heldTake 0 (some 118) (v := ?_) rfl rfl (by kernel_rfl) (by kernel_rfl) (by kernel_rfl) (by rfl) hHeld (fun _ _ _ h => h) ?_ ?_
  rotate_left
  · intro w' hSw; (try dsimp only at hSw); go_simp <;> with_reducible rfl
  simp only [Act.put, List.setIfInBounds_toArray, List.set_cons_zero, List.set_cons_succ]
  refine heldTake 1 (some 119) (v := ?_) rfl rfl (by kernel_rfl) (by kernel_rfl) (by kernel_rfl) (by rfl) hHeld (fun _ _ _ h => h) ?_ ?_
  rotate_left
  · intro w' hSw; (try dsimp only at hSw); go_simp <;> with_reducible rfl
  simp only [Act.put, List.setIfInBounds_toArray, List.set_cons_zero, List.set_cons_succ]
  refine heldTake 2 (some 120) (v := ?_) rfl rfl (by kernel_rfl) (by kernel_rfl) (by kernel_rfl) (by rfl) hHeld (fun _ _ _ h => h) ?_ ?_
  rotate_left
  · intro w' hSw; (try dsimp only at hSw); go_simp <;> with_reducible rfl
  simp only [Act.put, List.setIfInBounds_toArray, List.set_cons_zero, List.set_cons_succ]
  refine heldSkip 3 (some 121) rfl rfl (by kernel_rfl) (by kernel_rfl) (by kernel_rfl) (by rfl) hHeld (fun _ _ _ h => h) ?_
  simp only [Act.put, List.setIfInBounds_toArray, List.set_cons_zero, List.set_cons_succ]
  refine heldSkip 4 (some 122) rfl rfl (by kernel_rfl) (by kernel_rfl) (by kernel_rfl) (by rfl) hHeld (fun _ _ _ h => h) ?_
  simp only [Act.put, List.setIfInBounds_toArray, List.set_cons_zero, List.set_cons_succ]
  refine heldSkip 5 (some 123) rfl rfl (by kernel_rfl) (by kernel_rfl) (by kernel_rfl) (by rfl) hHeld (fun _ _ _ h => h) ?_
  simp only [Act.put, List.setIfInBounds_toArray, List.set_cons_zero, List.set_cons_succ]
  refine heldSkip 6 (some 124) rfl rfl (by kernel_rfl) (by kernel_rfl) (by kernel_rfl) (by rfl) hHeld (fun _ _ _ h => h) ?_
  simp only [Act.put, List.setIfInBounds_toArray, List.set_cons_zero, List.set_cons_succ]
  refine heldSkip 7 (some 125) rfl rfl (by kernel_rfl) (by kernel_rfl) (by kernel_rfl) (by rfl) hHeld (fun _ _ _ h => h) ?_
  simp only [Act.put, List.setIfInBounds_toArray, List.set_cons_zero, List.set_cons_succ]
  refine heldSkip 8 (some 126) rfl rfl (by kernel_rfl) (by kernel_rfl) (by kernel_rfl) (by rfl) hHeld (fun _ _ _ h => h) ?_
  simp only [Act.put, List.setIfInBounds_toArray, List.set_cons_zero, List.set_cons_succ]
  refine heldSkip 9 (some 127) rfl rfl (by kernel_rfl) (by kernel_rfl) (by kernel_rfl) (by rfl) hHeld (fun _ _ _ h => h) ?_
  simp only [Act.put, List.setIfInBounds_toArray, List.set_cons_zero, List.set_cons_succ]
  refine heldSkip 10 (some 128) rfl rfl (by kernel_rfl) (by kernel_rfl) (by kernel_rfl) (by rfl) hHeld (fun _ _ _ h => h) ?_
  simp only [Act.put, List.setIfInBounds_toArray, List.set_cons_zero, List.set_cons_succ]
  refine heldSkip 11 (some 129) rfl rfl (by kernel_rfl) (by kernel_rfl) (by kernel_rfl) (by rfl) hHeld (fun _ _ _ h => h) ?_
  simp only [Act.put, List.setIfInBounds_toArray, List.set_cons_zero, List.set_cons_succ]
  refine heldSkip 12 (some 130) rfl rfl (by kernel_rfl) (by kernel_rfl) (by kernel_rfl) (by rfl) hHeld (fun _ _ _ h => h) ?_
  simp only [Act.put, List.setIfInBounds_toArray, List.set_cons_zero, List.set_cons_succ]
  refine heldSkip 13 (some 131) rfl rfl (by kernel_rfl) (by kernel_rfl) (by kernel_rfl) (by rfl) hHeld (fun _ _ _ h => h) ?_
  simp only [Act.put, List.setIfInBounds_toArray, List.set_cons_zero, List.set_cons_succ]
  refine heldSkip 14 (some 132) rfl rfl (by kernel_rfl) (by kernel_rfl) (by kernel_rfl) (by rfl) hHeld (fun _ _ _ h => h) ?_
  simp only [Act.put, List.setIfInBounds_toArray, List.set_cons_zero, List.set_cons_succ]
  refine heldTake 15 (some 133) (v := ?_) rfl rfl (by kernel_rfl) (by kernel_rfl) (by kernel_rfl) (by rfl) hHeld (fun _ _ _ h => h) ?_ ?_
  rotate_left
  · intro w' hSw; (try dsimp only at hSw); go_simp <;> with_reducible rfl
  simp only [Act.put, List.setIfInBounds_toArray, List.set_cons_zero, List.set_cons_succ]
  refine wpAnyH_done (by kernel_rfl) ?_ _
  refine NoPanic.normal ?_
  go_wp2_with fail
  (with_reducible refine (works_any _).mono ?_)
  rintro e w11 ⟨rfl, hb11⟩
  go_wp2_with fail
  go_ret
  exact ⟨rfl, hB9.drew.trans (hb11.mono hB9.drew.size)⟩

set_option maxRecDepth 100000 in
set_option maxHeartbeats 4000000 in
theorem lawBack_yy (A : Option Addr) (c : Nat) (u : Value) (l : List UInt8) (xs : List Val) (f t k : Int) (w : World) (hc : l.length ≤ c) (hv : RdB w (· < w.heap.size) (.slice A l.length c) l) (hu : RdV w (· < w.heap.size) u xs) (hok : ∀ x ∈ xs, goV x)
    (hput : ∀ x ∈ xs, putV x) (hl : l.length + (encR xs).length + 300 ≤ 140737488354000) (f1 : -9223372036854775808 ≤ f) (f2 : f ≤ 9223372036854775807) (t1 : -9223372036854775808 ≤ t) (t2 : t ≤ 9223372036854775807)
    (hval : xs.all validV = true) (hlen : xs.length ≤ 12)
    (ys : List Val) (ka ma : Nat) (hka : ka ≤ l.length) (hma : ma ≤ l.length) (hys : ∀ x ∈ ys, putV x) (hye : l.take ka ++ encR ys = l.take ma) (hya : (l.take ka).length + (encR ys).length + 200 ≤ 140737488354000)
    (hR : decR l k = (ys, (ma : Int), 0)) (hk1 : k = (ka : Int))
    (yf yt : Int) (kp mp : Nat) (hkp : kp ≤ l.length) (hmp : mp ≤ l.length) (hpe : l.take kp ++ (encI yf ++ encI yt) = l.take mp) (y1 : -9223372036854775808 ≤ yf) (y2 : yf ≤ 9223372036854775807) (y3 : -9223372036854775808 ≤ yt) (y4 : yt ≤ 9223372036854775807)
    (hP : decP l k = ((yf, yt), (mp : Int), 0)) (hk2 : k = (kp : Int)) :
    Calls Try.prog 10 #[.slice A l.length c, u, .agg #[.int .i64 f, .int .i64 t], .int .i64 k] w fun e w' => e = .returned (.bool true) ∧ Below w.heap.size w w' := by
  have h1 := back_row l xs f t hval hlen
  have h2 := back_from l xs f t f1 f2
  have h3 := back_to l xs f t t1 t2
  generalize (l ++ encR xs).length = k1 at h1 h2
  generalize (l ++ encR xs ++ encI f).length = k2 at h2 h3
  generalize hLe : l ++ encR xs ++ (encI f ++ encI t) = L at h1 h2 h3
  have HL := Lib.hid hLe
  clear hLe
  have hv0 : (xs.all validV && decide (xs.length ≤ 12)) = true := by rw [hval]; simp [hlen]
  have hRow := fun (W : World) (h : Below w.heap.size w W) => row_any _ l k W (hv.below h)
  have hPer := fun (W : World) (h : Below w.heap.size w W) => period_any _ l k W (hv.below h)
  rw [hR] at hRow
  rw [hP] at hPer
  have H1 := Lib.hid h1
  have H2 := Lib.hid h2
  have H3 := Lib.hid h3
  have HV := Lib.hid hv0
  have HR := Lib.hid hRow
  have HQ := Lib.hid hPer
  clear h1 h2 h3 hval hv0 hRow hPer hR hP
  have hkc : ka ≤ c := by omega
  have hmc : ma ≤ c := by omega
  have HY := Lib.hid hys
  have HE := Lib.hid hye
  clear hys hye
  have hkd : kp ≤ c := by omega
  have hmd : mp ≤ c := by omega
  have HP := Lib.hid hpe
  clear hpe
  obtain rfl : ka = kp := by omega
  subst hk1
  clear hk2
  go_enter Try.func10, Try.ntmps10
  go_wp2_with fail
  (with_reducible refine (refValidRow_any u xs _ ?_ hok).mono ?_)
  · exact hu.below (below1 _)
  rw [HV.out]
  rintro e w1 ⟨rfl, hb1⟩
  have hB1 : Below w.heap.size w w1 := (below1 _).trans (hb1.mono (by simp))
  have c0 := (hb1.cell (p := ⟨w.heap.size, 0, none⟩) (by simp)).trans (box_cell w _ _ 0 rfl)
  have c1 := (hb1.cell (p := ⟨w.heap.size, 1, none⟩) (by simp)).trans (box_cell w _ _ 1 rfl)
  have hz1 : w.heap.size < w1.heap.size := Nat.lt_of_lt_of_le (by simp) hb1.size
  go_wp2_with fail
  refine wp_region_noPanic ?_
  refine wp_region_held_drew (S := (fun w' => w'.cell? ⟨w.heap.size, 0, none⟩ = some (.int .i64 f) ∧ w'.cell? ⟨w.heap.size, 1, none⟩ = some (.int .i64 t))) (by kernel_rfl) ?_ (fun hHeld => ?_)
  · exact ⟨c0, c1⟩
  refine heldTake 0 (some 29) (v := ?_) rfl rfl (by kernel_rfl) (by kernel_rfl) (by kernel_rfl) (by rfl) hHeld (fun _ _ _ h => h) ?_ ?_
  rotate_left
  · intro w' hSw; (try dsimp only at hSw); go_simp <;> with_reducible rfl
  simp only [Act.put, List.setIfInBounds_toArray, List.set_cons_zero, List.set_cons_succ]
  refine heldTake 1 (some 30) (v := ?_) rfl rfl (by kernel_rfl) (by kernel_rfl) (by kernel_rfl) (by rfl) hHeld (fun _ _ _ h => h) ?_ ?_
  rotate_left
  · intro w' hSw; (try dsimp only at hSw); go_simp <;> with_reducible rfl
  simp only [Act.put, List.setIfInBounds_toArray, List.set_cons_zero, List.set_cons_succ]
  refine heldTake 3 (some 32) (v := ?_) rfl rfl (by kernel_rfl) (by kernel_rfl) (by kernel_rfl) (by rfl) hHeld (fun _ _ _ h => h) ?_ ?_
  rotate_left
  · intro w' hSw; (try dsimp only at hSw); go_simp <;> with_reducible rfl
  simp only [Act.put, List.setIfInBounds_toArray, List.set_cons_zero, List.set_cons_succ]
  refine heldCall 2 (some 31) (f := ?_) (args := ?_) rfl rfl (by kernel_rfl) (by rfl) ?_ ?_
  rotate_left 2
  · go_simp <;> first | (constructor <;> with_reducible rfl) | with_reducible rfl
  (with_reducible refine (putRow_any _ u l xs _ ?_ ?_ hput ?_).mono ?_)
  · exact hv.below hB1.drew
  · exact hu.below hB1.drew
  · omega
  rintro e w2 ⟨v2, rfl, ho2, hb2⟩
  have hB2 := hB1.drew.trans (hb2.mono hB1.drew.size)
  have c0 := (hb2.cell (p := ⟨w.heap.size, 0, none⟩) hz1).trans c0
  have c1 := (hb2.cell (p := ⟨w.heap.size, 1, none⟩) hz1).trans c1
  refine ⟨_, rfl, keepAnd ?_ (fun hNew => ?_)⟩
  · exact ⟨c0, c1⟩
  clear hHeld
  have hHeld := hNew
  clear hNew
  simp only [Act.put, List.setIfInBounds_toArray, List.set_cons_zero, List.set_cons_succ]
  refine heldCall 4 (some 33) (f := ?_) (args := ?_) rfl rfl (by kernel_rfl) (by rfl) ?_ ?_
  rotate_left 2
  · go_simp <;> first | (constructor <;> with_reducible rfl) | with_reducible rfl
  (with_reducible refine (putPeriod_any v2 (l ++ encR xs) f t _ f1 f2 t1 t2 ?_ ?_).mono ?_)
  · exact ho2.rd
  · rw [List.length_append]; omega
  rintro e w3 ⟨v3, rfl, ho3, hb3⟩
  have hB3 := hB2.trans (hb3.mono hB2.size)
  have hz2 : w.heap.size < w2.heap.size := Nat.lt_of_lt_of_le hz1 hb2.size
  have c0 := (hb3.cell (p := ⟨w.heap.size, 0, none⟩) hz2).trans c0
  have c1 := (hb3.cell (p := ⟨w.heap.size, 1, none⟩) hz2).trans c1
  refine ⟨_, rfl, keepAnd ?_ (fun hNew => ?_)⟩
  · exact ⟨c0, c1⟩
  clear hHeld
  have hHeld := hNew
  clear hNew
  simp only [Act.put, List.setIfInBounds_toArray, List.set_cons_zero, List.set_cons_succ]
  refine heldTake 5 (some 9) (v := ?_) rfl rfl (by kernel_rfl) (by kernel_rfl) (by kernel_rfl) (by rfl) hHeld (fun _ _ _ h => h) ?_ ?_
  rotate_left
  · intro w' hSw; (try dsimp only at hSw); go_simp <;> with_reducible rfl
  simp only [Act.put, List.setIfInBounds_toArray, List.set_cons_zero, List.set_cons_succ]
  refine wpAnyH_done (by kernel_rfl) ?_ _
  refine NoPanic.normal ?_
  rw [HL.out] at ho3
  go_wp2_with fail
  have hT := row_any v3 _ (l.length : Int) _ ho3.rd
  rw [H1.out] at hT
  (with_reducible refine hT.mono ?_)
  clear hT
  rintro e w4 ⟨v4, rfl, ho4, hb4⟩
  simp only at ho4
  have hB4 := hB3.trans (hb4.mono hB3.size)
  have hz3 : w.heap.size < w3.heap.size := Nat.lt_of_lt_of_le hz2 hb3.size
  have hz4 : w.heap.size < w4.heap.size := Nat.lt_of_lt_of_le hz3 hb4.size
  have c0 := (hb4.cell (p := ⟨w.heap.size, 0, none⟩) hz3).trans c0
  have c1 := (hb4.cell (p := ⟨w.heap.size, 1, none⟩) hz3).trans c1
  go_wp2_with fail
  (with_reducible refine (rows_same v4 u xs _ ?_ ?_).mono ?_)
  · exact ho4.rd
  · exact hu.below hB4
  rintro e w5 ⟨rfl, hb5⟩
  have hB5 := hB4.trans (hb5.mono hB4.size)
  have c0 := (hb5.cell (p := ⟨w.heap.size, 0, none⟩) hz4).trans c0
  have c1 := (hb5.cell (p := ⟨w.heap.size, 1, none⟩) hz4).trans c1
  have hr3 := (ho3.rd.below hb4).below hb5
  go_wp2_with fail
  have hT := int_any _ v3 _ (k1 : Int) _ hr3
  rw [H2.out] at hT
  (with_reducible refine hT.mono ?_)
  clear hT
  rintro e _ ⟨rfl, rfl⟩
  go_wp2_with fail
  have hT := int_any _ v3 _ (k2 : Int) _ hr3
  rw [H3.out] at hT
  (with_reducible refine hT.mono ?_)
  clear hT
  rintro e _ ⟨rfl, rfl⟩
  obtain ⟨A3, c3, rfl, _, _, _⟩ := hr3.open_
  go_wp2_with fail
  (with_reducible refine (HR.out _ hB5).mono ?_)
  rintro e w6 ⟨v6, rfl, ho6, hb6⟩
  simp only at ho6
  have hB6 := hB5.trans (hb6.mono hB5.size)
  clear c0 c1
  go_wp2_with fail
  refine wp_region_noPanic ?_
  refine wp_region_held_drew (S := (fun w' => RdB w' (fun _ => True) (.slice A l.length c) l)) (by kernel_rfl) ?_ (fun hHeld => ?_)
  · exact (hv.below hB6).wide fun _ _ => trivial
  refine heldTake 0 (some 95) (v := ?_) rfl rfl (by kernel_rfl) (by kernel_rfl) (by kernel_rfl) (by rfl) hHeld (fun _ _ _ h => h) ?_ ?_
  rotate_left
  · intro w' hSw; (try dsimp only at hSw); go_simp <;> with_reducible rfl
  simp only [Act.put, List.setIfInBounds_toArray, List.set_cons_zero, List.set_cons_succ]
  refine heldTake 1 (some 96) (v := ?_) rfl rfl (by kernel_rfl) (by kernel_rfl) (by kernel_rfl) (by rfl) hHeld (fun _ _ _ h => h) ?_ ?_
  rotate_left
  · intro w' hSw; (try dsimp only at hSw); go_simp <;> with_reducible rfl
  simp only [Act.put, List.setIfInBounds_toArray, List.set_cons_zero, List.set_cons_succ]
  refine heldTake 2 (some 97) (v := ?_) rfl rfl (by kernel_rfl) (by kernel_rfl) (by kernel_rfl) (by rfl) hHeld (fun _ _ _ h => h) ?_ ?_
  rotate_left
  · intro w' hSw; (try dsimp only at hSw); go_simp <;> with_reducible rfl
  simp only [Act.put, List.setIfInBounds_toArray, List.set_cons_zero, List.set_cons_succ]
  refine heldTake 3 (some 98) (v := ?_) rfl rfl (by kernel_rfl) (by kernel_rfl) (by kernel_rfl) (by rfl) hHeld (fun _ _ _ h => h) ?_ ?_
  rotate_left
  · intro w' hSw; (try dsimp only at hSw); go_simp <;> with_reducible rfl
  simp only [Act.put, List.setIfInBounds_toArray, List.set_cons_zero, List.set_cons_succ]
  refine heldTake 4 (some 99) (v := ?_) rfl rfl (by kernel_rfl) (by kernel_rfl) (by kernel_rfl) (by rfl) hHeld (fun _ _ _ h => h) ?_ ?_
  rotate_left
  · intro w' hSw; (try dsimp only at hSw); go_simp <;> with_reducible rfl
  simp only [Act.put, List.setIfInBounds_toArray, List.set_cons_zero, List.set_cons_succ]
  refine heldTake 5 (some 100) (v := ?_) rfl rfl (by kernel_rfl) (by kernel_rfl) (by kernel_rfl) (by rfl) hHeld (fun _ _ _ h => h) ?_ ?_
  rotate_left
  · intro w' hSw; (try dsimp only at hSw); go_simp <;> with_reducible rfl
  simp only [Act.put, List.setIfInBounds_toArray, List.set_cons_zero, List.set_cons_succ]
  refine heldTake 6 (some 101) (v := ?_) rfl rfl (by kernel_rfl) (by kernel_rfl) (by kernel_rfl) (by rfl) hHeld (fun _ _ _ h => h) ?_ ?_
  rotate_left
  · intro w' hSw; (try dsimp only at hSw); go_simp <;> with_reducible rfl
  simp only [Act.put, List.setIfInBounds_toArray, List.set_cons_zero, List.set_cons_succ]
  refine heldTake 7 (some 102) (v := ?_) rfl rfl (by kernel_rfl) (by kernel_rfl) (by kernel_rfl) (by rfl) hHeld (fun _ _ _ h => h) ?_ ?_
  rotate_left
  · intro w' hSw; (try dsimp only at hSw); go_simp <;> with_reducible rfl
  simp only [Act.put, List.setIfInBounds_toArray, List.set_cons_zero, List.set_cons_succ]
  refine heldTake 10 (some 105) (v := ?_) rfl rfl (by kernel_rfl) (by kernel_rfl) (by kernel_rfl) (by rfl) hHeld (fun _ _ _ h => h) ?_ ?_
  rotate_left
  · intro w' hSw; (try dsimp only at hSw); go_simp <;> with_reducible rfl
  simp only [Act.put, List.setIfInBounds_toArray, List.set_cons_zero, List.set_cons_succ]
  refine heldTake 11 (some 106) (v := ?_) rfl rfl (by kernel_rfl) (by kernel_rfl) (by kernel_rfl) (by rfl) hHeld (fun _ _ _ h => h) ?_ ?_
  rotate_left
  · intro w' hSw; (try dsimp only at hSw); go_simp <;> with_reducible rfl
  simp only [Act.put, List.setIfInBounds_toArray, List.set_cons_zero, List.set_cons_succ]
  refine heldTake 12 (some 107) (v := ?_) rfl rfl (by kernel_rfl) (by kernel_rfl) (by kernel_rfl) (by rfl) hHeld (fun _ _ _ h => h) ?_ ?_
  rotate_left
  · intro w' hSw; (try dsimp only at hSw); go_simp <;> with_reducible rfl
  simp only [Act.put, List.setIfInBounds_toArray, List.set_cons_zero, List.set_cons_succ]
  refine heldTake 13 (some 108) (v := ?_) rfl rfl (by kernel_rfl) (by kernel_rfl) (by kernel_rfl) (by rfl) hHeld (fun _ _ _ h => h) ?_ ?_
  rotate_left
  · intro w' hSw; (try dsimp only at hSw); go_simp; rw [run_bytes_str (hSw.take hma hmc (Nat.le_refl _))]; rfl
  simp only [Act.put, List.setIfInBounds_toArray, List.set_cons_zero, List.set_cons_succ]
  refine heldCall 8 (some 103) (f := ?_) (args := ?_) rfl rfl (by kernel_rfl) (by rfl) ?_ ?_
  rotate_left 2
  · go_simp <;> first | (constructor <;> with_reducible rfl) | with_reducible rfl
  (with_reducible refine (putRow_any (.slice A ka ka) v6 (l.take ka) ys _ ?_ ?_ HY.out ?_).mono ?_)
  · exact (hv.below hB6.drew).take hka (Nat.le_refl _) (by omega)
  · exact ho6.rd
  · exact hya
  rw [HE.out]
  rintro e w7 ⟨v7, rfl, ho7, hb7⟩
  have hB7 := hB6.drew.trans (hb7.mono hB6.drew.size)
  refine ⟨_, rfl, keepAnd ?_ (fun hNew => ?_)⟩
  · exact (hv.below hB7).wide fun _ _ => trivial
  clear hHeld
  have hHeld := hNew
  clear hNew
  simp only [Act.put, List.setIfInBounds_toArray, List.set_cons_zero, List.set_cons_succ]
  refine heldRun 9 (some 104) (v := .string (strB (l.take ma))) (w' := w7) rfl rfl (by kernel_rfl) (by rfl) ?_ ?_ ?_
  · go_simp; rw [run_bytes_str ho7.rd]; rfl
  · exact (hv.below hB7).wide fun _ _ => trivial
  simp only [Act.put, List.setIfInBounds_toArray, List.set_cons_zero, List.set_cons_succ]
  refine heldTake 14 (some 109) (v := ?_) rfl rfl (by kernel_rfl) (by kernel_rfl) (by kernel_rfl) (by rfl) hHeld (fun _ _ _ h => h) ?_ ?_
  rotate_left
  · intro w' hSw; (try dsimp only at hSw); go_simp <;> with_reducible rfl
  simp only [Act.put, List.setIfInBounds_toArray, List.set_cons_zero, List.set_cons_succ]
  refine heldTake 15 (some 110) (v := ?_) rfl rfl (by kernel_rfl) (by kernel_rfl) (by kernel_rfl) (by rfl) hHeld (fun _ _ _ h => h) ?_ ?_
  rotate_left
  · intro w' hSw; (try dsimp only at hSw); go_simp <;> with_reducible rfl
  simp only [Act.put, List.setIfInBounds_toArray, List.set_cons_zero, List.set_cons_succ]
  refine wpAnyH_done (by kernel_rfl) ?_ _
  refine NoPanic.normal ?_
  go_wp2_with fail
  (with_reducible refine (HQ.out _ hB7).mono ?_)
  rintro e w8 ⟨rfl, hb8⟩
  simp only
  have hB8 := hB7.trans (hb8.mono hB7.size)
  have d0 := box_cell w8 #[.int .i64 yf, .int .i64 yt] 44 0 rfl
  have d1 := box_cell w8 #[.int .i64 yf, .int .i64 yt] 44 1 rfl
  have hB9 := hB8.alloc hB8.size (.cells #[.int .i64 yf, .int .i64 yt] 44)
  have hz9 : w8.heap.size < (w8.alloc (.cells #[.int .i64 yf, .int .i64 yt] 44)).heap.size := by simp
  go_wp2_with fail
  refine wp_region_noPanic ?_
  refine wp_region_held_drew (S := (fun w' => RdB w' (fun _ => True) (.slice A l.length c) l ∧ w'.cell? ⟨w8.heap.size, 0, none⟩ = some (.int .i64 yf) ∧ w'.cell? ⟨w8.heap.size, 1, none⟩ = some (.int .i64 yt))) (by kernel_rfl) ?_ (fun hHeld => ?_)
  · exact ⟨(hv.below hB9).wide fun _ _ => trivial, d0, d1⟩
  refine heldTake 0 (some 118) (v := ?_) rfl rfl (by kernel_rfl) (by kernel_rfl) (by kernel_rfl) (by rfl) hHeld (fun _ _ _ h => h) ?_ ?_
  rotate_left
  · intro w' hSw; (try dsimp only at hSw); go_simp <;> with_reducible rfl
  simp only [Act.put, List.setIfInBounds_toArray, List.set_cons_zero, List.set_cons_succ]
  refine heldTake 1 (some 119) (v := ?_) rfl rfl (by kernel_rfl) (by kernel_rfl) (by kernel_rfl) (by rfl) hHeld (fun _ _ _ h => h) ?_ ?_
  rotate_left
  · intro w' hSw; (try dsimp only at hSw); go_simp <;> with_reducible rfl
  simp only [Act.put, List.setIfInBounds_toArray, List.set_cons_zero, List.set_cons_succ]
  refine heldTake 2 (some 120) (v := ?_) rfl rfl (by kernel_rfl) (by kernel_rfl) (by kernel_rfl) (by rfl) hHeld (fun _ _ _ h => h) ?_ ?_
  rotate_left
  · intro w' hSw; (try dsimp only at hSw); go_simp <;> with_reducible rfl
  simp only [Act.put, List.setIfInBounds_toArray, List.set_cons_zero, List.set_cons_succ]
  refine heldTake 3 (some 121) (v := ?_) rfl rfl (by kernel_rfl) (by kernel_rfl) (by kernel_rfl) (by rfl) hHeld (fun _ _ _ h => h) ?_ ?_
  rotate_left
  · intro w' hSw; (try dsimp only at hSw); go_simp <;> with_reducible rfl
  simp only [Act.put, List.setIfInBounds_toArray, List.set_cons_zero, List.set_cons_succ]
  refine heldTake 4 (some 122) (v := ?_) rfl rfl (by kernel_rfl) (by kernel_rfl) (by kernel_rfl) (by rfl) hHeld (fun _ _ _ h => h) ?_ ?_
  rotate_left
  · intro w' hSw; (try dsimp only at hSw); go_simp <;> with_reducible rfl
  simp only [Act.put, List.setIfInBounds_toArray, List.set_cons_zero, List.set_cons_succ]
  refine heldTake 5 (some 123) (v := ?_) rfl rfl (by kernel_rfl) (by kernel_rfl) (by kernel_rfl) (by rfl) hHeld (fun _ _ _ h => h) ?_ ?_
  rotate_left
  · intro w' hSw; (try dsimp only at hSw); go_simp <;> with_reducible rfl
  simp only [Act.put, List.setIfInBounds_toArray, List.set_cons_zero, List.set_cons_succ]
  refine heldTake 6 (some 124) (v := ?_) rfl rfl (by kernel_rfl) (by kernel_rfl) (by kernel_rfl) (by rfl) hHeld (fun _ _ _ h => h) ?_ ?_
  rotate_left
  · intro w' hSw; (try dsimp only at hSw); go_simp <;> with_reducible rfl
  simp only [Act.put, List.setIfInBounds_toArray, List.set_cons_zero, List.set_cons_succ]
  refine heldTake 7 (some 125) (v := ?_) rfl rfl (by kernel_rfl) (by kernel_rfl) (by kernel_rfl) (by rfl) hHeld (fun _ _ _ h => h) ?_ ?_
  rotate_left
  · intro w' hSw; (try dsimp only at hSw); go_simp <;> with_reducible rfl
  simp only [Act.put, List.setIfInBounds_toArray, List.set_cons_zero, List.set_cons_succ]
  refine heldTake 10 (some 128) (v := ?_) rfl rfl (by kernel_rfl) (by kernel_rfl) (by kernel_rfl) (by rfl) hHeld (fun _ _ _ h => h) ?_ ?_
  rotate_left
  · intro w' hSw; (try dsimp only at hSw); go_simp <;> with_reducible rfl
  simp only [Act.put, List.setIfInBounds_toArray, List.set_cons_zero, List.set_cons_succ]
  refine heldTake 11 (some 129) (v := ?_) rfl rfl (by kernel_rfl) (by kernel_rfl) (by kernel_rfl) (by rfl) hHeld (fun _ _ _ h => h) ?_ ?_
  rotate_left
  · intro w' hSw; (try dsimp only at hSw); go_simp <;> with_reducible rfl
  simp only [Act.put, List.setIfInBounds_toArray, List.set_cons_zero, List.set_cons_succ]
  refine heldTake 12 (some 130) (v := ?_) rfl rfl (by kernel_rfl) (by kernel_rfl) (by kernel_rfl) (by rfl) hHeld (fun _ _ _ h => h) ?_ ?_
  rotate_left
  · intro w' hSw; (try dsimp only at hSw); go_simp <;> with_reducible rfl
  simp only [Act.put, List.setIfInBounds_toArray, List.set_cons_zero, List.set_cons_succ]
  refine heldTake 13 (some 131) (v := ?_) rfl rfl (by kernel_rfl) (by kernel_rfl) (by kernel_rfl) (by rfl) hHeld (fun _ _ _ h => h) ?_ ?_
  rotate_left
  · intro w' hSw; (try dsimp only at hSw); go_simp; rw [run_bytes_str (hSw.1.take hmp hmd (Nat.le_refl _))]; rfl
  simp only [Act.put, List.setIfInBounds_toArray, List.set_cons_zero, List.set_cons_succ]
  refine heldCall 8 (some 126) (f := ?_) (args := ?_) rfl rfl (by kernel_rfl) (by rfl) ?_ ?_
  rotate_left 2
  · go_simp <;> first | (constructor <;> with_reducible rfl) | with_reducible rfl
  (with_reducible refine (putPeriod_any (.slice A ka ka) (l.take ka) yf yt _ y1 y2 y3 y4 ?_ ?_).mono ?_)
  · exact (hv.below hB9.drew).take hkp (Nat.le_refl _) (by omega)
  · rw [List.length_take]; omega
  rw [HP.out]
  rintro e w10 ⟨v10, rfl, ho10, hb10⟩
  have hB10 := hB9.drew.trans (hb10.mono hB9.drew.size)
  have d0 := (hb10.cell (p := ⟨w8.heap.size, 0, none⟩) hz9).trans d0
  have d1 := (hb10.cell (p := ⟨w8.heap.size, 1, none⟩) hz9).trans d1
  refine ⟨_, rfl, keepAnd ?_ (fun hNew => ?_)⟩
  · exact ⟨(hv.below hB10).wide fun _ _ => trivial, d0, d1⟩
  clear hHeld
  have hHeld := hNew
  clear hNew
  simp only [Act.put, List.setIfInBounds_toArray, List.set_cons_zero, List.set_cons_succ]
  refine heldRun 9 (some 127) (v := .string (strB (l.take mp))) (w' := w10) rfl rfl (by kernel_rfl) (by rfl) ?_ ?_ ?_
  · go_simp; rw [run_bytes_str ho10.rd]; rfl
  · exact ⟨(hv.below hB10).wide fun _ _ => trivial, d0, d1⟩
  simp only [Act.put, List.setIfInBounds_toArray, List.set_cons_zero, List.set_cons_succ]
  refine heldTake 14 (some 132) (v := ?_) rfl rfl (by kernel_rfl) (by kernel_rfl) (by kernel_rfl) (by rfl) hHeld (fun _ _ _ h => h) ?_ ?_
  rotate_left
  · intro w' hSw; (try dsimp only at hSw); go_simp <;> with_reducible rfl
  simp only [Act.put, List.setIfInBounds_toArray, List.set_cons_zero, List.set_cons_succ]
  refine heldTake 15 (some 133) (v := ?_) rfl rfl (by kernel_rfl) (by kernel_rfl) (by kernel_rfl) (by rfl) hHeld (fun _ _ _ h => h) ?_ ?_
  rotate_left
  · intro w' hSw; (try dsimp only at hSw); go_simp <;> with_reducible rfl
  simp only [Act.put, List.setIfInBounds_toArray, List.set_cons_zero, List.set_cons_succ]
  refine wpAnyH_done (by kernel_rfl) ?_ _
  refine NoPanic.normal ?_
  go_wp2_with fail
  (with_reducible refine (works_any _).mono ?_)
  rintro e w11 ⟨rfl, hb11⟩
  go_wp2_with fail
  go_ret
  exact ⟨rfl, hB10.trans (hb11.mono hB10.size)⟩

end Go.Proofs.Ythfclmkeadpcbaa
