/-
  The bytes of a version.
-/
import Derived.Test.YtkhmjlahlcighaaVerC
namespace Go.Proofs.Ytkhmjlahlcighaa
open Go.RowKit Go.Lib Go.IntWalk Go.Sort Go.Shelf

theorem encI_two {n : Nat} (h : n ≤ 200) : (encI (n : Int)).length ≤ 2 := by
  have hz : zz (n : Int) = 2 * n := by unfold zz; rw [if_neg (by omega)]; omega
  unfold encI
  rw [hz]
  by_cases h1 : 2 * n < 128
  · rw [vl_small _ h1]; simp
  · rw [vl_big _ (by omega), vl_small _ (by omega)]; simp
theorem valid_parts {x : Val} (h : validV x = true) : (x.kind = 3 → x.int = 0 ∨ x.int = 1) ∧ x.text.size ≤ 200 ∧ (encV x).length ≤ 203 := by
  obtain ⟨kd, i, s⟩ := x
  have e : s.data.toList = [] → s.size = 0 := fun h => by rw [← str_len, h]; rfl
  have e1 : (encI i).length ≤ 10 := encI_length i
  unfold validV at h
  unfold encV
  simp only at h ⊢
  split at h
  · rename_i h0; subst h0; simp at h; have := e (by simpa using h.2); simp; omega
  · split at h
    · rename_i h0; subst h0; simp at h; have := e (by simpa using h.2); simp; omega
    · split at h
      · rename_i h0
        subst h0
        simp at h
        have hs : s.size ≤ 200 := h.1.2
        have e2 : (encI s.size).length ≤ 2 := encI_two hs
        have e3 : s.data.size = s.size := rfl
        simp
        omega
      · split at h
        · rename_i h0; subst h0; simp at h; have := e (by simpa using h.2); simp; omega
        · cases h
theorem valid_all {xs : List Val} (h : (xs.all validV && decide (xs.length ≤ 12)) = true) (hok : ∀ x ∈ xs, goV x) : (∀ x ∈ xs, putV x) ∧ (encR xs).length ≤ 2446 := by
  rw [Bool.and_eq_true, List.all_eq_true, decide_eq_true_eq] at h
  refine ⟨fun x hx => ?_, ?_⟩
  · have hv := valid_parts (h.1 x hx)
    obtain ⟨a, b, _⟩ := hok x hx
    exact ⟨a, b, hv.2.1, hv.1⟩
  · have hle : (encVs xs).length ≤ 203 * xs.length := by
      have : ∀ ys : List Val, (∀ y ∈ ys, validV y = true) → (encVs ys).length ≤ 203 * ys.length := by
        intro ys
        induction ys with
        | nil => intro _; simp [encVs]
        | cons y ys ih =>
          intro hy
          have h1 := (valid_parts (hy y (List.mem_cons_self ..))).2.2
          have h2 := ih fun z hz => hy z (List.mem_cons_of_mem _ hz)
          unfold encVs at h2 ⊢
          rw [List.flatMap_cons, List.length_append, List.length_cons]
          omega
      exact this xs h.1
    have := encI_length xs.length
    unfold encR
    rw [List.length_append]
    omega

def encVer (x : Ver) : List UInt8 := encI x.id ++ encI x.sch ++ encR x.row ++ (encI x.vf ++ encI x.vt) ++ (encI x.sf ++ encI x.st) ++ encI x.by_ ++ encI x.un
theorem encVer_le {x : Ver} (h : validVer x = true) (hok : ∀ v ∈ x.row, goV v) : (encVer x).length ≤ 2600 ∧ (∀ v ∈ x.row, putV v) ∧ (encR x.row).length ≤ 2446 := by
  have hr : validRowF x.row = true := by
    unfold validVer at h
    simp only [Bool.and_eq_true] at h
    exact h.2.2.2.1
  obtain ⟨a, b⟩ := valid_all hr hok
  refine ⟨?_, a, b⟩
  unfold encVer
  simp only [List.length_append]
  have := encI_length x.id; have := encI_length x.sch; have := encI_length x.vf; have := encI_length x.vt; have := encI_length x.sf; have := encI_length x.st; have := encI_length x.by_; have := encI_length x.un
  omega
set_option maxRecDepth 1000000 in
set_option maxHeartbeats 8000000 in
theorem version_any (base B : Nat) (l : List UInt8) (r : RV) (x : Ver) (w : World) (hbB : base ≤ B) (h : BufAt w base B l) (hx : VerIs w (· < base) r x) (hval : validVer x = true) (hl : l.length + 12000 ≤ 140737488300000) :
    Calls Try.prog 31 #[.pointer (some ⟨B, 0, none⟩), .agg r.enc.toArray] w (BufOut base B (l ++ encVer x) w) := by
  have hBl := h.lt
  obtain ⟨hle, hput, hrl⟩ := encVer_le hval hx.ok
  have hbd : (1 ≤ x.id ∧ x.id ≤ 1125899906842624) ∧ (1 ≤ x.by_ ∧ x.by_ ≤ 1125899906842624) ∧ (0 ≤ x.sch ∧ x.sch ≤ 64) ∧ (0 ≤ x.vf ∧ x.vf < x.vt ∧ x.vt ≤ 1099511627776) ∧ (0 ≤ x.sf ∧ x.sf < x.st ∧ x.st ≤ 1099511627776) ∧ (0 ≤ x.un ∧ x.un ≤ 1125899906842624) := by
    have q := hval
    unfold validVer in50 in64 num50 validP at q
    simp only [Bool.and_eq_true, decide_eq_true_eq] at q
    obtain ⟨q1, q2, q3, _, ⟨⟨q4, q5⟩, q6⟩, ⟨⟨q7, q8⟩, q9⟩, q10⟩ := q
    exact ⟨q1, q2, q3, ⟨q4, q5, q6⟩, ⟨q7, q8, q9⟩, q10⟩
  obtain ⟨x1, x2, xA, xn, xc, x3, x4, x5, x6, x7, x8⟩ := r
  obtain ⟨z1, z2, xs, z3, z4, z5, z6, z7, z8⟩ := x
  obtain ⟨h1, h2, h3, h4, h5, h6, h7, h8, hv, hok⟩ := hx
  simp only at h1 h2 h3 h4 h5 h6 h7 h8 hv hok hbd hput hrl
  subst h1; subst h2; subst h3; subst h4; subst h5; subst h6; subst h7; subst h8
  have HV := Lib.hid hv
  have HP := Lib.hid hput
  have HBD := Lib.hid hbd
  have hw0 : base ≤ w.heap.size := by omega
  have e1 := encI_length x1; have e2 := encI_length x2; have e3 := encI_length x3; have e4 := encI_length x4; have e5 := encI_length x5; have e6 := encI_length x6; have e7 := encI_length x7; have e8 := encI_length x8
  have HE := Lib.hid (And.intro e1 (And.intro e2 (And.intro e3 (And.intro e4 (And.intro e5 (And.intro e6 (And.intro e7 e8)))))))
  have HRL := Lib.hid hrl
  have HL := Lib.hid hl
  clear hv hput hbd hval hle e1 e2 e3 e4 e5 e6 e7 e8 hrl hl hok
  show Calls Try.prog 31 #[.pointer (some ⟨B, 0, none⟩), .agg #[.int .i64 x1, .int .i64 x2, .slice xA xn xc, .int .i64 x3, .int .i64 x4, .int .i64 x5, .int .i64 x6, .int .i64 x7, .int .i64 x8]] w _
  obtain ⟨W, hW⟩ : ∃ W, W = w.alloc (.cells #[.int .i64 x1, .int .i64 x2, .slice xA xn xc, .int .i64 x3, .int .i64 x4, .int .i64 x5, .int .i64 x6, .int .i64 x7, .int .i64 x8] 38) := ⟨_, rfl⟩
  have hWs : W.heap.size = w.heap.size + 1 := by subst hW; simp
  have hbW : Below w.heap.size w W := by subst hW; exact Below.of_alloc _
  have hWh : W.heap[w.heap.size]? = some (.cells #[.int .i64 x1, .int .i64 x2, .slice xA xn xc, .int .i64 x3, .int .i64 x4, .int .i64 x5, .int .i64 x6, .int .i64 x7, .int .i64 x8] 38 (0, 0)) := by subst hW; exact heap_alloc_new w _
  have HW := Lib.hid hW
  clear hW
  go_enter Try.func31, Try.ntmps31
  go_wp2_with fail
  rw [← HW.out]
  have hA0 : BufAt W base B l := h.below hbW
  have hB0 : Below base w W := hbW.mono hw0
  have hK0 : KeepO B w W := KeepO.of_below hbW
  clear h hbW
  refine wp_region_noPanic ?_
  refine wp_region_held_drew (S := (fun w' => ∀ j u, [.int .i64 x1, .int .i64 x2, .slice xA xn xc, .int .i64 x3, .int .i64 x4, .int .i64 x5, .int .i64 x6, .int .i64 x7, .int .i64 x8][j]? = some u → w'.cell? ⟨w.heap.size, j, none⟩ = some u)) (by kernel_rfl) ?_ (fun hHeld => ?_)
  · exact fun j u hj => (cell_of_row _ w.heap.size j _ _ _ hWh).trans (by simpa using hj)
  refine heldTake 0 (some 4) (v := ?_) rfl rfl (by kernel_rfl) (by kernel_rfl) (by kernel_rfl) (by rfl) hHeld (fun _ _ _ h => h) ?_ ?_
  rotate_left
  · intro w' hSw; (try dsimp only at hSw); go_simp <;> with_reducible rfl
  simp only [Act.put, List.setIfInBounds_toArray, List.set_cons_zero, List.set_cons_succ]
  refine heldTake 1 (some 5) (v := ?_) rfl rfl (by kernel_rfl) (by kernel_rfl) (by kernel_rfl) (by rfl) hHeld (fun _ _ _ h => h) ?_ ?_
  rotate_left
  · intro w' hSw; (try dsimp only at hSw); go_simp <;> with_reducible rfl
  simp only [Act.put, List.setIfInBounds_toArray, List.set_cons_zero, List.set_cons_succ]
  refine heldTake 2 (some 6) (v := ?_) rfl rfl (by kernel_rfl) (by kernel_rfl) (by kernel_rfl) (by rfl) hHeld (fun _ _ _ h => h) ?_ ?_
  rotate_left
  · intro w' hSw; (try dsimp only at hSw); go_simp <;> with_reducible rfl
  simp only [Act.put, List.setIfInBounds_toArray, List.set_cons_zero, List.set_cons_succ]
  refine heldTake 3 (some 7) (v := ?_) rfl rfl (by kernel_rfl) (by kernel_rfl) (by kernel_rfl) (by rfl) hHeld (fun _ _ _ h => h) ?_ ?_
  rotate_left
  · intro w' hSw; (try dsimp only at hSw); go_simp <;> with_reducible rfl
  simp only [Act.put, List.setIfInBounds_toArray, List.set_cons_zero, List.set_cons_succ]
  refine heldTake 4 (some 8) (v := ?_) rfl rfl (by kernel_rfl) (by kernel_rfl) (by kernel_rfl) (by rfl) hHeld (fun _ _ _ h => h) ?_ ?_
  rotate_left
  · intro w' hSw; (try dsimp only at hSw); have q := hSw 0 _ rfl; go_simp <;> with_reducible rfl
  simp only [Act.put, List.setIfInBounds_toArray, List.set_cons_zero, List.set_cons_succ]
  refine heldCall 5 (some 9) (f := ?_) (args := ?_) rfl rfl (by kernel_rfl) (by rfl) ?_ ?_
  rotate_left 2
  · go_simp <;> first | (constructor <;> with_reducible rfl) | with_reducible rfl
  (with_reducible refine (bufInt_any base B (l) x1 _ hbB hA0.drew (by have := HBD.out; omega) (by have := HBD.out; omega) (by have := HL.out; have := HE.out; have := HRL.out; (try simp only [List.length_append]); omega)).mono ?_)
  rintro _ w1 ⟨rfl, hA1, hb', hk'⟩
  have hB1 : Below base w w1 := hB0.trans (Below.undrew hb')
  have hK1 : KeepO B w w1 := hK0.trans hk'
  have hWh' := (hk'.2 w.heap.size (by have : W.drew.heap.size = W.heap.size := rfl; have := hWs; first | omega | (have := hsz0; omega)) (by omega) (by intro cur; rw [show W.drew.heap[w.heap.size]? = _ from hWh]; simp)).trans (show W.drew.heap[w.heap.size]? = _ from hWh)
  have hsz1 : w.heap.size + 1 ≤ w1.heap.size := by have := hk'.1; have : W.drew.heap.size = W.heap.size := rfl; first | omega | (have := hsz0; omega)
  clear hWh hb' hk'
  have hWh := hWh'
  clear hWh'
  refine ⟨_, rfl, keepAnd ?_ (fun hNew => ?_)⟩
  · exact fun j u hj => (cell_of_row _ w.heap.size j _ _ _ hWh).trans (by simpa using hj)
  clear hHeld
  have hHeld := hNew
  clear hNew
  simp only [Act.put, List.setIfInBounds_toArray, List.set_cons_zero, List.set_cons_succ]
  refine wpAnyH_done (by kernel_rfl) ?_ _
  refine NoPanic.normal ?_
  clear hHeld
  clear hA0 hB0 hK0
  go_wp2_with fail
  refine wp_region_noPanic ?_
  refine wp_region_held_drew (S := (fun w' => ∀ j u, [.int .i64 x1, .int .i64 x2, .slice xA xn xc, .int .i64 x3, .int .i64 x4, .int .i64 x5, .int .i64 x6, .int .i64 x7, .int .i64 x8][j]? = some u → w'.cell? ⟨w.heap.size, j, none⟩ = some u)) (by kernel_rfl) ?_ (fun hHeld => ?_)
  · exact fun j u hj => (cell_of_row _ w.heap.size j _ _ _ hWh).trans (by simpa using hj)
  refine heldTake 0 (some 10) (v := ?_) rfl rfl (by kernel_rfl) (by kernel_rfl) (by kernel_rfl) (by rfl) hHeld (fun _ _ _ h => h) ?_ ?_
  rotate_left
  · intro w' hSw; (try dsimp only at hSw); go_simp <;> with_reducible rfl
  simp only [Act.put, List.setIfInBounds_toArray, List.set_cons_zero, List.set_cons_succ]
  refine heldTake 1 (some 11) (v := ?_) rfl rfl (by kernel_rfl) (by kernel_rfl) (by kernel_rfl) (by rfl) hHeld (fun _ _ _ h => h) ?_ ?_
  rotate_left
  · intro w' hSw; (try dsimp only at hSw); go_simp <;> with_reducible rfl
  simp only [Act.put, List.setIfInBounds_toArray, List.set_cons_zero, List.set_cons_succ]
  refine heldTake 2 (some 12) (v := ?_) rfl rfl (by kernel_rfl) (by kernel_rfl) (by kernel_rfl) (by rfl) hHeld (fun _ _ _ h => h) ?_ ?_
  rotate_left
  · intro w' hSw; (try dsimp only at hSw); go_simp <;> with_reducible rfl
  simp only [Act.put, List.setIfInBounds_toArray, List.set_cons_zero, List.set_cons_succ]
  refine heldTake 3 (some 13) (v := ?_) rfl rfl (by kernel_rfl) (by kernel_rfl) (by kernel_rfl) (by rfl) hHeld (fun _ _ _ h => h) ?_ ?_
  rotate_left
  · intro w' hSw; (try dsimp only at hSw); go_simp <;> with_reducible rfl
  simp only [Act.put, List.setIfInBounds_toArray, List.set_cons_zero, List.set_cons_succ]
  refine heldTake 4 (some 14) (v := ?_) rfl rfl (by kernel_rfl) (by kernel_rfl) (by kernel_rfl) (by rfl) hHeld (fun _ _ _ h => h) ?_ ?_
  rotate_left
  · intro w' hSw; (try dsimp only at hSw); have q := hSw 1 _ rfl; go_simp <;> with_reducible rfl
  simp only [Act.put, List.setIfInBounds_toArray, List.set_cons_zero, List.set_cons_succ]
  refine heldCall 5 (some 15) (f := ?_) (args := ?_) rfl rfl (by kernel_rfl) (by rfl) ?_ ?_
  rotate_left 2
  · go_simp <;> first | (constructor <;> with_reducible rfl) | with_reducible rfl
  (with_reducible refine (bufInt_any base B (l ++ encI x1) x2 _ hbB hA1.drew (by have := HBD.out; omega) (by have := HBD.out; omega) (by have := HL.out; have := HE.out; have := HRL.out; (try simp only [List.length_append]); omega)).mono ?_)
  rintro _ w2 ⟨rfl, hA2, hb', hk'⟩
  have hB2 : Below base w w2 := hB1.trans (Below.undrew hb')
  have hK2 : KeepO B w w2 := hK1.trans hk'
  have hWh' := (hk'.2 w.heap.size (by have : w1.drew.heap.size = w1.heap.size := rfl; have := hWs; first | omega | (have := hsz1; omega)) (by omega) (by intro cur; rw [show w1.drew.heap[w.heap.size]? = _ from hWh]; simp)).trans (show w1.drew.heap[w.heap.size]? = _ from hWh)
  have hsz2 : w.heap.size + 1 ≤ w2.heap.size := by have := hk'.1; have : w1.drew.heap.size = w1.heap.size := rfl; first | omega | (have := hsz1; omega)
  clear hWh hb' hk'
  have hWh := hWh'
  clear hWh'
  refine ⟨_, rfl, keepAnd ?_ (fun hNew => ?_)⟩
  · exact fun j u hj => (cell_of_row _ w.heap.size j _ _ _ hWh).trans (by simpa using hj)
  clear hHeld
  have hHeld := hNew
  clear hNew
  simp only [Act.put, List.setIfInBounds_toArray, List.set_cons_zero, List.set_cons_succ]
  refine wpAnyH_done (by kernel_rfl) ?_ _
  refine NoPanic.normal ?_
  clear hHeld
  clear hA1 hB1 hK1
  go_wp2_with fail
  have HVw : Hid (RdV w2.drew (· < w2.drew.heap.size) (.slice xA xn xc) xs) := Lib.hid (Rd.wide (Rd.keep HV.out (Keeps.below hB2.drew)) (fun b hb => by show b < w2.heap.size; have hb' : b < base := hb; have := hK2.1; omega))
  refine wp_region_noPanic ?_
  refine wp_region_held_drew (S := (fun w' => ∀ j u, [.int .i64 x1, .int .i64 x2, .slice xA xn xc, .int .i64 x3, .int .i64 x4, .int .i64 x5, .int .i64 x6, .int .i64 x7, .int .i64 x8][j]? = some u → w'.cell? ⟨w.heap.size, j, none⟩ = some u)) (by kernel_rfl) ?_ (fun hHeld => ?_)
  · exact fun j u hj => (cell_of_row _ w.heap.size j _ _ _ hWh).trans (by simpa using hj)
  refine heldTake 0 (some 16) (v := ?_) rfl rfl (by kernel_rfl) (by kernel_rfl) (by kernel_rfl) (by rfl) hHeld (fun _ _ _ h => h) ?_ ?_
  rotate_left
  · intro w' hSw; (try dsimp only at hSw); go_simp <;> with_reducible rfl
  simp only [Act.put, List.setIfInBounds_toArray, List.set_cons_zero, List.set_cons_succ]
  refine heldTake 1 (some 17) (v := ?_) rfl rfl (by kernel_rfl) (by kernel_rfl) (by kernel_rfl) (by rfl) hHeld (fun _ _ _ h => h) ?_ ?_
  rotate_left
  · intro w' hSw; (try dsimp only at hSw); go_simp <;> with_reducible rfl
  simp only [Act.put, List.setIfInBounds_toArray, List.set_cons_zero, List.set_cons_succ]
  refine heldTake 2 (some 18) (v := ?_) rfl rfl (by kernel_rfl) (by kernel_rfl) (by kernel_rfl) (by rfl) hHeld (fun _ _ _ h => h) ?_ ?_
  rotate_left
  · intro w' hSw; (try dsimp only at hSw); go_simp <;> with_reducible rfl
  simp only [Act.put, List.setIfInBounds_toArray, List.set_cons_zero, List.set_cons_succ]
  refine heldTake 3 (some 19) (v := ?_) rfl rfl (by kernel_rfl) (by kernel_rfl) (by kernel_rfl) (by rfl) hHeld (fun _ _ _ h => h) ?_ ?_
  rotate_left
  · intro w' hSw; (try dsimp only at hSw); go_simp <;> with_reducible rfl
  simp only [Act.put, List.setIfInBounds_toArray, List.set_cons_zero, List.set_cons_succ]
  refine heldTake 4 (some 20) (v := ?_) rfl rfl (by kernel_rfl) (by kernel_rfl) (by kernel_rfl) (by rfl) hHeld (fun _ _ _ h => h) ?_ ?_
  rotate_left
  · intro w' hSw; (try dsimp only at hSw); have q := hSw 2 _ rfl; go_simp <;> with_reducible rfl
  simp only [Act.put, List.setIfInBounds_toArray, List.set_cons_zero, List.set_cons_succ]
  refine heldCall 5 (some 21) (f := ?_) (args := ?_) rfl rfl (by kernel_rfl) (by rfl) ?_ ?_
  rotate_left 2
  · go_simp <;> first | (constructor <;> with_reducible rfl) | with_reducible rfl
  (with_reducible refine (bufRow_any base B (l ++ encI x1 ++ encI x2) _ xs _ hbB hA2.drew (HVw.out) HP.out (by have := HRL.out; omega) (by have := HL.out; have := HE.out; have := HRL.out; (try simp only [List.length_append]); omega)).mono ?_)
  rintro _ w3 ⟨rfl, hA3, hb', hk'⟩
  have hB3 : Below base w w3 := hB2.trans (Below.undrew hb')
  have hK3 : KeepO B w w3 := hK2.trans hk'
  have hWh' := (hk'.2 w.heap.size (by have : w2.drew.heap.size = w2.heap.size := rfl; have := hWs; first | omega | (have := hsz2; omega)) (by omega) (by intro cur; rw [show w2.drew.heap[w.heap.size]? = _ from hWh]; simp)).trans (show w2.drew.heap[w.heap.size]? = _ from hWh)
  have hsz3 : w.heap.size + 1 ≤ w3.heap.size := by have := hk'.1; have : w2.drew.heap.size = w2.heap.size := rfl; first | omega | (have := hsz2; omega)
  clear hWh hb' hk'
  have hWh := hWh'
  clear hWh'
  refine ⟨_, rfl, keepAnd ?_ (fun hNew => ?_)⟩
  · exact fun j u hj => (cell_of_row _ w.heap.size j _ _ _ hWh).trans (by simpa using hj)
  clear hHeld
  have hHeld := hNew
  clear hNew
  simp only [Act.put, List.setIfInBounds_toArray, List.set_cons_zero, List.set_cons_succ]
  refine wpAnyH_done (by kernel_rfl) ?_ _
  refine NoPanic.normal ?_
  clear hHeld
  clear hA2 hB2 hK2 HVw
  go_wp2_with fail
  refine wp_region_noPanic ?_
  refine wp_region_held_drew (S := (fun w' => ∀ j u, [.int .i64 x1, .int .i64 x2, .slice xA xn xc, .int .i64 x3, .int .i64 x4, .int .i64 x5, .int .i64 x6, .int .i64 x7, .int .i64 x8][j]? = some u → w'.cell? ⟨w.heap.size, j, none⟩ = some u)) (by kernel_rfl) ?_ (fun hHeld => ?_)
  · exact fun j u hj => (cell_of_row _ w.heap.size j _ _ _ hWh).trans (by simpa using hj)
  refine heldTake 0 (some 22) (v := ?_) rfl rfl (by kernel_rfl) (by kernel_rfl) (by kernel_rfl) (by rfl) hHeld (fun _ _ _ h => h) ?_ ?_
  rotate_left
  · intro w' hSw; (try dsimp only at hSw); go_simp <;> with_reducible rfl
  simp only [Act.put, List.setIfInBounds_toArray, List.set_cons_zero, List.set_cons_succ]
  refine heldTake 1 (some 23) (v := ?_) rfl rfl (by kernel_rfl) (by kernel_rfl) (by kernel_rfl) (by rfl) hHeld (fun _ _ _ h => h) ?_ ?_
  rotate_left
  · intro w' hSw; (try dsimp only at hSw); go_simp <;> with_reducible rfl
  simp only [Act.put, List.setIfInBounds_toArray, List.set_cons_zero, List.set_cons_succ]
  refine heldTake 2 (some 24) (v := ?_) rfl rfl (by kernel_rfl) (by kernel_rfl) (by kernel_rfl) (by rfl) hHeld (fun _ _ _ h => h) ?_ ?_
  rotate_left
  · intro w' hSw; (try dsimp only at hSw); go_simp <;> with_reducible rfl
  simp only [Act.put, List.setIfInBounds_toArray, List.set_cons_zero, List.set_cons_succ]
  refine heldTake 3 (some 25) (v := ?_) rfl rfl (by kernel_rfl) (by kernel_rfl) (by kernel_rfl) (by rfl) hHeld (fun _ _ _ h => h) ?_ ?_
  rotate_left
  · intro w' hSw; (try dsimp only at hSw); go_simp <;> with_reducible rfl
  simp only [Act.put, List.setIfInBounds_toArray, List.set_cons_zero, List.set_cons_succ]
  refine heldTake 4 (some 26) (v := ?_) rfl rfl (by kernel_rfl) (by kernel_rfl) (by kernel_rfl) (by rfl) hHeld (fun _ _ _ h => h) ?_ ?_
  rotate_left
  · intro w' hSw; (try dsimp only at hSw); have q := hSw 3 _ rfl; have q' := hSw 4 _ rfl; go_simp <;> with_reducible rfl
  simp only [Act.put, List.setIfInBounds_toArray, List.set_cons_zero, List.set_cons_succ]
  refine heldCall 5 (some 27) (f := ?_) (args := ?_) rfl rfl (by kernel_rfl) (by rfl) ?_ ?_
  rotate_left 2
  · go_simp <;> first | (constructor <;> with_reducible rfl) | with_reducible rfl
  (with_reducible refine (bufPeriod_any base B (l ++ encI x1 ++ encI x2 ++ encR xs) x3 x4 _ hbB hA3.drew (by have := HBD.out; omega) (by have := HBD.out; omega) (by have := HBD.out; omega) (by have := HBD.out; omega) (by have := HL.out; have := HE.out; have := HRL.out; (try simp only [List.length_append]); omega)).mono ?_)
  rintro _ w4 ⟨rfl, hA4, hb', hk'⟩
  have hB4 : Below base w w4 := hB3.trans (Below.undrew hb')
  have hK4 : KeepO B w w4 := hK3.trans hk'
  have hWh' := (hk'.2 w.heap.size (by have : w3.drew.heap.size = w3.heap.size := rfl; have := hWs; first | omega | (have := hsz3; omega)) (by omega) (by intro cur; rw [show w3.drew.heap[w.heap.size]? = _ from hWh]; simp)).trans (show w3.drew.heap[w.heap.size]? = _ from hWh)
  have hsz4 : w.heap.size + 1 ≤ w4.heap.size := by have := hk'.1; have : w3.drew.heap.size = w3.heap.size := rfl; first | omega | (have := hsz3; omega)
  clear hWh hb' hk'
  have hWh := hWh'
  clear hWh'
  refine ⟨_, rfl, keepAnd ?_ (fun hNew => ?_)⟩
  · exact fun j u hj => (cell_of_row _ w.heap.size j _ _ _ hWh).trans (by simpa using hj)
  clear hHeld
  have hHeld := hNew
  clear hNew
  simp only [Act.put, List.setIfInBounds_toArray, List.set_cons_zero, List.set_cons_succ]
  refine wpAnyH_done (by kernel_rfl) ?_ _
  refine NoPanic.normal ?_
  clear hHeld
  clear hA3 hB3 hK3
  go_wp2_with fail
  refine wp_region_noPanic ?_
  refine wp_region_held_drew (S := (fun w' => ∀ j u, [.int .i64 x1, .int .i64 x2, .slice xA xn xc, .int .i64 x3, .int .i64 x4, .int .i64 x5, .int .i64 x6, .int .i64 x7, .int .i64 x8][j]? = some u → w'.cell? ⟨w.heap.size, j, none⟩ = some u)) (by kernel_rfl) ?_ (fun hHeld => ?_)
  · exact fun j u hj => (cell_of_row _ w.heap.size j _ _ _ hWh).trans (by simpa using hj)
  refine heldTake 0 (some 28) (v := ?_) rfl rfl (by kernel_rfl) (by kernel_rfl) (by kernel_rfl) (by rfl) hHeld (fun _ _ _ h => h) ?_ ?_
  rotate_left
  · intro w' hSw; (try dsimp only at hSw); go_simp <;> with_reducible rfl
  simp only [Act.put, List.setIfInBounds_toArray, List.set_cons_zero, List.set_cons_succ]
  refine heldTake 1 (some 29) (v := ?_) rfl rfl (by kernel_rfl) (by kernel_rfl) (by kernel_rfl) (by rfl) hHeld (fun _ _ _ h => h) ?_ ?_
  rotate_left
  · intro w' hSw; (try dsimp only at hSw); go_simp <;> with_reducible rfl
  simp only [Act.put, List.setIfInBounds_toArray, List.set_cons_zero, List.set_cons_succ]
  refine heldTake 2 (some 30) (v := ?_) rfl rfl (by kernel_rfl) (by kernel_rfl) (by kernel_rfl) (by rfl) hHeld (fun _ _ _ h => h) ?_ ?_
  rotate_left
  · intro w' hSw; (try dsimp only at hSw); go_simp <;> with_reducible rfl
  simp only [Act.put, List.setIfInBounds_toArray, List.set_cons_zero, List.set_cons_succ]
  refine heldTake 3 (some 31) (v := ?_) rfl rfl (by kernel_rfl) (by kernel_rfl) (by kernel_rfl) (by rfl) hHeld (fun _ _ _ h => h) ?_ ?_
  rotate_left
  · intro w' hSw; (try dsimp only at hSw); go_simp <;> with_reducible rfl
  simp only [Act.put, List.setIfInBounds_toArray, List.set_cons_zero, List.set_cons_succ]
  refine heldTake 4 (some 32) (v := ?_) rfl rfl (by kernel_rfl) (by kernel_rfl) (by kernel_rfl) (by rfl) hHeld (fun _ _ _ h => h) ?_ ?_
  rotate_left
  · intro w' hSw; (try dsimp only at hSw); have q := hSw 5 _ rfl; have q' := hSw 6 _ rfl; go_simp <;> with_reducible rfl
  simp only [Act.put, List.setIfInBounds_toArray, List.set_cons_zero, List.set_cons_succ]
  refine heldCall 5 (some 33) (f := ?_) (args := ?_) rfl rfl (by kernel_rfl) (by rfl) ?_ ?_
  rotate_left 2
  · go_simp <;> first | (constructor <;> with_reducible rfl) | with_reducible rfl
  (with_reducible refine (bufPeriod_any base B (l ++ encI x1 ++ encI x2 ++ encR xs ++ (encI x3 ++ encI x4)) x5 x6 _ hbB hA4.drew (by have := HBD.out; omega) (by have := HBD.out; omega) (by have := HBD.out; omega) (by have := HBD.out; omega) (by have := HL.out; have := HE.out; have := HRL.out; (try simp only [List.length_append]); omega)).mono ?_)
  rintro _ w5 ⟨rfl, hA5, hb', hk'⟩
  have hB5 : Below base w w5 := hB4.trans (Below.undrew hb')
  have hK5 : KeepO B w w5 := hK4.trans hk'
  have hWh' := (hk'.2 w.heap.size (by have : w4.drew.heap.size = w4.heap.size := rfl; have := hWs; first | omega | (have := hsz4; omega)) (by omega) (by intro cur; rw [show w4.drew.heap[w.heap.size]? = _ from hWh]; simp)).trans (show w4.drew.heap[w.heap.size]? = _ from hWh)
  have hsz5 : w.heap.size + 1 ≤ w5.heap.size := by have := hk'.1; have : w4.drew.heap.size = w4.heap.size := rfl; first | omega | (have := hsz4; omega)
  clear hWh hb' hk'
  have hWh := hWh'
  clear hWh'
  refine ⟨_, rfl, keepAnd ?_ (fun hNew => ?_)⟩
  · exact fun j u hj => (cell_of_row _ w.heap.size j _ _ _ hWh).trans (by simpa using hj)
  clear hHeld
  have hHeld := hNew
  clear hNew
  simp only [Act.put, List.setIfInBounds_toArray, List.set_cons_zero, List.set_cons_succ]
  refine wpAnyH_done (by kernel_rfl) ?_ _
  refine NoPanic.normal ?_
  clear hHeld
  clear hA4 hB4 hK4
  go_wp2_with fail
  refine wp_region_noPanic ?_
  refine wp_region_held_drew (S := (fun w' => ∀ j u, [.int .i64 x1, .int .i64 x2, .slice xA xn xc, .int .i64 x3, .int .i64 x4, .int .i64 x5, .int .i64 x6, .int .i64 x7, .int .i64 x8][j]? = some u → w'.cell? ⟨w.heap.size, j, none⟩ = some u)) (by kernel_rfl) ?_ (fun hHeld => ?_)
  · exact fun j u hj => (cell_of_row _ w.heap.size j _ _ _ hWh).trans (by simpa using hj)
  refine heldTake 0 (some 34) (v := ?_) rfl rfl (by kernel_rfl) (by kernel_rfl) (by kernel_rfl) (by rfl) hHeld (fun _ _ _ h => h) ?_ ?_
  rotate_left
  · intro w' hSw; (try dsimp only at hSw); go_simp <;> with_reducible rfl
  simp only [Act.put, List.setIfInBounds_toArray, List.set_cons_zero, List.set_cons_succ]
  refine heldTake 1 (some 35) (v := ?_) rfl rfl (by kernel_rfl) (by kernel_rfl) (by kernel_rfl) (by rfl) hHeld (fun _ _ _ h => h) ?_ ?_
  rotate_left
  · intro w' hSw; (try dsimp only at hSw); go_simp <;> with_reducible rfl
  simp only [Act.put, List.setIfInBounds_toArray, List.set_cons_zero, List.set_cons_succ]
  refine heldTake 2 (some 36) (v := ?_) rfl rfl (by kernel_rfl) (by kernel_rfl) (by kernel_rfl) (by rfl) hHeld (fun _ _ _ h => h) ?_ ?_
  rotate_left
  · intro w' hSw; (try dsimp only at hSw); go_simp <;> with_reducible rfl
  simp only [Act.put, List.setIfInBounds_toArray, List.set_cons_zero, List.set_cons_succ]
  refine heldTake 3 (some 37) (v := ?_) rfl rfl (by kernel_rfl) (by kernel_rfl) (by kernel_rfl) (by rfl) hHeld (fun _ _ _ h => h) ?_ ?_
  rotate_left
  · intro w' hSw; (try dsimp only at hSw); go_simp <;> with_reducible rfl
  simp only [Act.put, List.setIfInBounds_toArray, List.set_cons_zero, List.set_cons_succ]
  refine heldTake 4 (some 38) (v := ?_) rfl rfl (by kernel_rfl) (by kernel_rfl) (by kernel_rfl) (by rfl) hHeld (fun _ _ _ h => h) ?_ ?_
  rotate_left
  · intro w' hSw; (try dsimp only at hSw); have q := hSw 7 _ rfl; go_simp <;> with_reducible rfl
  simp only [Act.put, List.setIfInBounds_toArray, List.set_cons_zero, List.set_cons_succ]
  refine heldCall 5 (some 39) (f := ?_) (args := ?_) rfl rfl (by kernel_rfl) (by rfl) ?_ ?_
  rotate_left 2
  · go_simp <;> first | (constructor <;> with_reducible rfl) | with_reducible rfl
  (with_reducible refine (bufInt_any base B (l ++ encI x1 ++ encI x2 ++ encR xs ++ (encI x3 ++ encI x4) ++ (encI x5 ++ encI x6)) x7 _ hbB hA5.drew (by have := HBD.out; omega) (by have := HBD.out; omega) (by have := HL.out; have := HE.out; have := HRL.out; (try simp only [List.length_append]); omega)).mono ?_)
  rintro _ w6 ⟨rfl, hA6, hb', hk'⟩
  have hB6 : Below base w w6 := hB5.trans (Below.undrew hb')
  have hK6 : KeepO B w w6 := hK5.trans hk'
  have hWh' := (hk'.2 w.heap.size (by have : w5.drew.heap.size = w5.heap.size := rfl; have := hWs; first | omega | (have := hsz5; omega)) (by omega) (by intro cur; rw [show w5.drew.heap[w.heap.size]? = _ from hWh]; simp)).trans (show w5.drew.heap[w.heap.size]? = _ from hWh)
  have hsz6 : w.heap.size + 1 ≤ w6.heap.size := by have := hk'.1; have : w5.drew.heap.size = w5.heap.size := rfl; first | omega | (have := hsz5; omega)
  clear hWh hb' hk'
  have hWh := hWh'
  clear hWh'
  refine ⟨_, rfl, keepAnd ?_ (fun hNew => ?_)⟩
  · exact fun j u hj => (cell_of_row _ w.heap.size j _ _ _ hWh).trans (by simpa using hj)
  clear hHeld
  have hHeld := hNew
  clear hNew
  simp only [Act.put, List.setIfInBounds_toArray, List.set_cons_zero, List.set_cons_succ]
  refine wpAnyH_done (by kernel_rfl) ?_ _
  refine NoPanic.normal ?_
  clear hHeld
  clear hA5 hB5 hK5
  go_wp2_with fail
  refine wp_region_noPanic ?_
  refine wp_region_held_drew (S := (fun w' => ∀ j u, [.int .i64 x1, .int .i64 x2, .slice xA xn xc, .int .i64 x3, .int .i64 x4, .int .i64 x5, .int .i64 x6, .int .i64 x7, .int .i64 x8][j]? = some u → w'.cell? ⟨w.heap.size, j, none⟩ = some u)) (by kernel_rfl) ?_ (fun hHeld => ?_)
  · exact fun j u hj => (cell_of_row _ w.heap.size j _ _ _ hWh).trans (by simpa using hj)
  refine heldTake 0 (some 40) (v := ?_) rfl rfl (by kernel_rfl) (by kernel_rfl) (by kernel_rfl) (by rfl) hHeld (fun _ _ _ h => h) ?_ ?_
  rotate_left
  · intro w' hSw; (try dsimp only at hSw); go_simp <;> with_reducible rfl
  simp only [Act.put, List.setIfInBounds_toArray, List.set_cons_zero, List.set_cons_succ]
  refine heldTake 1 (some 41) (v := ?_) rfl rfl (by kernel_rfl) (by kernel_rfl) (by kernel_rfl) (by rfl) hHeld (fun _ _ _ h => h) ?_ ?_
  rotate_left
  · intro w' hSw; (try dsimp only at hSw); go_simp <;> with_reducible rfl
  simp only [Act.put, List.setIfInBounds_toArray, List.set_cons_zero, List.set_cons_succ]
  refine heldTake 2 (some 42) (v := ?_) rfl rfl (by kernel_rfl) (by kernel_rfl) (by kernel_rfl) (by rfl) hHeld (fun _ _ _ h => h) ?_ ?_
  rotate_left
  · intro w' hSw; (try dsimp only at hSw); go_simp <;> with_reducible rfl
  simp only [Act.put, List.setIfInBounds_toArray, List.set_cons_zero, List.set_cons_succ]
  refine heldTake 3 (some 43) (v := ?_) rfl rfl (by kernel_rfl) (by kernel_rfl) (by kernel_rfl) (by rfl) hHeld (fun _ _ _ h => h) ?_ ?_
  rotate_left
  · intro w' hSw; (try dsimp only at hSw); go_simp <;> with_reducible rfl
  simp only [Act.put, List.setIfInBounds_toArray, List.set_cons_zero, List.set_cons_succ]
  refine heldTake 4 (some 44) (v := ?_) rfl rfl (by kernel_rfl) (by kernel_rfl) (by kernel_rfl) (by rfl) hHeld (fun _ _ _ h => h) ?_ ?_
  rotate_left
  · intro w' hSw; (try dsimp only at hSw); have q := hSw 8 _ rfl; go_simp <;> with_reducible rfl
  simp only [Act.put, List.setIfInBounds_toArray, List.set_cons_zero, List.set_cons_succ]
  refine heldCall 5 (some 45) (f := ?_) (args := ?_) rfl rfl (by kernel_rfl) (by rfl) ?_ ?_
  rotate_left 2
  · go_simp <;> first | (constructor <;> with_reducible rfl) | with_reducible rfl
  (with_reducible refine (bufInt_any base B (l ++ encI x1 ++ encI x2 ++ encR xs ++ (encI x3 ++ encI x4) ++ (encI x5 ++ encI x6) ++ encI x7) x8 _ hbB hA6.drew (by have := HBD.out; omega) (by have := HBD.out; omega) (by have := HL.out; have := HE.out; have := HRL.out; (try simp only [List.length_append]); omega)).mono ?_)
  rintro _ w7 ⟨rfl, hA7, hb', hk'⟩
  have hB7 : Below base w w7 := hB6.trans (Below.undrew hb')
  have hK7 : KeepO B w w7 := hK6.trans hk'
  have hWh' := (hk'.2 w.heap.size (by have : w6.drew.heap.size = w6.heap.size := rfl; have := hWs; first | omega | (have := hsz6; omega)) (by omega) (by intro cur; rw [show w6.drew.heap[w.heap.size]? = _ from hWh]; simp)).trans (show w6.drew.heap[w.heap.size]? = _ from hWh)
  have hsz7 : w.heap.size + 1 ≤ w7.heap.size := by have := hk'.1; have : w6.drew.heap.size = w6.heap.size := rfl; first | omega | (have := hsz6; omega)
  clear hWh hb' hk'
  have hWh := hWh'
  clear hWh'
  refine ⟨_, rfl, keepAnd ?_ (fun hNew => ?_)⟩
  · exact fun j u hj => (cell_of_row _ w.heap.size j _ _ _ hWh).trans (by simpa using hj)
  clear hHeld
  have hHeld := hNew
  clear hNew
  simp only [Act.put, List.setIfInBounds_toArray, List.set_cons_zero, List.set_cons_succ]
  refine wpAnyH_done (by kernel_rfl) ?_ _
  refine NoPanic.normal ?_
  clear hHeld
  clear hA6 hB6 hK6
  go_wp2_with fail
  go_end0
  refine ⟨rfl, ?_, hB7, hK7⟩
  have e : l ++ encVer ⟨x1, x2, xs, x3, x4, x5, x6, x7, x8⟩ = l ++ encI x1 ++ encI x2 ++ encR xs ++ (encI x3 ++ encI x4) ++ (encI x5 ++ encI x6) ++ encI x7 ++ encI x8 := by simp [encVer]
  rw [e]
  exact hA7
end Go.Proofs.Ytkhmjlahlcighaa
