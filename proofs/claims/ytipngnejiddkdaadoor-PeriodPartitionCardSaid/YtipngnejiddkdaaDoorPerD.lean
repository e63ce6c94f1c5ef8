/-
  Periods: differences to their end; lists that are the same; comparisons.
-/
import Derived.Test.YtipngnejiddkdaaDoorPerC
import Derived.Test.YtipngnejiddkdaaDoorMem3
namespace Go.Proofs.YtipngnejiddkdaaDoor
open Go.RowKit Go.Lib

theorem ret_int {k : IntKind} {a b : Int} (h : a = b) : Ending.returned (.int k a) = .returned (.int k b) := by rw [h]
def cmpP (f t a b : Int) : Int := if f < a then -1 else if a < f then 1 else if t < b then -1 else if b < t then 1 else 0

set_option maxHeartbeats 1000000 in
theorem compare_any (f t a b : Int) (w : World) :
    Calls Tryd.prog 31 #[.agg #[.int .i64 f, .int .i64 t], .agg #[.int .i64 a, .int .i64 b]] w fun e w' => e = .returned (.int .i64 (cmpP f t a b)) ∧ Below w.heap.size w w' := by
  have hd : f < a ∨ a < f ∨ (f = a ∧ t < b) ∨ (f = a ∧ b < t) ∨ (f = a ∧ t = b) := by omega
  rcases hd with h | h | ⟨rfl, h⟩ | ⟨rfl, h⟩ | ⟨rfl, rfl⟩
  all_goals
    go_enter Tryd.func31, Tryd.ntmps31
    go_wp2
    all_goals
      go_ret
      refine ⟨ret_int (by unfold cmpP; (repeat' split) <;> omega), (by repeat (first | exact Below.refl _ _ | refine Below.alloc ?_ (by simp; try omega) _))⟩

set_option maxHeartbeats 1000000 in
theorem refCompare_any (f t a b : Int) (w : World) :
    Calls Tryd.prog 32 #[.agg #[.int .i64 f, .int .i64 t], .agg #[.int .i64 a, .int .i64 b]] w fun e w' => e = .returned (.int .i64 (cmpP f t a b)) ∧ Below w.heap.size w w' := by
  have hd : f < a ∨ a < f ∨ (f = a ∧ t < b) ∨ (f = a ∧ b < t) ∨ (f = a ∧ t = b) := by omega
  rcases hd with h | h | ⟨rfl, h⟩ | ⟨rfl, h⟩ | ⟨rfl, rfl⟩
  all_goals
    go_enter Tryd.func32, Tryd.ntmps32
    go_wp2
    all_goals
      go_ret
      refine ⟨ret_int (by unfold cmpP; (repeat' split) <;> omega), (by repeat (first | exact Below.refl _ _ | refine Below.alloc ?_ (by simp; try omega) _))⟩

theorem sub_list {f t a b : Int} (hv : validP f t = true) (h : ovP f t a b = true) : ([(f, max f a), (min t b, t)]).filter (fun p => validP p.1 p.2) = subP f t a b := by
  unfold subP
  rw [if_neg (by rw [hv]; simp), if_neg (by rw [h]; simp)]
  unfold ovP at h
  rw [decide_eq_true_eq] at h
  have e0 : validP f (max f a) = decide (f < a) := by unfold validP; rw [Bool.eq_iff_iff, decide_eq_true_eq, decide_eq_true_eq]; omega
  have e1 : validP (min t b) t = decide (b < t) := by unfold validP; rw [Bool.eq_iff_iff, decide_eq_true_eq, decide_eq_true_eq]; omega
  by_cases h0 : f < a <;> by_cases h1 : b < t
  · have m0 : max f a = a := by omega
    have m1 : min t b = b := by omega
    rw [m0] at e0 ⊢
    rw [m1] at e1 ⊢
    simp [e0, e1, h0, h1]
  · have m0 : max f a = a := by omega
    rw [m0] at e0 ⊢
    simp [e0, e1, h0, h1]
  · have m1 : min t b = b := by omega
    rw [m1] at e1 ⊢
    simp [e0, e1, h0, h1]
  · simp [e0, e1, h0, h1]

set_option maxHeartbeats 1000000 in
theorem sub_none (f t a b : Int) (w : World) (hv : validP f t = false) :
    Calls Tryd.prog 14 #[.agg #[.int .i64 f, .int .i64 t], .agg #[.int .i64 a, .int .i64 b]] w (NewP w []) := by
  have HV := Lib.hid hv
  clear hv
  go_enter Tryd.func14, Tryd.ntmps14
  go_wp2_with fail
  (with_reducible refine (valid_any f t _).mono ?_)
  rw [HV.out]
  rintro e w1 ⟨rfl, hb1⟩
  go_wp2_with fail
  go_ret
  exact ⟨_, rfl, Rd.nil _ _ 2, ((Below.of_alloc (w := w) _).alloc (by simp) _).trans (hb1.mono (by simp; omega))⟩

set_option maxHeartbeats 1000000 in
theorem sub_apart (f t a b : Int) (w : World) (hv : validP f t = true) (h : ovP f t a b = false) :
    Calls Tryd.prog 14 #[.agg #[.int .i64 f, .int .i64 t], .agg #[.int .i64 a, .int .i64 b]] w (NewP w [(f, t)]) := by
  have HV := Lib.hid hv
  have HO := Lib.hid h
  clear hv h
  go_enter Tryd.func14, Tryd.ntmps14
  go_wp2_with fail
  (with_reducible refine (valid_any f t _).mono ?_)
  rw [HV.out]
  rintro e w1 ⟨rfl, hb1⟩
  obtain ⟨hc, _⟩ := bcell hb1
  simp only [World.size_alloc] at hc
  go_wp2_with fail
  (with_reducible refine (inter_no f t a b _ HO.out).mono ?_)
  rintro e w2 ⟨rfl, hb2⟩
  have hb := hb1.trans (hb2.mono hb1.size)
  have hs0 : w.heap.size < w2.heap.size := by have := hb.size; simp at this; omega
  clear hc
  obtain ⟨hc, _⟩ := bcell hb
  simp only [World.size_alloc] at hc
  have c0 := (hc w.heap.size 0 (by omega)).trans ((((Below.of_alloc (w := w.alloc (.cells #[.int .i64 f, .int .i64 t] 23)) (.cells #[.int .i64 a, .int .i64 b] 23))).cell (p := ⟨w.heap.size, 0, none⟩) (by simp)).trans (box_cell w _ _ 0 rfl))
  have c1 := (hc w.heap.size 1 (by omega)).trans ((((Below.of_alloc (w := w.alloc (.cells #[.int .i64 f, .int .i64 t] 23)) (.cells #[.int .i64 a, .int .i64 b] 23))).cell (p := ⟨w.heap.size, 1, none⟩) (by simp)).trans (box_cell w _ _ 1 rfl))
  have hB2 := ((Below.of_alloc (w := w) _).alloc (by simp) _).trans (hb.mono (by simp; omega))
  clear hc hb hb1 hb2
  go_wp2_with fail
  go_ret
  exact ⟨_, rfl, (rdP_new (w2.alloc _) (w2.heap.size + 1) (by simp) [(f, t)] 1 rfl (by omega)).wide (fun k hk => by simp; omega), (hB2.alloc hB2.size _).alloc (by simp; have := hB2.size; omega) _⟩

set_option maxHeartbeats 1000000 in
theorem refSub_none (f t a b : Int) (w : World) (hv : validP f t = false) :
    Calls Tryd.prog 15 #[.agg #[.int .i64 f, .int .i64 t], .agg #[.int .i64 a, .int .i64 b]] w (NewP w []) := by
  have HV := Lib.hid hv
  clear hv
  go_enter Tryd.func15, Tryd.ntmps15
  go_wp2_with fail
  (with_reducible refine (refValid_any f t _).mono ?_)
  rw [HV.out]
  rintro e w1 ⟨rfl, hb1⟩
  go_wp2_with fail
  go_ret
  exact ⟨_, rfl, Rd.nil _ _ 2, ((Below.of_alloc (w := w) _).alloc (by simp) _).trans (hb1.mono (by simp; omega))⟩

set_option maxHeartbeats 1000000 in
theorem refSub_apart (f t a b : Int) (w : World) (hv : validP f t = true) (h : ovP f t a b = false) :
    Calls Tryd.prog 15 #[.agg #[.int .i64 f, .int .i64 t], .agg #[.int .i64 a, .int .i64 b]] w (NewP w [(f, t)]) := by
  have HV := Lib.hid hv
  have HO := Lib.hid h
  clear hv h
  go_enter Tryd.func15, Tryd.ntmps15
  go_wp2_with fail
  (with_reducible refine (refValid_any f t _).mono ?_)
  rw [HV.out]
  rintro e w1 ⟨rfl, hb1⟩
  obtain ⟨hc, _⟩ := bcell hb1
  simp only [World.size_alloc] at hc
  go_wp2_with fail
  (with_reducible refine (refOverlaps_any f t a b _).mono ?_)
  rw [HO.out]
  rintro e w2 ⟨rfl, hb2⟩
  have hb := hb1.trans (hb2.mono hb1.size)
  have hs0 : w.heap.size < w2.heap.size := by have := hb.size; simp at this; omega
  clear hc
  obtain ⟨hc, _⟩ := bcell hb
  simp only [World.size_alloc] at hc
  have c0 := (hc w.heap.size 0 (by omega)).trans ((((Below.of_alloc (w := w.alloc (.cells #[.int .i64 f, .int .i64 t] 23)) (.cells #[.int .i64 a, .int .i64 b] 23))).cell (p := ⟨w.heap.size, 0, none⟩) (by simp)).trans (box_cell w _ _ 0 rfl))
  have c1 := (hc w.heap.size 1 (by omega)).trans ((((Below.of_alloc (w := w.alloc (.cells #[.int .i64 f, .int .i64 t] 23)) (.cells #[.int .i64 a, .int .i64 b] 23))).cell (p := ⟨w.heap.size, 1, none⟩) (by simp)).trans (box_cell w _ _ 1 rfl))
  have hB2 := ((Below.of_alloc (w := w) _).alloc (by simp) _).trans (hb.mono (by simp; omega))
  clear hc hb hb1 hb2
  go_wp2_with fail
  go_ret
  exact ⟨_, rfl, (rdP_new w2 w2.heap.size rfl [(f, t)] 1 rfl (by omega)).wide (fun k hk => by simp; omega), hB2.alloc hB2.size _⟩

theorem sub_any (f t a b : Int) (w : World) : Calls Tryd.prog 14 #[.agg #[.int .i64 f, .int .i64 t], .agg #[.int .i64 a, .int .i64 b]] w (NewP w (subP f t a b)) := by
  cases hv : validP f t
  · have h : subP f t a b = [] := by unfold subP; rw [if_pos hv]
    rw [h]; exact sub_none f t a b w hv
  · cases ho : ovP f t a b
    · have h : subP f t a b = [(f, t)] := by unfold subP; rw [if_neg (by rw [hv]; simp), if_pos ho]
      rw [h]; exact sub_apart f t a b w hv ho
    · rw [← sub_list hv ho]; exact sub_over f t a b _ _ w hv ho rfl rfl

theorem box_cell' (w : World) (H : Nat) (hH : w.heap.size = H) (cs : Array Value) (e : TypeId) (j : Nat) {u : Value} (h : cs[j]? = some u) : (w.alloc (.cells cs e)).cell? ⟨H, j, none⟩ = some u := by
  subst hH; exact box_cell w cs e j h

set_option maxHeartbeats 2000000 in
theorem refSub_yy (f t a b : Int) (w : World) (hv : validP f t = true) (h : ovP f t a b = true) (k0 : f < a) (k1 : b < t) :
    Calls Tryd.prog 15 #[.agg #[.int .i64 f, .int .i64 t], .agg #[.int .i64 a, .int .i64 b]] w (NewP w [(f, a), (b, t)]) := by
  obtain ⟨i0, hi, hz0, hz1, hz2⟩ := info_parts infoP
  have HV := Lib.hid hv
  have HO := Lib.hid h
  clear hv h
  go_enter Tryd.func15, Tryd.ntmps15
  go_wp2_with fail
  (with_reducible refine (refValid_any f t _).mono ?_)
  rw [HV.out]
  rintro e w1 ⟨rfl, hb1⟩
  obtain ⟨hc, _⟩ := bcell hb1
  simp only [World.size_alloc] at hc
  go_wp2_with fail
  (with_reducible refine (refOverlaps_any f t a b _).mono ?_)
  rw [HO.out]
  rintro e w2 ⟨rfl, hb2⟩
  have hb := hb1.trans (hb2.mono hb1.size)
  have hs0 : w.heap.size < w2.heap.size := by have := hb.size; simp at this; omega
  have hs1 : w.heap.size + 1 < w2.heap.size := by have := hb.size; simp at this; omega
  clear hc
  obtain ⟨hc, _⟩ := bcell hb
  simp only [World.size_alloc] at hc
  have c0 := (hc w.heap.size 0 (by omega)).trans ((((Below.of_alloc (w := w.alloc (.cells #[.int .i64 f, .int .i64 t] 23)) (.cells #[.int .i64 a, .int .i64 b] 23))).cell (p := ⟨w.heap.size, 0, none⟩) (by simp)).trans (box_cell w _ _ 0 rfl))
  have c1 := (hc w.heap.size 1 (by omega)).trans ((((Below.of_alloc (w := w.alloc (.cells #[.int .i64 f, .int .i64 t] 23)) (.cells #[.int .i64 a, .int .i64 b] 23))).cell (p := ⟨w.heap.size, 1, none⟩) (by simp)).trans (box_cell w _ _ 1 rfl))
  have c2 := (hc (w.heap.size + 1) 0 (by omega)).trans (box_cell' (w.alloc (.cells #[.int .i64 f, .int .i64 t] 23)) (w.heap.size + 1) (by simp) #[.int .i64 a, .int .i64 b] 23 0 rfl)
  have c3 := (hc (w.heap.size + 1) 1 (by omega)).trans (box_cell' (w.alloc (.cells #[.int .i64 f, .int .i64 t] 23)) (w.heap.size + 1) (by simp) #[.int .i64 a, .int .i64 b] 23 1 rfl)
  have hB2 := ((Below.of_alloc (w := w) _).alloc (by simp) _).trans (hb.mono (by simp; omega))
  clear hc hb hb1 hb2
  go_wp2_with (first
    | (at_builtin; refine wpList_append_app _ rfl (.tmp 20) (.tmp 26) 27 rfl w2.heap.size 23 i0 _ 2 16 Tryd.underlying27 hi hz0 hz1 hz2 rfl (by omega) (.slice none 0 0) 0 (cp []) rfl (by exact .inl ((OwnP.nil w2 w2.heap.size).alloc _)) (· = w2.heap.size) _ 1 (cp [(f, a)]) rfl (by exact rdP_new _ w2.heap.size rfl [(f, a)] 1 rfl (by omega)) (cp_one _) (by simp only [maxLen]; omega) (by omega) (by simp) ?_; intro v3 w3 _ hO3 hg3 hb3 _; have hs3 := hb3.size; rw [World.size_alloc] at hs3; have c0 := ((hb3.cell (p := ⟨w.heap.size, 0, none⟩) hs0).trans (((Below.of_alloc (w := w2) _).cell (p := ⟨w.heap.size, 0, none⟩) hs0).trans c0)); have c1 := ((hb3.cell (p := ⟨w.heap.size, 1, none⟩) hs0).trans (((Below.of_alloc (w := w2) _).cell (p := ⟨w.heap.size, 1, none⟩) hs0).trans c1)); have c2 := ((hb3.cell (p := ⟨w.heap.size + 1, 0, none⟩) hs1).trans (((Below.of_alloc (w := w2) _).cell (p := ⟨w.heap.size + 1, 0, none⟩) hs1).trans c2)); have c3 := ((hb3.cell (p := ⟨w.heap.size + 1, 1, none⟩) hs1).trans (((Below.of_alloc (w := w2) _).cell (p := ⟨w.heap.size + 1, 1, none⟩) hs1).trans c3)); have hO3' : OwnP w3 w2.heap.size v3 [(f, a)] := hO3 (.inl (by omega)); clear hO3)
    | (at_builtin; refine wpList_append_app _ rfl (.tmp 33) (.tmp 39) 27 rfl w2.heap.size 23 i0 _ 2 16 Tryd.underlying27 hi hz0 hz1 hz2 rfl (by omega) v3 1 (cp [(f, a)]) rfl (by exact .inl (hO3'.alloc _)) (· = w3.heap.size) _ 1 (cp [(b, t)]) rfl (by exact rdP_new _ w3.heap.size rfl [(b, t)] 1 rfl (by omega)) (cp_one _) (by simp only [maxLen]; omega) (by omega) (by simp; try omega) ?_; intro v4 w4 _ hO4 hg4 hb4 _))
  go_ret
  have hB3 : Below w.heap.size w w3 := (hB2.alloc hB2.size _).trans (hb3.mono hB2.size)
  exact ⟨v4, rfl, (OwnP.rd (base := w2.heap.size) (hO4 (.inl (by omega)))), (hB3.alloc hB3.size _).trans (hb4.mono hB2.size)⟩

set_option maxHeartbeats 2000000 in
theorem refSub_yn (f t a b : Int) (w : World) (hv : validP f t = true) (h : ovP f t a b = true) (k0 : f < a) (k1 : ¬ b < t) :
    Calls Tryd.prog 15 #[.agg #[.int .i64 f, .int .i64 t], .agg #[.int .i64 a, .int .i64 b]] w (NewP w [(f, a)]) := by
  obtain ⟨i0, hi, hz0, hz1, hz2⟩ := info_parts infoP
  have HV := Lib.hid hv
  have HO := Lib.hid h
  clear hv h
  go_enter Tryd.func15, Tryd.ntmps15
  go_wp2_with fail
  (with_reducible refine (refValid_any f t _).mono ?_)
  rw [HV.out]
  rintro e w1 ⟨rfl, hb1⟩
  obtain ⟨hc, _⟩ := bcell hb1
  simp only [World.size_alloc] at hc
  go_wp2_with fail
  (with_reducible refine (refOverlaps_any f t a b _).mono ?_)
  rw [HO.out]
  rintro e w2 ⟨rfl, hb2⟩
  have hb := hb1.trans (hb2.mono hb1.size)
  have hs0 : w.heap.size < w2.heap.size := by have := hb.size; simp at this; omega
  have hs1 : w.heap.size + 1 < w2.heap.size := by have := hb.size; simp at this; omega
  clear hc
  obtain ⟨hc, _⟩ := bcell hb
  simp only [World.size_alloc] at hc
  have c0 := (hc w.heap.size 0 (by omega)).trans ((((Below.of_alloc (w := w.alloc (.cells #[.int .i64 f, .int .i64 t] 23)) (.cells #[.int .i64 a, .int .i64 b] 23))).cell (p := ⟨w.heap.size, 0, none⟩) (by simp)).trans (box_cell w _ _ 0 rfl))
  have c1 := (hc w.heap.size 1 (by omega)).trans ((((Below.of_alloc (w := w.alloc (.cells #[.int .i64 f, .int .i64 t] 23)) (.cells #[.int .i64 a, .int .i64 b] 23))).cell (p := ⟨w.heap.size, 1, none⟩) (by simp)).trans (box_cell w _ _ 1 rfl))
  have c2 := (hc (w.heap.size + 1) 0 (by omega)).trans (box_cell' (w.alloc (.cells #[.int .i64 f, .int .i64 t] 23)) (w.heap.size + 1) (by simp) #[.int .i64 a, .int .i64 b] 23 0 rfl)
  have c3 := (hc (w.heap.size + 1) 1 (by omega)).trans (box_cell' (w.alloc (.cells #[.int .i64 f, .int .i64 t] 23)) (w.heap.size + 1) (by simp) #[.int .i64 a, .int .i64 b] 23 1 rfl)
  have hB2 := ((Below.of_alloc (w := w) _).alloc (by simp) _).trans (hb.mono (by simp; omega))
  clear hc hb hb1 hb2
  go_wp2_with (first
    | (at_builtin; refine wpList_append_app _ rfl (.tmp 20) (.tmp 26) 27 rfl w2.heap.size 23 i0 _ 2 16 Tryd.underlying27 hi hz0 hz1 hz2 rfl (by omega) (.slice none 0 0) 0 (cp []) rfl (by exact .inl ((OwnP.nil w2 w2.heap.size).alloc _)) (· = w2.heap.size) _ 1 (cp [(f, a)]) rfl (by exact rdP_new _ w2.heap.size rfl [(f, a)] 1 rfl (by omega)) (cp_one _) (by simp only [maxLen]; omega) (by omega) (by simp) ?_; intro v3 w3 _ hO3 hg3 hb3 _; have hs3 := hb3.size; rw [World.size_alloc] at hs3; have c0 := ((hb3.cell (p := ⟨w.heap.size, 0, none⟩) hs0).trans (((Below.of_alloc (w := w2) _).cell (p := ⟨w.heap.size, 0, none⟩) hs0).trans c0)); have c1 := ((hb3.cell (p := ⟨w.heap.size, 1, none⟩) hs0).trans (((Below.of_alloc (w := w2) _).cell (p := ⟨w.heap.size, 1, none⟩) hs0).trans c1)); have c2 := ((hb3.cell (p := ⟨w.heap.size + 1, 0, none⟩) hs1).trans (((Below.of_alloc (w := w2) _).cell (p := ⟨w.heap.size + 1, 0, none⟩) hs1).trans c2)); have c3 := ((hb3.cell (p := ⟨w.heap.size + 1, 1, none⟩) hs1).trans (((Below.of_alloc (w := w2) _).cell (p := ⟨w.heap.size + 1, 1, none⟩) hs1).trans c3)); have hO3' : OwnP w3 w2.heap.size v3 [(f, a)] := hO3 (.inl (by omega)); clear hO3))
  go_ret
  exact ⟨v3, rfl, hO3'.rd, (hB2.alloc hB2.size _).trans (hb3.mono hB2.size)⟩

set_option maxHeartbeats 2000000 in
theorem refSub_ny (f t a b : Int) (w : World) (hv : validP f t = true) (h : ovP f t a b = true) (k0 : ¬ f < a) (k1 : b < t) :
    Calls Tryd.prog 15 #[.agg #[.int .i64 f, .int .i64 t], .agg #[.int .i64 a, .int .i64 b]] w (NewP w [(b, t)]) := by
  obtain ⟨i0, hi, hz0, hz1, hz2⟩ := info_parts infoP
  have HV := Lib.hid hv
  have HO := Lib.hid h
  clear hv h
  go_enter Tryd.func15, Tryd.ntmps15
  go_wp2_with fail
  (with_reducible refine (refValid_any f t _).mono ?_)
  rw [HV.out]
  rintro e w1 ⟨rfl, hb1⟩
  obtain ⟨hc, _⟩ := bcell hb1
  simp only [World.size_alloc] at hc
  go_wp2_with fail
  (with_reducible refine (refOverlaps_any f t a b _).mono ?_)
  rw [HO.out]
  rintro e w2 ⟨rfl, hb2⟩
  have hb := hb1.trans (hb2.mono hb1.size)
  have hs0 : w.heap.size < w2.heap.size := by have := hb.size; simp at this; omega
  have hs1 : w.heap.size + 1 < w2.heap.size := by have := hb.size; simp at this; omega
  clear hc
  obtain ⟨hc, _⟩ := bcell hb
  simp only [World.size_alloc] at hc
  have c0 := (hc w.heap.size 0 (by omega)).trans ((((Below.of_alloc (w := w.alloc (.cells #[.int .i64 f, .int .i64 t] 23)) (.cells #[.int .i64 a, .int .i64 b] 23))).cell (p := ⟨w.heap.size, 0, none⟩) (by simp)).trans (box_cell w _ _ 0 rfl))
  have c1 := (hc w.heap.size 1 (by omega)).trans ((((Below.of_alloc (w := w.alloc (.cells #[.int .i64 f, .int .i64 t] 23)) (.cells #[.int .i64 a, .int .i64 b] 23))).cell (p := ⟨w.heap.size, 1, none⟩) (by simp)).trans (box_cell w _ _ 1 rfl))
  have c2 := (hc (w.heap.size + 1) 0 (by omega)).trans (box_cell' (w.alloc (.cells #[.int .i64 f, .int .i64 t] 23)) (w.heap.size + 1) (by simp) #[.int .i64 a, .int .i64 b] 23 0 rfl)
  have c3 := (hc (w.heap.size + 1) 1 (by omega)).trans (box_cell' (w.alloc (.cells #[.int .i64 f, .int .i64 t] 23)) (w.heap.size + 1) (by simp) #[.int .i64 a, .int .i64 b] 23 1 rfl)
  have hB2 := ((Below.of_alloc (w := w) _).alloc (by simp) _).trans (hb.mono (by simp; omega))
  clear hc hb hb1 hb2
  go_wp2_with (first
    | (at_builtin; refine wpList_append_app _ rfl (.tmp 33) (.tmp 39) 27 rfl w2.heap.size 23 i0 _ 2 16 Tryd.underlying27 hi hz0 hz1 hz2 rfl (by omega) (.slice none 0 0) 0 (cp []) rfl (by exact .inl ((OwnP.nil w2 w2.heap.size).alloc _)) (· = w2.heap.size) _ 1 (cp [(b, t)]) rfl (by exact rdP_new _ w2.heap.size rfl [(b, t)] 1 rfl (by omega)) (cp_one _) (by simp only [maxLen]; omega) (by omega) (by simp; try omega) ?_; intro v4 w4 _ hO4 hg4 hb4 _))
  go_ret
  exact ⟨v4, rfl, (OwnP.rd (base := w2.heap.size) (hO4 (.inl (by omega)))), (hB2.alloc hB2.size _).trans (hb4.mono hB2.size)⟩

set_option maxHeartbeats 2000000 in
theorem refSub_nn (f t a b : Int) (w : World) (hv : validP f t = true) (h : ovP f t a b = true) (k0 : ¬ f < a) (k1 : ¬ b < t) :
    Calls Tryd.prog 15 #[.agg #[.int .i64 f, .int .i64 t], .agg #[.int .i64 a, .int .i64 b]] w (NewP w []) := by
  obtain ⟨i0, hi, hz0, hz1, hz2⟩ := info_parts infoP
  have HV := Lib.hid hv
  have HO := Lib.hid h
  clear hv h
  go_enter Tryd.func15, Tryd.ntmps15
  go_wp2_with fail
  (with_reducible refine (refValid_any f t _).mono ?_)
  rw [HV.out]
  rintro e w1 ⟨rfl, hb1⟩
  obtain ⟨hc, _⟩ := bcell hb1
  simp only [World.size_alloc] at hc
  go_wp2_with fail
  (with_reducible refine (refOverlaps_any f t a b _).mono ?_)
  rw [HO.out]
  rintro e w2 ⟨rfl, hb2⟩
  have hb := hb1.trans (hb2.mono hb1.size)
  have hs0 : w.heap.size < w2.heap.size := by have := hb.size; simp at this; omega
  have hs1 : w.heap.size + 1 < w2.heap.size := by have := hb.size; simp at this; omega
  clear hc
  obtain ⟨hc, _⟩ := bcell hb
  simp only [World.size_alloc] at hc
  have c0 := (hc w.heap.size 0 (by omega)).trans ((((Below.of_alloc (w := w.alloc (.cells #[.int .i64 f, .int .i64 t] 23)) (.cells #[.int .i64 a, .int .i64 b] 23))).cell (p := ⟨w.heap.size, 0, none⟩) (by simp)).trans (box_cell w _ _ 0 rfl))
  have c1 := (hc w.heap.size 1 (by omega)).trans ((((Below.of_alloc (w := w.alloc (.cells #[.int .i64 f, .int .i64 t] 23)) (.cells #[.int .i64 a, .int .i64 b] 23))).cell (p := ⟨w.heap.size, 1, none⟩) (by simp)).trans (box_cell w _ _ 1 rfl))
  have c2 := (hc (w.heap.size + 1) 0 (by omega)).trans (box_cell' (w.alloc (.cells #[.int .i64 f, .int .i64 t] 23)) (w.heap.size + 1) (by simp) #[.int .i64 a, .int .i64 b] 23 0 rfl)
  have c3 := (hc (w.heap.size + 1) 1 (by omega)).trans (box_cell' (w.alloc (.cells #[.int .i64 f, .int .i64 t] 23)) (w.heap.size + 1) (by simp) #[.int .i64 a, .int .i64 b] 23 1 rfl)
  have hB2 := ((Below.of_alloc (w := w) _).alloc (by simp) _).trans (hb.mono (by simp; omega))
  clear hc hb hb1 hb2
  go_wp2_with fail
  go_ret
  exact ⟨_, rfl, Rd.nil _ _ 2, hB2⟩

theorem refSub_any (f t a b : Int) (w : World) : Calls Tryd.prog 15 #[.agg #[.int .i64 f, .int .i64 t], .agg #[.int .i64 a, .int .i64 b]] w (NewP w (subP f t a b)) := by
  cases hv : validP f t
  · have h : subP f t a b = [] := by unfold subP; rw [if_pos hv]
    rw [h]; exact refSub_none f t a b w hv
  · cases ho : ovP f t a b
    · have h : subP f t a b = [(f, t)] := by unfold subP; rw [if_neg (by rw [hv]; simp), if_pos ho]
      rw [h]; exact refSub_apart f t a b w hv ho
    · have h : subP f t a b = (if f < a then [(f, a)] else []) ++ (if b < t then [(b, t)] else []) := by unfold subP; rw [if_neg (by rw [hv]; simp), if_neg (by rw [ho]; simp)]
      rw [h]
      by_cases k0 : f < a <;> by_cases k1 : b < t
      · rw [if_pos k0, if_pos k1]; exact refSub_yy f t a b w hv ho k0 k1
      · rw [if_pos k0, if_neg k1]; exact refSub_yn f t a b w hv ho k0 k1
      · rw [if_neg k0, if_pos k1]; exact refSub_ny f t a b w hv ho k0 k1
      · rw [if_neg k0, if_neg k1]; exact refSub_nn f t a b w hv ho k0 k1
end Go.Proofs.YtipngnejiddkdaaDoor
