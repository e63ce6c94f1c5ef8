/-
  Overlapping periods and rectangles.
-/
import Derived.Test.YtacjiocffbgkkaaGreatSegL
namespace Go.Proofs.YtacjiocffbgkkaaGreat
open Go.RowKit Go.Lib Go.IntWalk Go.Sort Go.Shelf

def validR (r : Rec) : Bool := validP r.vf r.vt && validP r.sf r.st
def ovlP (a b c d : Int) : Bool := validP a b && (validP c d && (decide (a < d) && decide (c < b)))
def ovlR (a b : Rec) : Bool := validR a && (validR b && (ovlP a.vf a.vt b.vf b.vt && ovlP a.sf a.st b.sf b.st))
theorem pv_any (f t : Int) (w : World) : Calls Tryz.prog 43 #[.agg #[.int .i64 f, .int .i64 t]] w fun e w' => e = .returned (.bool (validP f t)) ∧ Below w.heap.size w w' :=
  (periodValid_any f t w).mono fun e w' ⟨h1, h2⟩ => ⟨h1, by rw [← h2]; exact Below.of_alloc _⟩

set_option maxRecDepth 100000 in
set_option maxHeartbeats 2000000 in
theorem perOvl_any (a b c d : Int) (w : World) : Calls Tryz.prog 84 #[.agg #[.int .i64 a, .int .i64 b], .agg #[.int .i64 c, .int .i64 d]] w fun e w' => e = .returned (.bool (ovlP a b c d)) ∧ Below w.heap.size w w' := by
  obtain ⟨W, hW⟩ : ∃ W, W = (w.alloc (.cells #[.int .i64 a, .int .i64 b] 24)).alloc (.cells #[.int .i64 c, .int .i64 d] 24) := ⟨_, rfl⟩
  have hbW : Below w.heap.size w W := by rw [hW]; exact (Below.of_alloc _).alloc (by simp) _
  have hWs : W.heap.size = w.heap.size + 2 := by rw [hW]; simp
  have h1 : W.heap[w.heap.size]? = some (.cells #[.int .i64 a, .int .i64 b] 24 (0, 0)) := by rw [hW]; exact (Below.heap_alloc _ _ _ (by simp)).trans (heap_alloc_new w _)
  have h2 : W.heap[w.heap.size + 1]? = some (.cells #[.int .i64 c, .int .i64 d] 24 (0, 0)) := by
    rw [hW]
    have := heap_alloc_new (w.alloc (.cells #[.int .i64 a, .int .i64 b] 24)) (.cells #[.int .i64 c, .int .i64 d] 24)
    simpa using this
  have FB : Hid (∀ V, Below W.heap.size W V → V.heap[w.heap.size]? = some (.cells #[.int .i64 a, .int .i64 b] 24 (0, 0)) ∧ V.heap[w.heap.size + 1]? = some (.cells #[.int .i64 c, .int .i64 d] 24 (0, 0))) := Lib.hid (fun V hV => ⟨(hV.block _ (by omega)).trans h1, (hV.block _ (by omega)).trans h2⟩)
  have HBW := Lib.hid hbW
  obtain ⟨v1, hv1⟩ : ∃ bo, bo = validP a b := ⟨_, rfl⟩
  obtain ⟨v2, hv2⟩ : ∃ bo, bo = validP c d := ⟨_, rfl⟩
  have K1 := pv_any a b W
  have K2 := fun V => pv_any c d V
  rw [← hv1] at K1
  rw [← hv2] at K2
  obtain ⟨rb, hrb⟩ : ∃ bo, bo = ovlP a b c d := ⟨_, rfl⟩
  rw [← hrb]
  have HR : Hid (rb = (v1 && (v2 && (decide (a < d) && decide (c < b))))) := Lib.hid (by rw [hrb, ovlP, hv1, hv2])
  clear h1 h2 hbW hv1 hv2 hrb
  go_enter Tryz.func84, Tryz.ntmps84
  go_wp2_with fail
  rw [← hW]
  clear hW
  (with_reducible refine K1.mono ?_)
  rintro _ w1 ⟨rfl, hb1⟩
  have HB1 := Lib.hid hb1
  have p0 : w1.cell? ⟨w.heap.size, 0, none⟩ = some (.int .i64 a) := cell_of_row w1 _ 0 _ _ _ ((FB.out w1 hb1).1)
  have p1 : w1.cell? ⟨w.heap.size, 1, none⟩ = some (.int .i64 b) := cell_of_row w1 _ 1 _ _ _ ((FB.out w1 hb1).1)
  have q0 : w1.cell? ⟨w.heap.size + 1, 0, none⟩ = some (.int .i64 c) := cell_of_row w1 _ 0 _ _ _ ((FB.out w1 hb1).2)
  have q1 : w1.cell? ⟨w.heap.size + 1, 1, none⟩ = some (.int .i64 d) := cell_of_row w1 _ 1 _ _ _ ((FB.out w1 hb1).2)
  clear hb1 K1
  cases v1
  case false =>
    go_wp2_with fail
    go_ret
    exact ⟨by rw [HR.out]; rfl, HBW.out.trans (HB1.out.mono (by omega))⟩
  case true =>
    have K2 := K2 w1
    go_wp2_with fail
    (with_reducible refine K2.mono ?_)
    rintro _ w2 ⟨rfl, hb2⟩
    have HB2 : Hid (Below W.heap.size W w2) := Lib.hid (HB1.out.trans (hb2.mono HB1.out.size))
    clear hb2 K2 p0 p1 q0 q1
    have p0 : w2.cell? ⟨w.heap.size, 0, none⟩ = some (.int .i64 a) := cell_of_row w2 _ 0 _ _ _ ((FB.out w2 HB2.out).1)
    have p1 : w2.cell? ⟨w.heap.size, 1, none⟩ = some (.int .i64 b) := cell_of_row w2 _ 1 _ _ _ ((FB.out w2 HB2.out).1)
    have q0 : w2.cell? ⟨w.heap.size + 1, 0, none⟩ = some (.int .i64 c) := cell_of_row w2 _ 0 _ _ _ ((FB.out w2 HB2.out).2)
    have q1 : w2.cell? ⟨w.heap.size + 1, 1, none⟩ = some (.int .i64 d) := cell_of_row w2 _ 1 _ _ _ ((FB.out w2 HB2.out).2)
    have HF : Hid (Below w.heap.size w w2) := Lib.hid (HBW.out.trans (HB2.out.mono (by omega)))
    cases v2
    case false =>
      go_wp2_with fail
      go_ret
      exact ⟨by rw [HR.out]; rfl, HF.out⟩
    case true =>
      by_cases hc1 : a < d
      · by_cases hc2 : c < b
        · have HE : Hid (rb = true) := Lib.hid (by rw [HR.out]; simp [hc1, hc2])
          go_wp2_with fail
          go_ret
          exact ⟨by rw [HE.out]; first | rfl | (simp; omega) | (simp; done), HF.out⟩
        · have HE : Hid (rb = false) := Lib.hid (by rw [HR.out]; simp [hc2])
          go_wp2_with fail
          go_ret
          exact ⟨by rw [HE.out]; first | rfl | (simp; omega) | (simp; done), HF.out⟩
      · have HE : Hid (rb = false) := Lib.hid (by rw [HR.out]; simp; omega)
        go_wp2_with fail
        go_ret
        exact ⟨by rw [HE.out]; first | rfl | (simp; omega) | (simp; done), HF.out⟩

set_option maxRecDepth 100000 in
set_option maxHeartbeats 2000000 in
theorem regValid_any (a b c d : Int) (w : World) : Calls Tryz.prog 83 #[.agg #[.int .i64 a, .int .i64 b, .int .i64 c, .int .i64 d]] w fun e w' => e = .returned (.bool (validR ⟨a, b, c, d⟩)) ∧ Below w.heap.size w w' := by
  obtain ⟨W, hW⟩ : ∃ W, W = w.alloc (.cells #[.int .i64 a, .int .i64 b, .int .i64 c, .int .i64 d] 26) := ⟨_, rfl⟩
  have hbW : Below w.heap.size w W := by rw [hW]; exact Below.of_alloc _
  have hWs : W.heap.size = w.heap.size + 1 := by rw [hW]; simp
  have h1 : W.heap[w.heap.size]? = some (.cells #[.int .i64 a, .int .i64 b, .int .i64 c, .int .i64 d] 26 (0, 0)) := by rw [hW]; exact heap_alloc_new w _
  have FB : Hid (∀ V, Below W.heap.size W V → V.heap[w.heap.size]? = some (.cells #[.int .i64 a, .int .i64 b, .int .i64 c, .int .i64 d] 26 (0, 0))) := Lib.hid (fun V hV => (hV.block _ (by omega)).trans h1)
  have HBW := Lib.hid hbW
  obtain ⟨v1, hv1⟩ : ∃ bo, bo = validP a b := ⟨_, rfl⟩
  obtain ⟨v2, hv2⟩ : ∃ bo, bo = validP c d := ⟨_, rfl⟩
  have K1 := pv_any a b W
  have K2 := fun V => pv_any c d V
  rw [← hv1] at K1
  rw [← hv2] at K2
  have HR : Hid (validR ⟨a, b, c, d⟩ = (v1 && v2)) := Lib.hid (by rw [validR, hv1, hv2])
  clear h1 hbW hv1 hv2
  rw [HR.out]
  go_enter Tryz.func83, Tryz.ntmps83
  go_wp2_with fail
  rw [← hW]
  clear hW
  (with_reducible refine K1.mono ?_)
  rintro _ w1 ⟨rfl, hb1⟩
  have HB1 := Lib.hid hb1
  have p0 : w1.cell? ⟨w.heap.size, 0, none⟩ = some (.int .i64 a) := cell_of_row w1 _ 0 _ _ _ (FB.out w1 hb1)
  have p1 : w1.cell? ⟨w.heap.size, 1, none⟩ = some (.int .i64 b) := cell_of_row w1 _ 1 _ _ _ (FB.out w1 hb1)
  have p2 : w1.cell? ⟨w.heap.size, 2, none⟩ = some (.int .i64 c) := cell_of_row w1 _ 2 _ _ _ (FB.out w1 hb1)
  have p3 : w1.cell? ⟨w.heap.size, 3, none⟩ = some (.int .i64 d) := cell_of_row w1 _ 3 _ _ _ (FB.out w1 hb1)
  clear hb1 K1
  cases v1
  case false =>
    go_wp2_with fail
    go_ret
    exact ⟨rfl, HBW.out.trans (HB1.out.mono (by omega))⟩
  case true =>
    have K2 := K2 w1
    go_wp2_with fail
    (with_reducible refine K2.mono ?_)
    rintro _ w2 ⟨rfl, hb2⟩
    have HB2 : Hid (Below w.heap.size w w2) := Lib.hid (HBW.out.trans ((HB1.out.trans (hb2.mono HB1.out.size)).mono (by omega)))
    clear hb2 K2 p0 p1 p2 p3
    go_wp2_with fail
    go_ret
    exact ⟨by simp, HB2.out⟩

set_option maxRecDepth 100000 in
set_option maxHeartbeats 2000000 in
theorem pv31_any (f t : Int) (w : World) : Calls Tryz.prog 143 #[.agg #[.int .i64 f, .int .i64 t]] w fun e w' => e = .returned (.bool (validP f t)) ∧ Below w.heap.size w w' := by
  obtain ⟨r, hr⟩ : ∃ r, r = validP f t := ⟨_, rfl⟩
  rw [← hr]
  have HR : Hid (r = (decide (0 ≤ f) && (decide (f < t) && decide (t ≤ 1099511627776)))) := Lib.hid (by rw [hr, validP, Bool.and_assoc])
  clear hr
  by_cases h1 : 0 ≤ f
  · by_cases h2 : f < t
    · by_cases h3 : t ≤ 1099511627776
      · have HE : Hid (r = true) := Lib.hid (by rw [HR.out]; simp [h1, h2, h3])
        go_enter Tryz.func143, Tryz.ntmps143
        go_wp2_with fail
        go_ret
        exact ⟨by rw [HE.out]; rfl, Below.of_alloc _⟩
      · have HE : Hid (r = false) := Lib.hid (by rw [HR.out]; simp; omega)
        go_enter Tryz.func143, Tryz.ntmps143
        go_wp2_with fail
        go_ret
        exact ⟨by rw [HE.out]; rfl, Below.of_alloc _⟩
    · have HE : Hid (r = false) := Lib.hid (by rw [HR.out]; simp; omega)
      go_enter Tryz.func143, Tryz.ntmps143
      go_wp2_with fail
      go_ret
      exact ⟨by rw [HE.out]; rfl, Below.of_alloc _⟩
  · have HE : Hid (r = false) := Lib.hid (by rw [HR.out]; simp; omega)
    go_enter Tryz.func143, Tryz.ntmps143
    go_wp2_with fail
    go_ret
    exact ⟨by rw [HE.out]; rfl, Below.of_alloc _⟩

set_option maxRecDepth 100000 in
set_option maxHeartbeats 2000000 in
theorem r31Valid_any (a b c d : Int) (w : World) : Calls Tryz.prog 86 #[.agg #[.int .i64 a, .int .i64 b, .int .i64 c, .int .i64 d]] w fun e w' => e = .returned (.bool (validR ⟨a, b, c, d⟩)) ∧ Below w.heap.size w w' := by
  obtain ⟨W, hW⟩ : ∃ W, W = w.alloc (.cells #[.int .i64 a, .int .i64 b, .int .i64 c, .int .i64 d] 26) := ⟨_, rfl⟩
  have hbW : Below w.heap.size w W := by rw [hW]; exact Below.of_alloc _
  have hWs : W.heap.size = w.heap.size + 1 := by rw [hW]; simp
  have h1 : W.heap[w.heap.size]? = some (.cells #[.int .i64 a, .int .i64 b, .int .i64 c, .int .i64 d] 26 (0, 0)) := by rw [hW]; exact heap_alloc_new w _
  have FB : Hid (∀ V, Below W.heap.size W V → V.heap[w.heap.size]? = some (.cells #[.int .i64 a, .int .i64 b, .int .i64 c, .int .i64 d] 26 (0, 0))) := Lib.hid (fun V hV => (hV.block _ (by omega)).trans h1)
  have HBW := Lib.hid hbW
  obtain ⟨v1, hv1⟩ : ∃ bo, bo = validP a b := ⟨_, rfl⟩
  obtain ⟨v2, hv2⟩ : ∃ bo, bo = validP c d := ⟨_, rfl⟩
  have K1 := pv31_any a b W
  have K2 := fun V => pv31_any c d V
  rw [← hv1] at K1
  rw [← hv2] at K2
  have HR : Hid (validR ⟨a, b, c, d⟩ = (v1 && v2)) := Lib.hid (by rw [validR, hv1, hv2])
  clear h1 hbW hv1 hv2
  rw [HR.out]
  go_enter Tryz.func86, Tryz.ntmps86
  go_wp2_with fail
  rw [← hW]
  clear hW
  (with_reducible refine K1.mono ?_)
  rintro _ w1 ⟨rfl, hb1⟩
  have HB1 := Lib.hid hb1
  have p0 : w1.cell? ⟨w.heap.size, 0, none⟩ = some (.int .i64 a) := cell_of_row w1 _ 0 _ _ _ (FB.out w1 hb1)
  have p1 : w1.cell? ⟨w.heap.size, 1, none⟩ = some (.int .i64 b) := cell_of_row w1 _ 1 _ _ _ (FB.out w1 hb1)
  have p2 : w1.cell? ⟨w.heap.size, 2, none⟩ = some (.int .i64 c) := cell_of_row w1 _ 2 _ _ _ (FB.out w1 hb1)
  have p3 : w1.cell? ⟨w.heap.size, 3, none⟩ = some (.int .i64 d) := cell_of_row w1 _ 3 _ _ _ (FB.out w1 hb1)
  clear hb1 K1
  cases v1
  case false =>
    go_wp2_with fail
    go_ret
    exact ⟨rfl, HBW.out.trans (HB1.out.mono (by omega))⟩
  case true =>
    have K2 := K2 w1
    go_wp2_with fail
    (with_reducible refine K2.mono ?_)
    rintro _ w2 ⟨rfl, hb2⟩
    have HB2 : Hid (Below w.heap.size w w2) := Lib.hid (HBW.out.trans ((HB1.out.trans (hb2.mono HB1.out.size)).mono (by omega)))
    clear hb2 K2 p0 p1 p2 p3
    go_wp2_with fail
    go_ret
    exact ⟨by simp, HB2.out⟩

set_option maxRecDepth 100000 in
set_option maxHeartbeats 4000000 in
theorem regOvl_any (a1 a2 a3 a4 b1 b2 b3 b4 : Int) (w : World) : Calls Tryz.prog 44 #[.agg #[.int .i64 a1, .int .i64 a2, .int .i64 a3, .int .i64 a4], .agg #[.int .i64 b1, .int .i64 b2, .int .i64 b3, .int .i64 b4]] w fun e w' => e = .returned (.bool (ovlR ⟨a1, a2, a3, a4⟩ ⟨b1, b2, b3, b4⟩)) ∧ Below w.heap.size w w' := by
  obtain ⟨W, hW⟩ : ∃ W, W = (w.alloc (.cells #[.int .i64 a1, .int .i64 a2, .int .i64 a3, .int .i64 a4] 26)).alloc (.cells #[.int .i64 b1, .int .i64 b2, .int .i64 b3, .int .i64 b4] 26) := ⟨_, rfl⟩
  have hbW : Below w.heap.size w W := by rw [hW]; exact (Below.of_alloc _).alloc (by simp) _
  have hWs : W.heap.size = w.heap.size + 2 := by rw [hW]; simp
  have h1 : W.heap[w.heap.size]? = some (.cells #[.int .i64 a1, .int .i64 a2, .int .i64 a3, .int .i64 a4] 26 (0, 0)) := by rw [hW]; exact (Below.heap_alloc _ _ _ (by simp)).trans (heap_alloc_new w _)
  have h2 : W.heap[w.heap.size + 1]? = some (.cells #[.int .i64 b1, .int .i64 b2, .int .i64 b3, .int .i64 b4] 26 (0, 0)) := by
    rw [hW]
    have := heap_alloc_new (w.alloc (.cells #[.int .i64 a1, .int .i64 a2, .int .i64 a3, .int .i64 a4] 26)) (.cells #[.int .i64 b1, .int .i64 b2, .int .i64 b3, .int .i64 b4] 26)
    simpa using this
  have FB : Hid (∀ V, Below W.heap.size W V → V.heap[w.heap.size]? = some (.cells #[.int .i64 a1, .int .i64 a2, .int .i64 a3, .int .i64 a4] 26 (0, 0)) ∧ V.heap[w.heap.size + 1]? = some (.cells #[.int .i64 b1, .int .i64 b2, .int .i64 b3, .int .i64 b4] 26 (0, 0))) := Lib.hid (fun V hV => ⟨(hV.block _ (by omega)).trans h1, (hV.block _ (by omega)).trans h2⟩)
  have HBW := Lib.hid hbW
  obtain ⟨v1, hv1⟩ : ∃ b, b = validR ⟨a1, a2, a3, a4⟩ := ⟨_, rfl⟩
  obtain ⟨v2, hv2⟩ : ∃ b, b = validR ⟨b1, b2, b3, b4⟩ := ⟨_, rfl⟩
  obtain ⟨v3, hv3⟩ : ∃ b, b = ovlP a1 a2 b1 b2 := ⟨_, rfl⟩
  obtain ⟨v4, hv4⟩ : ∃ b, b = ovlP a3 a4 b3 b4 := ⟨_, rfl⟩
  have K1 := regValid_any a1 a2 a3 a4 W
  have K2 := fun V => regValid_any b1 b2 b3 b4 V
  have K3 := fun V => perOvl_any a1 a2 b1 b2 V
  have K4 := fun V => perOvl_any a3 a4 b3 b4 V
  rw [← hv1] at K1
  rw [← hv2] at K2
  rw [← hv3] at K3
  rw [← hv4] at K4
  have HR : Hid (ovlR ⟨a1, a2, a3, a4⟩ ⟨b1, b2, b3, b4⟩ = (v1 && (v2 && (v3 && v4)))) := Lib.hid (by rw [ovlR, hv1, hv2, hv3, hv4])
  clear h1 h2 hbW hv1 hv2 hv3 hv4
  rw [HR.out]
  go_enter Tryz.func44, Tryz.ntmps44
  go_wp2_with fail
  rw [← hW]
  clear hW
  (with_reducible refine K1.mono ?_)
  rintro _ w1 ⟨rfl, hb1⟩
  have HB1 := Lib.hid hb1
  have p0 : w1.cell? ⟨w.heap.size, 0, none⟩ = some (.int .i64 a1) := cell_of_row w1 _ 0 _ _ _ ((FB.out w1 hb1).1)
  have p1 : w1.cell? ⟨w.heap.size, 1, none⟩ = some (.int .i64 a2) := cell_of_row w1 _ 1 _ _ _ ((FB.out w1 hb1).1)
  have p2 : w1.cell? ⟨w.heap.size, 2, none⟩ = some (.int .i64 a3) := cell_of_row w1 _ 2 _ _ _ ((FB.out w1 hb1).1)
  have p3 : w1.cell? ⟨w.heap.size, 3, none⟩ = some (.int .i64 a4) := cell_of_row w1 _ 3 _ _ _ ((FB.out w1 hb1).1)
  have q0 : w1.cell? ⟨w.heap.size + 1, 0, none⟩ = some (.int .i64 b1) := cell_of_row w1 _ 0 _ _ _ ((FB.out w1 hb1).2)
  have q1 : w1.cell? ⟨w.heap.size + 1, 1, none⟩ = some (.int .i64 b2) := cell_of_row w1 _ 1 _ _ _ ((FB.out w1 hb1).2)
  have q2 : w1.cell? ⟨w.heap.size + 1, 2, none⟩ = some (.int .i64 b3) := cell_of_row w1 _ 2 _ _ _ ((FB.out w1 hb1).2)
  have q3 : w1.cell? ⟨w.heap.size + 1, 3, none⟩ = some (.int .i64 b4) := cell_of_row w1 _ 3 _ _ _ ((FB.out w1 hb1).2)
  clear hb1 K1
  cases v1
  case false =>
    go_wp2_with fail
    go_ret
    exact ⟨rfl, HBW.out.trans (HB1.out.mono (by omega))⟩
  case true =>
    have K2 := K2 w1
    go_wp2_with fail
    (with_reducible refine K2.mono ?_)
    rintro _ w2 ⟨rfl, hb2⟩
    have HB2 : Hid (Below W.heap.size W w2) := Lib.hid (HB1.out.trans (hb2.mono HB1.out.size))
    clear hb2 K2 p0 p1 p2 p3 q0 q1 q2 q3
    have p0 : w2.cell? ⟨w.heap.size, 0, none⟩ = some (.int .i64 a1) := cell_of_row w2 _ 0 _ _ _ ((FB.out w2 HB2.out).1)
    have p1 : w2.cell? ⟨w.heap.size, 1, none⟩ = some (.int .i64 a2) := cell_of_row w2 _ 1 _ _ _ ((FB.out w2 HB2.out).1)
    have p2 : w2.cell? ⟨w.heap.size, 2, none⟩ = some (.int .i64 a3) := cell_of_row w2 _ 2 _ _ _ ((FB.out w2 HB2.out).1)
    have p3 : w2.cell? ⟨w.heap.size, 3, none⟩ = some (.int .i64 a4) := cell_of_row w2 _ 3 _ _ _ ((FB.out w2 HB2.out).1)
    have q0 : w2.cell? ⟨w.heap.size + 1, 0, none⟩ = some (.int .i64 b1) := cell_of_row w2 _ 0 _ _ _ ((FB.out w2 HB2.out).2)
    have q1 : w2.cell? ⟨w.heap.size + 1, 1, none⟩ = some (.int .i64 b2) := cell_of_row w2 _ 1 _ _ _ ((FB.out w2 HB2.out).2)
    have q2 : w2.cell? ⟨w.heap.size + 1, 2, none⟩ = some (.int .i64 b3) := cell_of_row w2 _ 2 _ _ _ ((FB.out w2 HB2.out).2)
    have q3 : w2.cell? ⟨w.heap.size + 1, 3, none⟩ = some (.int .i64 b4) := cell_of_row w2 _ 3 _ _ _ ((FB.out w2 HB2.out).2)
    cases v2
    case false =>
      go_wp2_with fail
      go_ret
      exact ⟨rfl, HBW.out.trans (HB2.out.mono (by omega))⟩
    case true =>
      have K3 := K3 w2
      go_wp2_with fail
      (with_reducible refine K3.mono ?_)
      rintro _ w3 ⟨rfl, hb3⟩
      have HB3 : Hid (Below W.heap.size W w3) := Lib.hid (HB2.out.trans (hb3.mono HB2.out.size))
      clear hb3 K3 p0 p1 p2 p3 q0 q1 q2 q3
      have p0 : w3.cell? ⟨w.heap.size, 0, none⟩ = some (.int .i64 a1) := cell_of_row w3 _ 0 _ _ _ ((FB.out w3 HB3.out).1)
      have p1 : w3.cell? ⟨w.heap.size, 1, none⟩ = some (.int .i64 a2) := cell_of_row w3 _ 1 _ _ _ ((FB.out w3 HB3.out).1)
      have p2 : w3.cell? ⟨w.heap.size, 2, none⟩ = some (.int .i64 a3) := cell_of_row w3 _ 2 _ _ _ ((FB.out w3 HB3.out).1)
      have p3 : w3.cell? ⟨w.heap.size, 3, none⟩ = some (.int .i64 a4) := cell_of_row w3 _ 3 _ _ _ ((FB.out w3 HB3.out).1)
      have q0 : w3.cell? ⟨w.heap.size + 1, 0, none⟩ = some (.int .i64 b1) := cell_of_row w3 _ 0 _ _ _ ((FB.out w3 HB3.out).2)
      have q1 : w3.cell? ⟨w.heap.size + 1, 1, none⟩ = some (.int .i64 b2) := cell_of_row w3 _ 1 _ _ _ ((FB.out w3 HB3.out).2)
      have q2 : w3.cell? ⟨w.heap.size + 1, 2, none⟩ = some (.int .i64 b3) := cell_of_row w3 _ 2 _ _ _ ((FB.out w3 HB3.out).2)
      have q3 : w3.cell? ⟨w.heap.size + 1, 3, none⟩ = some (.int .i64 b4) := cell_of_row w3 _ 3 _ _ _ ((FB.out w3 HB3.out).2)
      cases v3
      case false =>
        go_wp2_with fail
        go_ret
        exact ⟨rfl, HBW.out.trans (HB3.out.mono (by omega))⟩
      case true =>
        have K4 := K4 w3
        go_wp2_with fail
        (with_reducible refine K4.mono ?_)
        rintro _ w4 ⟨rfl, hb4⟩
        have HB4 : Hid (Below w.heap.size w w4) := Lib.hid (HBW.out.trans ((HB3.out.trans (hb4.mono HB3.out.size)).mono (by omega)))
        clear hb4 K4 p0 p1 p2 p3 q0 q1 q2 q3
        go_wp2_with fail
        go_ret
        exact ⟨by simp, HB4.out⟩
end Go.Proofs.YtacjiocffbgkkaaGreat
