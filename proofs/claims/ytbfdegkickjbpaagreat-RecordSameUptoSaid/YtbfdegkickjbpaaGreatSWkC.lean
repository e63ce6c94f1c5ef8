/-
 WkC
-/
import Derived.Test.YtbfdegkickjbpaaGreatSWkB
namespace Go.Proofs.YtbfdegkickjbpaaGreat
open Go.RowKit Go.Lib Go.IntWalk Go.Sort Go.Shelf
example : encI 1 = [2] := by decide
example : encI 5 = [10] := by decide
example : encI 0 = [0] := by decide
example : rdI [2, 10, 10, 2, 0, 0, 0, 0, 0, 0] (0, 0) = (1, 1, 0) := by decide
example : rdI [2, 10, 10, 2, 0, 0, 0, 0, 0, 0] (9, 0) = (0, 10, 0) := by decide
theorem pv35_any (f t : Int) (w : World) : Calls Tryz.prog 134 #[.agg #[.int .i64 f, .int .i64 t]] w fun e w' => e = .returned (.bool (validP f t)) ∧ Below w.heap.size w w' :=
 (periodValid_any f t w).mono fun e w' ⟨h1, h2⟩ => ⟨h1, by rw [← h2]; exact Below.of_alloc _⟩
theorem within_yes (n a b : Int) (w : World) (h : a ≤ n ∧ n ≤ b) : Calls Tryz.prog 31 #[.int .i64 n, .int .i64 a, .int .i64 b] w fun e w' => e = .returned (.bool true) ∧ w' = w := by
 have k := within_any n a b w
 rw [decide_eq_true h] at k
 exact k
theorem within_no (n a b : Int) (w : World) (h : ¬ (a ≤ n ∧ n ≤ b)) : Calls Tryz.prog 31 #[.int .i64 n, .int .i64 a, .int .i64 b] w fun e w' => e = .returned (.bool false) ∧ w' = w := by
 have k := within_any n a b w
 rw [decide_eq_false h] at k
 exact k
set_option maxRecDepth 1000000 in
set_option maxHeartbeats 4000000 in
theorem cdOpen (S : ByteArray) (O : Nat) (xA : Option Addr) (xn xc : Nat) (f t : Int) (xs : List Val) (first : Int) (w : World) (hO : w.heap[O]? = some (.cells #[.slice xA xn xc, .int .i64 f, .int .i64 t] 68 (0, 0))) (hx : RdV w (· < w.heap.size) (.slice xA xn xc) xs) (hok : ∀ x ∈ xs, goV x) (hv : validRowF xs = true) (hp : validP f t = true) :
  Calls Tryz.prog 34 #[.agg #[.string S, .slice none 0 0, .slice (some ⟨O, 0, none⟩) 1 1], .int .i64 first] w fun e w' => e = .returned (.int .i64 0) ∧ Below w.heap.size w w' := by
 obtain ⟨W, hW⟩ : ∃ W, W = w.alloc (.cells #[.string S, .slice none 0 0, .slice (some ⟨O, 0, none⟩) 1 1] 63) := ⟨_, rfl⟩
 have hbW : Below w.heap.size w W := by rw [hW]; exact Below.of_alloc _
 have hOl := (Array.getElem?_eq_some_iff.1 hO).1
 have hWT : W.heap[w.heap.size]? = some (.cells #[.string S, .slice none 0 0, .slice (some ⟨O, 0, none⟩) 1 1] 63 (0, 0)) := by rw [hW]; exact heap_alloc_new _ _
 have hOW := (hbW.block O hOl).trans hO
 obtain ⟨W1, hW1⟩ : ∃ W1, W1 = W.alloc (.cells #[.slice xA xn xc, .int .i64 f, .int .i64 t] 68) := ⟨_, rfl⟩
 have hb1 : Below W.heap.size W W1 := by rw [hW1]; exact Below.of_alloc _
 have hF1 : W1.heap[W.heap.size]? = some (.cells #[.slice xA xn xc, .int .i64 f, .int .i64 t] 68 (0, 0)) := by rw [hW1]; exact heap_alloc_new _ _
 have hs1 : W.heap.size < W1.heap.size := by rw [hW1]; simp
 have hbw1 : Below w.heap.size w W1 := hbW.trans (hb1.mono hbW.size)
 have KR : Calls Tryz.prog 133 #[.slice xA xn xc] W1 fun e w' => e = .returned (.bool true) ∧ Below W1.heap.size W1 w' := by
  have k := validRow_any _ xs W1 ((Rd.keep hx (Keeps.below hbw1)).wide (fun b (hb : b < w.heap.size) => by show b < W1.heap.size; have := hbw1.size; omega)) hok
  rw [hv] at k
  exact k
 have KP : ∀ V, Calls Tryz.prog 134 #[.agg #[.int .i64 f, .int .i64 t]] V fun e w' => e = .returned (.bool true) ∧ Below V.heap.size V w' := fun V => by
  have k := pv35_any f t V
  rw [hp] at k
  exact k
 have d0 : W.cell? ⟨w.heap.size, 0, none⟩ = some (.string S) := cell_of_row W _ 0 _ _ _ hWT
 have d1 : W.cell? ⟨w.heap.size, 1, none⟩ = some (.slice none 0 0) := cell_of_row W _ 1 _ _ _ hWT
 have d2 : W.cell? ⟨w.heap.size, 2, none⟩ = some (.slice (some ⟨O, 0, none⟩) 1 1) := cell_of_row W _ 2 _ _ _ hWT
 have g0 : W.cell? ⟨O, 0, none⟩ = some (.slice xA xn xc) := cell_of_row W _ 0 _ _ _ hOW
 have g1 : W.cell? ⟨O, 1, none⟩ = some (.int .i64 f) := cell_of_row W _ 1 _ _ _ hOW
 have g2 : W.cell? ⟨O, 2, none⟩ = some (.int .i64 t) := cell_of_row W _ 2 _ _ _ hOW
 have HF1 := Lib.hid hF1
 have HS1 := Lib.hid hs1
 have HBW := Lib.hid hbW
 have HB1 := Lib.hid hb1
 clear hO hx hok hv hp hbW hWT hOW hb1 hF1 hs1 hbw1 hOl
 go_enter Tryz.func34, Tryz.ntmps34
 go_wp2_with fail
 rw [← hW]
 clear hW
 go_loopw [12] (fun i wr => i = .int .i64 0 ∧ wr = W) (fun _ _ => 0)
 case atStart => exact ⟨rfl, rfl⟩
 case round =>
  obtain ⟨rfl, hw⟩ := hrel
  rw [hw]
  clear hw
  go_wp2_with fail
  go_loopw [38] (fun i wr => (i = .int .i64 0 ∧ wr = W) ∨ (i = .int .i64 1 ∧ Below w.heap.size w wr)) (fun i _ => 1 - (intOf i).toNat)
  case atStart => exact .inl ⟨rfl, rfl⟩
  case round =>
   rcases hrel with ⟨rfl, hw⟩ | ⟨rfl, hB⟩
   ·rw [hw]
    clear hw
    go_wp2_with fail
    rw [← hW1]
    clear hW1
    (with_reducible refine KR.mono ?_)
    rintro _ w2 ⟨rfl, hb2⟩
    have hF2 := (hb2.block W.heap.size HS1.out).trans HF1.out
    have q1 : w2.cell? ⟨W.heap.size, 1, none⟩ = some (.int .i64 f) := cell_of_row w2 _ 1 _ _ _ hF2
    have q2 : w2.cell? ⟨W.heap.size, 2, none⟩ = some (.int .i64 t) := cell_of_row w2 _ 2 _ _ _ hF2
    have HB2 : Hid (Below w.heap.size w w2) := Lib.hid (HBW.out.trans ((HB1.out.trans (hb2.mono HB1.out.size)).mono HBW.out.size))
    have KP := KP w2
    clear hb2 hF2 KR
    go_wp2_with fail
    (with_reducible refine KP.mono ?_)
    rintro _ w3 ⟨rfl, hb3⟩
    have HB3 : Hid (Below w.heap.size w w3) := Lib.hid (HB2.out.trans (hb3.mono HB2.out.size))
    clear hb3 KP q1 q2
    go_wp2_with fail
    go_roundw
    case rel => exact .inr ⟨by go_num, HB3.out⟩
    case measure => simp [intOf]
   ·have HB := Lib.hid hB
    clear hB
    go_wp2_with fail
    go_ret
    exact ⟨rfl, HB.out⟩
set_option maxRecDepth 1000000 in
set_option maxHeartbeats 4000000 in
theorem cdClose (S : ByteArray) (C : Nat) (w : World) (hC : w.heap[C]? = some (.cells #[.int .i64 4] 3 (0, 0))) :
  Calls Tryz.prog 34 #[.agg #[.string S, .slice (some ⟨C, 0, none⟩) 1 1, .slice none 0 0], .int .i64 4] w fun e w' => e = .returned (.int .i64 6) ∧ Below w.heap.size w w' := by
 obtain ⟨W, hW⟩ : ∃ W, W = w.alloc (.cells #[.string S, .slice (some ⟨C, 0, none⟩) 1 1, .slice none 0 0] 63) := ⟨_, rfl⟩
 have hbW : Below w.heap.size w W := by rw [hW]; exact Below.of_alloc _
 have hCl := (Array.getElem?_eq_some_iff.1 hC).1
 have hWT : W.heap[w.heap.size]? = some (.cells #[.string S, .slice (some ⟨C, 0, none⟩) 1 1, .slice none 0 0] 63 (0, 0)) := by rw [hW]; exact heap_alloc_new _ _
 have hCW := (hbW.block C hCl).trans hC
 have g0 : W.cell? ⟨C, 0, none⟩ = some (.int .i64 4) := cell_of_row W _ 0 _ _ _ hCW
 have KW := within_no 4 1 3 W (by omega)
 have d0 : W.cell? ⟨w.heap.size, 0, none⟩ = some (.string S) := cell_of_row W _ 0 _ _ _ hWT
 have d1 : W.cell? ⟨w.heap.size, 1, none⟩ = some (.slice (some ⟨C, 0, none⟩) 1 1) := cell_of_row W _ 1 _ _ _ hWT
 have d2 : W.cell? ⟨w.heap.size, 2, none⟩ = some (.slice none 0 0) := cell_of_row W _ 2 _ _ _ hWT
 have HBW := Lib.hid hbW
 clear hC hbW hWT hCW hCl
 go_enter Tryz.func34, Tryz.ntmps34
 go_wp2_with fail
 rw [← hW]
 clear hW
 go_loopw [12] (fun i wr => i = .int .i64 0 ∧ wr = W) (fun _ _ => 0)
 case atStart => exact ⟨rfl, rfl⟩
 case round =>
  obtain ⟨rfl, hw⟩ := hrel
  rw [hw]
  clear hw
  go_wp2_with fail
  (with_reducible refine KW.mono ?_)
  rintro _ w1 ⟨rfl, hw⟩
  rw [hw]
  clear hw w1 KW
  go_wp2_with fail
  go_ret
  exact ⟨rfl, HBW.out⟩
set_option maxRecDepth 1000000 in
set_option maxHeartbeats 8000000 in
theorem chkNil  (w : World)  : Calls Tryz.prog 11 #[.agg #[.int .i64 1, .int .i64 5, .int .i64 5, .int .i64 1, .slice none 0 0, .slice none 0 0, .slice none 0 0, .slice none 0 0, .slice none 0 0, .slice none 0 0]] w fun e w' => e = .returned (.int .i64 0) ∧ Below w.heap.size w w' := by
 obtain ⟨W, hW⟩ : ∃ W, W = w.alloc (.cells #[.int .i64 1, .int .i64 5, .int .i64 5, .int .i64 1, .slice none 0 0, .slice none 0 0, .slice none 0 0, .slice none 0 0, .slice none 0 0, .slice none 0 0] 29) := ⟨_, rfl⟩
 have hbW : Below w.heap.size w W := by rw [hW]; exact Below.of_alloc _
 have hWs : w.heap.size < W.heap.size := by rw [hW]; simp
 have hT : W.heap[w.heap.size]? = some (.cells #[.int .i64 1, .int .i64 5, .int .i64 5, .int .i64 1, .slice none 0 0, .slice none 0 0, .slice none 0 0, .slice none 0 0, .slice none 0 0, .slice none 0 0] 29 (0, 0)) := by rw [hW]; exact heap_alloc_new _ _
 have HBW := Lib.hid hbW
 have HWS := Lib.hid hWs
 have HT := Lib.hid hT
 have K1 := within_yes 1 1 1125899906842624 W (by omega)
 have K2 := within_yes 1 1 1125899906842624 W (by omega)
 have K3 := within_yes 5 1 1099511627775 W (by omega)
 have K4 := within_yes 5 0 5 W (by omega)
 have c0 : W.cell? ⟨w.heap.size, 0, none⟩ = some (.int .i64 1) := cell_of_row W _ 0 _ _ _ hT
 have c1 : W.cell? ⟨w.heap.size, 1, none⟩ = some (.int .i64 5) := cell_of_row W _ 1 _ _ _ hT
 have c2 : W.cell? ⟨w.heap.size, 2, none⟩ = some (.int .i64 5) := cell_of_row W _ 2 _ _ _ hT
 have c3 : W.cell? ⟨w.heap.size, 3, none⟩ = some (.int .i64 1) := cell_of_row W _ 3 _ _ _ hT
 have c4 : W.cell? ⟨w.heap.size, 4, none⟩ = some (.slice none 0 0) := cell_of_row W _ 4 _ _ _ hT
 have c5 : W.cell? ⟨w.heap.size, 5, none⟩ = some (.slice none 0 0) := cell_of_row W _ 5 _ _ _ hT
 have c6 : W.cell? ⟨w.heap.size, 6, none⟩ = some (.slice none 0 0) := cell_of_row W _ 6 _ _ _ hT
 have c7 : W.cell? ⟨w.heap.size, 7, none⟩ = some (.slice none 0 0) := cell_of_row W _ 7 _ _ _ hT
 have c8 : W.cell? ⟨w.heap.size, 8, none⟩ = some (.slice none 0 0) := cell_of_row W _ 8 _ _ _ hT
 have c9 : W.cell? ⟨w.heap.size, 9, none⟩ = some (.slice none 0 0) := cell_of_row W _ 9 _ _ _ hT
 clear hbW hWs hT
 go_enter Tryz.func11, Tryz.ntmps11
 go_wp2_with fail
 rw [← hW]
 clear hW
 (with_reducible refine K1.mono ?_)
 rintro _ w1 ⟨rfl, hw⟩
 rw [hw]
 clear hw w1 K1
 go_wp2_with fail
 (with_reducible refine K2.mono ?_)
 rintro _ w1 ⟨rfl, hw⟩
 rw [hw]
 clear hw w1 K2
 go_wp2_with fail
 (with_reducible refine K3.mono ?_)
 rintro _ w1 ⟨rfl, hw⟩
 rw [hw]
 clear hw w1 K3
 go_wp2_with fail
 (with_reducible refine K4.mono ?_)
 rintro _ w1 ⟨rfl, hw⟩
 rw [hw]
 clear hw w1 K4
 go_wp2_with fail
 go_loopw [37] (fun i wr => i = .int .i64 0 ∧ wr = W) (fun _ _ => 0)
 case atStart => exact ⟨rfl, rfl⟩
 case round =>
  obtain ⟨rfl, hw⟩ := hrel
  rw [hw]
  clear hw
  go_wp2_with fail
  go_loopw [55] (fun i wr => i = .int .i64 0 ∧ wr = W) (fun _ _ => 0)
  case atStart => exact ⟨rfl, rfl⟩
  case round =>
   obtain ⟨rfl, hw⟩ := hrel
   rw [hw]
   clear hw
   have HBF := HBW
   go_wp2_with fail
   (with_reducible refine (checkHolds0 _).mono ?_)
   rintro _ z1 ⟨rfl, hw⟩
   rw [hw]
   clear hw z1
   go_wp2_with fail
   (with_reducible refine (named0Str _).mono ?_)
   rintro _ z1 ⟨rfl, hw⟩
   rw [hw]
   clear hw z1
   go_wp2_with fail
   (with_reducible refine (checkRest0 _).mono ?_)
   rintro _ z1 ⟨rfl, hw⟩
   rw [hw]
   clear hw z1
   go_wp2_with fail
   go_ret
   exact ⟨rfl, HBF.out⟩
set_option maxRecDepth 1000000 in
set_option maxHeartbeats 8000000 in
theorem chkOpen (S : ByteArray) (D O : Nat) (xA : Option Addr) (xn xc : Nat) (f t : Int) (xs : List Val) (w : World) (hS : nmW S.data.toList = true) (hD : w.heap[D]? = some (.cells #[.string S, .slice none 0 0, .slice (some ⟨O, 0, none⟩) 1 1] 63 (0, 0))) (hO : w.heap[O]? = some (.cells #[.slice xA xn xc, .int .i64 f, .int .i64 t] 68 (0, 0))) (hx : RdV w (· < w.heap.size) (.slice xA xn xc) xs) (hok : ∀ x ∈ xs, goV x) (hv : validRowF xs = true) (hp : validP f t = true) : Calls Tryz.prog 11 #[.agg #[.int .i64 1, .int .i64 5, .int .i64 5, .int .i64 1, .slice none 0 0, .slice (some ⟨D, 0, none⟩) 1 1, .slice none 0 0, .slice none 0 0, .slice none 0 0, .slice none 0 0]] w fun e w' => e = .returned (.int .i64 0) ∧ Below w.heap.size w w' := by
 obtain ⟨W, hW⟩ : ∃ W, W = w.alloc (.cells #[.int .i64 1, .int .i64 5, .int .i64 5, .int .i64 1, .slice none 0 0, .slice (some ⟨D, 0, none⟩) 1 1, .slice none 0 0, .slice none 0 0, .slice none 0 0, .slice none 0 0] 29) := ⟨_, rfl⟩
 have hbW : Below w.heap.size w W := by rw [hW]; exact Below.of_alloc _
 have hWs : w.heap.size < W.heap.size := by rw [hW]; simp
 have hT : W.heap[w.heap.size]? = some (.cells #[.int .i64 1, .int .i64 5, .int .i64 5, .int .i64 1, .slice none 0 0, .slice (some ⟨D, 0, none⟩) 1 1, .slice none 0 0, .slice none 0 0, .slice none 0 0, .slice none 0 0] 29 (0, 0)) := by rw [hW]; exact heap_alloc_new _ _
 have HBW := Lib.hid hbW
 have HWS := Lib.hid hWs
 have HT := Lib.hid hT
 have K1 := within_yes 1 1 1125899906842624 W (by omega)
 have K2 := within_yes 1 1 1125899906842624 W (by omega)
 have K3 := within_yes 5 1 1099511627775 W (by omega)
 have K4 := within_yes 5 0 5 W (by omega)
 have c0 : W.cell? ⟨w.heap.size, 0, none⟩ = some (.int .i64 1) := cell_of_row W _ 0 _ _ _ hT
 have c1 : W.cell? ⟨w.heap.size, 1, none⟩ = some (.int .i64 5) := cell_of_row W _ 1 _ _ _ hT
 have c2 : W.cell? ⟨w.heap.size, 2, none⟩ = some (.int .i64 5) := cell_of_row W _ 2 _ _ _ hT
 have c3 : W.cell? ⟨w.heap.size, 3, none⟩ = some (.int .i64 1) := cell_of_row W _ 3 _ _ _ hT
 have c4 : W.cell? ⟨w.heap.size, 4, none⟩ = some (.slice none 0 0) := cell_of_row W _ 4 _ _ _ hT
 have c5 : W.cell? ⟨w.heap.size, 5, none⟩ = some (.slice (some ⟨D, 0, none⟩) 1 1) := cell_of_row W _ 5 _ _ _ hT
 have c6 : W.cell? ⟨w.heap.size, 6, none⟩ = some (.slice none 0 0) := cell_of_row W _ 6 _ _ _ hT
 have c7 : W.cell? ⟨w.heap.size, 7, none⟩ = some (.slice none 0 0) := cell_of_row W _ 7 _ _ _ hT
 have c8 : W.cell? ⟨w.heap.size, 8, none⟩ = some (.slice none 0 0) := cell_of_row W _ 8 _ _ _ hT
 have c9 : W.cell? ⟨w.heap.size, 9, none⟩ = some (.slice none 0 0) := cell_of_row W _ 9 _ _ _ hT
 have hDl := (Array.getElem?_eq_some_iff.1 hD).1
 have hDW := (hbW.block D hDl).trans hD
 have g0 : W.cell? ⟨D, 0, none⟩ = some (.string S) := cell_of_row W _ 0 _ _ _ hDW
 have g1 : W.cell? ⟨D, 1, none⟩ = some (.slice none 0 0) := cell_of_row W _ 1 _ _ _ hDW
 have g2 : W.cell? ⟨D, 2, none⟩ = some (.slice (some ⟨O, 0, none⟩) 1 1) := cell_of_row W _ 2 _ _ _ hDW
 obtain ⟨W1, hW1⟩ : ∃ W1, W1 = W.alloc (.cells #[.string S, .slice none 0 0, .slice (some ⟨O, 0, none⟩) 1 1] 63) := ⟨_, rfl⟩
 have hb1 : Below W.heap.size W W1 := by rw [hW1]; exact Below.of_alloc _
 have hF1 : W1.heap[W.heap.size]? = some (.cells #[.string S, .slice none 0 0, .slice (some ⟨O, 0, none⟩) 1 1] 63 (0, 0)) := by rw [hW1]; exact heap_alloc_new _ _
 have HS1 : Hid (W.heap.size < W1.heap.size) := Lib.hid (by rw [hW1]; simp)
 have HF1 := Lib.hid hF1
 have HB1 := Lib.hid hb1
 have hbw1 : Below w.heap.size w W1 := hbW.trans (hb1.mono hbW.size)
 have KN : Calls Tryz.prog 33 #[.string S] W1 fun e w' => e = .returned (.bool true) ∧ Below W1.heap.size W1 w' := by
  have k := recWord_any S.data.toList W1
  rw [hS, strB_list] at k
  exact k
 have KD : ∀ V, Below w.heap.size w V → Calls Tryz.prog 34 #[.agg #[.string S, .slice none 0 0, .slice (some ⟨O, 0, none⟩) 1 1], .int .i64 1] V fun e w' => e = .returned (.int .i64 0) ∧ Below V.heap.size V w' := fun V hV => cdOpen S O xA xn xc f t xs 1 V ((hV.block O (Array.getElem?_eq_some_iff.1 hO).1).trans hO) ((Rd.keep hx (Keeps.below hV)).wide (fun b (hb : b < w.heap.size) => by show b < V.heap.size; have := hV.size; omega)) hok hv hp
 have HKD := Lib.hid KD
 clear KD hO hx hok hv hp
 clear hS hD hDl hDW hb1 hF1 hbw1
 clear hbW hWs hT
 go_enter Tryz.func11, Tryz.ntmps11
 go_wp2_with fail
 rw [← hW]
 clear hW
 (with_reducible refine K1.mono ?_)
 rintro _ w1 ⟨rfl, hw⟩
 rw [hw]
 clear hw w1 K1
 go_wp2_with fail
 (with_reducible refine K2.mono ?_)
 rintro _ w1 ⟨rfl, hw⟩
 rw [hw]
 clear hw w1 K2
 go_wp2_with fail
 (with_reducible refine K3.mono ?_)
 rintro _ w1 ⟨rfl, hw⟩
 rw [hw]
 clear hw w1 K3
 go_wp2_with fail
 (with_reducible refine K4.mono ?_)
 rintro _ w1 ⟨rfl, hw⟩
 rw [hw]
 clear hw w1 K4
 go_wp2_with fail
 go_loopw [37] (fun i wr => i = .int .i64 0 ∧ wr = W) (fun _ _ => 0)
 case atStart => exact ⟨rfl, rfl⟩
 case round =>
  obtain ⟨rfl, hw⟩ := hrel
  rw [hw]
  clear hw
  go_wp2_with fail
  go_loopw [55] (fun i wr => (i = .int .i64 0 ∧ wr = W) ∨ (i = .int .i64 1 ∧ Below w.heap.size w wr ∧ wr.heap[w.heap.size]? = some (.cells #[.int .i64 1, .int .i64 5, .int .i64 5, .int .i64 1, .slice none 0 0, .slice (some ⟨D, 0, none⟩) 1 1, .slice none 0 0, .slice none 0 0, .slice none 0 0, .slice none 0 0] 29 (0, 0)))) (fun i _ => 1 - (intOf i).toNat)
  case atStart => exact .inl ⟨rfl, rfl⟩
  case round =>
   rcases hrel with ⟨rfl, hw⟩ | ⟨rfl, hB, hT⟩
   ·rw [hw]
    clear hw
    go_upto_region 12 with (fail)
    rw [← hW1]
    clear hW1 g0 g1 g2 c0 c1 c2 c3 c4 c5 c6 c7 c8 c9
    have q0 : W1.cell? ⟨W.heap.size, 0, none⟩ = some (.string S) := cell_of_row W1 _ 0 _ _ _ HF1.out
    go_wp2_with fail
    (with_reducible refine KN.mono ?_)
    rintro _ w2 ⟨rfl, hb2⟩
    have hF2 := (hb2.block W.heap.size HS1.out).trans HF1.out
    have hB1w : Below W.heap.size W w2 := HB1.out.trans (hb2.mono HB1.out.size)
    have hT2 := (hB1w.block w.heap.size HWS.out).trans HT.out
    have HB2 : Hid (Below w.heap.size w w2) := Lib.hid (HBW.out.trans (hB1w.mono HBW.out.size))
    have p0 : w2.cell? ⟨W.heap.size, 0, none⟩ = some (.string S) := cell_of_row w2 _ 0 _ _ _ hF2
    have p1 : w2.cell? ⟨W.heap.size, 1, none⟩ = some (.slice none 0 0) := cell_of_row w2 _ 1 _ _ _ hF2
    have p2 : w2.cell? ⟨W.heap.size, 2, none⟩ = some (.slice (some ⟨O, 0, none⟩) 1 1) := cell_of_row w2 _ 2 _ _ _ hF2
    have c3 : w2.cell? ⟨w.heap.size, 3, none⟩ = some (.int .i64 1) := cell_of_row w2 _ 3 _ _ _ hT2
    have HT2 := Lib.hid hT2
    have HL2 : Hid (w.heap.size < w2.heap.size) := Lib.hid (Array.getElem?_eq_some_iff.1 hT2).1
    clear hb2 hF2 KN q0 hB1w hT2
    go_upto_region 14 with (fail)
    refine wp_region_noPanic ?_
    refine wp_region_held_drew (S := (fun w' => w' = w2.drew)) (by kernel_rfl) ?_ (fun hHeld => ?_)
    ·rfl
    refine heldTake 0 (some 74) (v := ?_) rfl rfl (by kernel_rfl) (by kernel_rfl) (by kernel_rfl) (by rfl) hHeld (fun _ _ _ h => h) ?_ ?_
    rotate_left
    ·intro w' hSw; (try dsimp only at hSw); go_simp <;> with_reducible rfl
    simp only [Act.put, List.setIfInBounds_toArray, List.set_cons_zero, List.set_cons_succ]
    refine heldTake 1 (some 75) (v := ?_) rfl rfl (by kernel_rfl) (by kernel_rfl) (by kernel_rfl) (by rfl) hHeld (fun _ _ _ h => h) ?_ ?_
    rotate_left
    ·intro w' hSw; (try dsimp only at hSw); go_simp <;> with_reducible rfl
    simp only [Act.put, List.setIfInBounds_toArray, List.set_cons_zero, List.set_cons_succ]
    refine heldTake 2 (some 76) (v := ?_) rfl rfl (by kernel_rfl) (by kernel_rfl) (by kernel_rfl) (by rfl) hHeld (fun _ _ _ h => h) ?_ ?_
    rotate_left
    ·intro w' hSw; (try dsimp only at hSw); go_simp <;> with_reducible rfl
    simp only [Act.put, List.setIfInBounds_toArray, List.set_cons_zero, List.set_cons_succ]
    refine heldSkip 3 (some 77) rfl rfl (by kernel_rfl) (by kernel_rfl) (by kernel_rfl) (by rfl) hHeld (fun _ _ _ h => h) ?_
    simp only [Act.put, List.setIfInBounds_toArray, List.set_cons_zero, List.set_cons_succ]
    refine heldSkip 4 (some 78) rfl rfl (by kernel_rfl) (by kernel_rfl) (by kernel_rfl) (by rfl) hHeld (fun _ _ _ h => h) ?_
    simp only [Act.put, List.setIfInBounds_toArray, List.set_cons_zero, List.set_cons_succ]
    refine heldSkip 5 (some 79) rfl rfl (by kernel_rfl) (by kernel_rfl) (by kernel_rfl) (by rfl) hHeld (fun _ _ _ h => h) ?_
    simp only [Act.put, List.setIfInBounds_toArray, List.set_cons_zero, List.set_cons_succ]
    refine heldSkip 6 (some 80) rfl rfl (by kernel_rfl) (by kernel_rfl) (by kernel_rfl) (by rfl) hHeld (fun _ _ _ h => h) ?_
    simp only [Act.put, List.setIfInBounds_toArray, List.set_cons_zero, List.set_cons_succ]
    refine heldSkip 7 (some 81) rfl rfl (by kernel_rfl) (by kernel_rfl) (by kernel_rfl) (by rfl) hHeld (fun _ _ _ h => h) ?_
    simp only [Act.put, List.setIfInBounds_toArray, List.set_cons_zero, List.set_cons_succ]
    refine heldSkip 8 (some 82) rfl rfl (by kernel_rfl) (by kernel_rfl) (by kernel_rfl) (by rfl) hHeld (fun _ _ _ h => h) ?_
    simp only [Act.put, List.setIfInBounds_toArray, List.set_cons_zero, List.set_cons_succ]
    refine heldSkip 9 (some 83) rfl rfl (by kernel_rfl) (by kernel_rfl) (by kernel_rfl) (by rfl) hHeld (fun _ _ _ h => h) ?_
    simp only [Act.put, List.setIfInBounds_toArray, List.set_cons_zero, List.set_cons_succ]
    refine heldSkip 10 (some 84) rfl rfl (by kernel_rfl) (by kernel_rfl) (by kernel_rfl) (by rfl) hHeld (fun _ _ _ h => h) ?_
    simp only [Act.put, List.setIfInBounds_toArray, List.set_cons_zero, List.set_cons_succ]
    refine heldSkip 11 (some 85) rfl rfl (by kernel_rfl) (by kernel_rfl) (by kernel_rfl) (by rfl) hHeld (fun _ _ _ h => h) ?_
    simp only [Act.put, List.setIfInBounds_toArray, List.set_cons_zero, List.set_cons_succ]
    refine heldSkip 12 (some 86) rfl rfl (by kernel_rfl) (by kernel_rfl) (by kernel_rfl) (by rfl) hHeld (fun _ _ _ h => h) ?_
    simp only [Act.put, List.setIfInBounds_toArray, List.set_cons_zero, List.set_cons_succ]
    refine heldTake 13 (some 87) (v := ?_) rfl rfl (by kernel_rfl) (by kernel_rfl) (by kernel_rfl) (by rfl) hHeld (fun _ _ _ h => h) ?_ ?_
    rotate_left
    ·intro w' hSw; (try dsimp only at hSw); go_simp <;> with_reducible rfl
    simp only [Act.put, List.setIfInBounds_toArray, List.set_cons_zero, List.set_cons_succ]
    refine wpAnyH_done (by kernel_rfl) ?_ _
    refine NoPanic.normal ?_
    clear hHeld
    have KD := HKD.out _ HB2.out.drew
    go_wp2_with fail
    (with_reducible refine KD.mono ?_)
    rintro _ w3 ⟨rfl, hb3⟩
    have HB3 : Hid (Below w.heap.size w w3) := Lib.hid (HB2.out.trans ((Below.undrew hb3).mono HB2.out.size))
    have HT3 := Lib.hid (((Below.undrew hb3).block w.heap.size HL2.out).trans HT2.out)
    clear hb3 KD p0 p1 p2 c3
    go_wp2_with fail
    go_roundw
    case rel => exact .inr ⟨by go_num, HB3.out, HT3.out⟩
    case measure => simp [intOf]
   ·have HBF := Lib.hid hB
    have HTF := Lib.hid hT
    clear hB hT g0 g1 g2 c0 c1 c2 c3 c4 c5 c6 c7 c8 c9
    have c0 : wr.cell? ⟨w.heap.size, 0, none⟩ = some (.int .i64 1) := cell_of_row wr _ 0 _ _ _ HTF.out
    have c1 : wr.cell? ⟨w.heap.size, 1, none⟩ = some (.int .i64 5) := cell_of_row wr _ 1 _ _ _ HTF.out
    have c2 : wr.cell? ⟨w.heap.size, 2, none⟩ = some (.int .i64 5) := cell_of_row wr _ 2 _ _ _ HTF.out
    have c3 : wr.cell? ⟨w.heap.size, 3, none⟩ = some (.int .i64 1) := cell_of_row wr _ 3 _ _ _ HTF.out
    have c4 : wr.cell? ⟨w.heap.size, 4, none⟩ = some (.slice none 0 0) := cell_of_row wr _ 4 _ _ _ HTF.out
    have c5 : wr.cell? ⟨w.heap.size, 5, none⟩ = some (.slice (some ⟨D, 0, none⟩) 1 1) := cell_of_row wr _ 5 _ _ _ HTF.out
    have c6 : wr.cell? ⟨w.heap.size, 6, none⟩ = some (.slice none 0 0) := cell_of_row wr _ 6 _ _ _ HTF.out
    have c7 : wr.cell? ⟨w.heap.size, 7, none⟩ = some (.slice none 0 0) := cell_of_row wr _ 7 _ _ _ HTF.out
    have c8 : wr.cell? ⟨w.heap.size, 8, none⟩ = some (.slice none 0 0) := cell_of_row wr _ 8 _ _ _ HTF.out
    have c9 : wr.cell? ⟨w.heap.size, 9, none⟩ = some (.slice none 0 0) := cell_of_row wr _ 9 _ _ _ HTF.out
    go_wp2_with fail
    (with_reducible refine (checkHolds0 _).mono ?_)
    rintro _ z1 ⟨rfl, hw⟩
    rw [hw]
    clear hw z1
    go_wp2_with fail
    (with_reducible refine (named0Str _).mono ?_)
    rintro _ z1 ⟨rfl, hw⟩
    rw [hw]
    clear hw z1
    go_wp2_with fail
    (with_reducible refine (checkRest0 _).mono ?_)
    rintro _ z1 ⟨rfl, hw⟩
    rw [hw]
    clear hw z1
    go_wp2_with fail
    go_ret
    exact ⟨rfl, HBF.out⟩
set_option maxRecDepth 1000000 in
set_option maxHeartbeats 8000000 in
theorem chkClose (S : ByteArray) (D C : Nat) (w : World) (hS : nmW S.data.toList = true) (hD : w.heap[D]? = some (.cells #[.string S, .slice (some ⟨C, 0, none⟩) 1 1, .slice none 0 0] 63 (0, 0))) (hC : w.heap[C]? = some (.cells #[.int .i64 4] 3 (0, 0))) : Calls Tryz.prog 11 #[.agg #[.int .i64 1, .int .i64 5, .int .i64 5, .int .i64 4, .slice none 0 0, .slice (some ⟨D, 0, none⟩) 1 1, .slice none 0 0, .slice none 0 0, .slice none 0 0, .slice none 0 0]] w fun e w' => e = .returned (.int .i64 6) ∧ Below w.heap.size w w' := by
 obtain ⟨W, hW⟩ : ∃ W, W = w.alloc (.cells #[.int .i64 1, .int .i64 5, .int .i64 5, .int .i64 4, .slice none 0 0, .slice (some ⟨D, 0, none⟩) 1 1, .slice none 0 0, .slice none 0 0, .slice none 0 0, .slice none 0 0] 29) := ⟨_, rfl⟩
 have hbW : Below w.heap.size w W := by rw [hW]; exact Below.of_alloc _
 have hWs : w.heap.size < W.heap.size := by rw [hW]; simp
 have hT : W.heap[w.heap.size]? = some (.cells #[.int .i64 1, .int .i64 5, .int .i64 5, .int .i64 4, .slice none 0 0, .slice (some ⟨D, 0, none⟩) 1 1, .slice none 0 0, .slice none 0 0, .slice none 0 0, .slice none 0 0] 29 (0, 0)) := by rw [hW]; exact heap_alloc_new _ _
 have HBW := Lib.hid hbW
 have HWS := Lib.hid hWs
 have HT := Lib.hid hT
 have K1 := within_yes 1 1 1125899906842624 W (by omega)
 have K2 := within_yes 4 1 1125899906842624 W (by omega)
 have K3 := within_yes 5 1 1099511627775 W (by omega)
 have K4 := within_yes 5 0 5 W (by omega)
 have c0 : W.cell? ⟨w.heap.size, 0, none⟩ = some (.int .i64 1) := cell_of_row W _ 0 _ _ _ hT
 have c1 : W.cell? ⟨w.heap.size, 1, none⟩ = some (.int .i64 5) := cell_of_row W _ 1 _ _ _ hT
 have c2 : W.cell? ⟨w.heap.size, 2, none⟩ = some (.int .i64 5) := cell_of_row W _ 2 _ _ _ hT
 have c3 : W.cell? ⟨w.heap.size, 3, none⟩ = some (.int .i64 4) := cell_of_row W _ 3 _ _ _ hT
 have c4 : W.cell? ⟨w.heap.size, 4, none⟩ = some (.slice none 0 0) := cell_of_row W _ 4 _ _ _ hT
 have c5 : W.cell? ⟨w.heap.size, 5, none⟩ = some (.slice (some ⟨D, 0, none⟩) 1 1) := cell_of_row W _ 5 _ _ _ hT
 have c6 : W.cell? ⟨w.heap.size, 6, none⟩ = some (.slice none 0 0) := cell_of_row W _ 6 _ _ _ hT
 have c7 : W.cell? ⟨w.heap.size, 7, none⟩ = some (.slice none 0 0) := cell_of_row W _ 7 _ _ _ hT
 have c8 : W.cell? ⟨w.heap.size, 8, none⟩ = some (.slice none 0 0) := cell_of_row W _ 8 _ _ _ hT
 have c9 : W.cell? ⟨w.heap.size, 9, none⟩ = some (.slice none 0 0) := cell_of_row W _ 9 _ _ _ hT
 have hDl := (Array.getElem?_eq_some_iff.1 hD).1
 have hDW := (hbW.block D hDl).trans hD
 have g0 : W.cell? ⟨D, 0, none⟩ = some (.string S) := cell_of_row W _ 0 _ _ _ hDW
 have g1 : W.cell? ⟨D, 1, none⟩ = some (.slice (some ⟨C, 0, none⟩) 1 1) := cell_of_row W _ 1 _ _ _ hDW
 have g2 : W.cell? ⟨D, 2, none⟩ = some (.slice none 0 0) := cell_of_row W _ 2 _ _ _ hDW
 obtain ⟨W1, hW1⟩ : ∃ W1, W1 = W.alloc (.cells #[.string S, .slice (some ⟨C, 0, none⟩) 1 1, .slice none 0 0] 63) := ⟨_, rfl⟩
 have hb1 : Below W.heap.size W W1 := by rw [hW1]; exact Below.of_alloc _
 have hF1 : W1.heap[W.heap.size]? = some (.cells #[.string S, .slice (some ⟨C, 0, none⟩) 1 1, .slice none 0 0] 63 (0, 0)) := by rw [hW1]; exact heap_alloc_new _ _
 have HS1 : Hid (W.heap.size < W1.heap.size) := Lib.hid (by rw [hW1]; simp)
 have HF1 := Lib.hid hF1
 have HB1 := Lib.hid hb1
 have hbw1 : Below w.heap.size w W1 := hbW.trans (hb1.mono hbW.size)
 have KN : Calls Tryz.prog 33 #[.string S] W1 fun e w' => e = .returned (.bool true) ∧ Below W1.heap.size W1 w' := by
  have k := recWord_any S.data.toList W1
  rw [hS, strB_list] at k
  exact k
 have KD : ∀ V, Below w.heap.size w V → Calls Tryz.prog 34 #[.agg #[.string S, .slice (some ⟨C, 0, none⟩) 1 1, .slice none 0 0], .int .i64 4] V fun e w' => e = .returned (.int .i64 6) ∧ Below V.heap.size V w' := fun V hV => cdClose S C V ((hV.block C (Array.getElem?_eq_some_iff.1 hC).1).trans hC)
 have HKD := Lib.hid KD
 clear KD hC
 clear hS hD hDl hDW hb1 hF1 hbw1
 clear hbW hWs hT
 go_enter Tryz.func11, Tryz.ntmps11
 go_wp2_with fail
 rw [← hW]
 clear hW
 (with_reducible refine K1.mono ?_)
 rintro _ w1 ⟨rfl, hw⟩
 rw [hw]
 clear hw w1 K1
 go_wp2_with fail
 (with_reducible refine K2.mono ?_)
 rintro _ w1 ⟨rfl, hw⟩
 rw [hw]
 clear hw w1 K2
 go_wp2_with fail
 (with_reducible refine K3.mono ?_)
 rintro _ w1 ⟨rfl, hw⟩
 rw [hw]
 clear hw w1 K3
 go_wp2_with fail
 (with_reducible refine K4.mono ?_)
 rintro _ w1 ⟨rfl, hw⟩
 rw [hw]
 clear hw w1 K4
 go_wp2_with fail
 go_loopw [37] (fun i wr => i = .int .i64 0 ∧ wr = W) (fun _ _ => 0)
 case atStart => exact ⟨rfl, rfl⟩
 case round =>
  obtain ⟨rfl, hw⟩ := hrel
  rw [hw]
  clear hw
  go_wp2_with fail
  go_loopw [55] (fun i wr => i = .int .i64 0 ∧ wr = W) (fun _ _ => 0)
  case atStart => exact ⟨rfl, rfl⟩
  case round =>
   obtain ⟨rfl, hw⟩ := hrel
   ·rw [hw]
    clear hw
    go_upto_region 12 with (fail)
    rw [← hW1]
    clear hW1 g0 g1 g2 c0 c1 c2 c3 c4 c5 c6 c7 c8 c9
    have q0 : W1.cell? ⟨W.heap.size, 0, none⟩ = some (.string S) := cell_of_row W1 _ 0 _ _ _ HF1.out
    go_wp2_with fail
    (with_reducible refine KN.mono ?_)
    rintro _ w2 ⟨rfl, hb2⟩
    have hF2 := (hb2.block W.heap.size HS1.out).trans HF1.out
    have hB1w : Below W.heap.size W w2 := HB1.out.trans (hb2.mono HB1.out.size)
    have hT2 := (hB1w.block w.heap.size HWS.out).trans HT.out
    have HB2 : Hid (Below w.heap.size w w2) := Lib.hid (HBW.out.trans (hB1w.mono HBW.out.size))
    have p0 : w2.cell? ⟨W.heap.size, 0, none⟩ = some (.string S) := cell_of_row w2 _ 0 _ _ _ hF2
    have p1 : w2.cell? ⟨W.heap.size, 1, none⟩ = some (.slice (some ⟨C, 0, none⟩) 1 1) := cell_of_row w2 _ 1 _ _ _ hF2
    have p2 : w2.cell? ⟨W.heap.size, 2, none⟩ = some (.slice none 0 0) := cell_of_row w2 _ 2 _ _ _ hF2
    have c3 : w2.cell? ⟨w.heap.size, 3, none⟩ = some (.int .i64 4) := cell_of_row w2 _ 3 _ _ _ hT2
    have HT2 := Lib.hid hT2
    have HL2 : Hid (w.heap.size < w2.heap.size) := Lib.hid (Array.getElem?_eq_some_iff.1 hT2).1
    clear hb2 hF2 KN q0 hB1w hT2
    go_upto_region 14 with (fail)
    refine wp_region_noPanic ?_
    refine wp_region_held_drew (S := (fun w' => w' = w2.drew)) (by kernel_rfl) ?_ (fun hHeld => ?_)
    ·rfl
    refine heldTake 0 (some 74) (v := ?_) rfl rfl (by kernel_rfl) (by kernel_rfl) (by kernel_rfl) (by rfl) hHeld (fun _ _ _ h => h) ?_ ?_
    rotate_left
    ·intro w' hSw; (try dsimp only at hSw); go_simp <;> with_reducible rfl
    simp only [Act.put, List.setIfInBounds_toArray, List.set_cons_zero, List.set_cons_succ]
    refine heldTake 1 (some 75) (v := ?_) rfl rfl (by kernel_rfl) (by kernel_rfl) (by kernel_rfl) (by rfl) hHeld (fun _ _ _ h => h) ?_ ?_
    rotate_left
    ·intro w' hSw; (try dsimp only at hSw); go_simp <;> with_reducible rfl
    simp only [Act.put, List.setIfInBounds_toArray, List.set_cons_zero, List.set_cons_succ]
    refine heldTake 2 (some 76) (v := ?_) rfl rfl (by kernel_rfl) (by kernel_rfl) (by kernel_rfl) (by rfl) hHeld (fun _ _ _ h => h) ?_ ?_
    rotate_left
    ·intro w' hSw; (try dsimp only at hSw); go_simp <;> with_reducible rfl
    simp only [Act.put, List.setIfInBounds_toArray, List.set_cons_zero, List.set_cons_succ]
    refine heldSkip 3 (some 77) rfl rfl (by kernel_rfl) (by kernel_rfl) (by kernel_rfl) (by rfl) hHeld (fun _ _ _ h => h) ?_
    simp only [Act.put, List.setIfInBounds_toArray, List.set_cons_zero, List.set_cons_succ]
    refine heldSkip 4 (some 78) rfl rfl (by kernel_rfl) (by kernel_rfl) (by kernel_rfl) (by rfl) hHeld (fun _ _ _ h => h) ?_
    simp only [Act.put, List.setIfInBounds_toArray, List.set_cons_zero, List.set_cons_succ]
    refine heldSkip 5 (some 79) rfl rfl (by kernel_rfl) (by kernel_rfl) (by kernel_rfl) (by rfl) hHeld (fun _ _ _ h => h) ?_
    simp only [Act.put, List.setIfInBounds_toArray, List.set_cons_zero, List.set_cons_succ]
    refine heldSkip 6 (some 80) rfl rfl (by kernel_rfl) (by kernel_rfl) (by kernel_rfl) (by rfl) hHeld (fun _ _ _ h => h) ?_
    simp only [Act.put, List.setIfInBounds_toArray, List.set_cons_zero, List.set_cons_succ]
    refine heldSkip 7 (some 81) rfl rfl (by kernel_rfl) (by kernel_rfl) (by kernel_rfl) (by rfl) hHeld (fun _ _ _ h => h) ?_
    simp only [Act.put, List.setIfInBounds_toArray, List.set_cons_zero, List.set_cons_succ]
    refine heldSkip 8 (some 82) rfl rfl (by kernel_rfl) (by kernel_rfl) (by kernel_rfl) (by rfl) hHeld (fun _ _ _ h => h) ?_
    simp only [Act.put, List.setIfInBounds_toArray, List.set_cons_zero, List.set_cons_succ]
    refine heldSkip 9 (some 83) rfl rfl (by kernel_rfl) (by kernel_rfl) (by kernel_rfl) (by rfl) hHeld (fun _ _ _ h => h) ?_
    simp only [Act.put, List.setIfInBounds_toArray, List.set_cons_zero, List.set_cons_succ]
    refine heldSkip 10 (some 84) rfl rfl (by kernel_rfl) (by kernel_rfl) (by kernel_rfl) (by rfl) hHeld (fun _ _ _ h => h) ?_
    simp only [Act.put, List.setIfInBounds_toArray, List.set_cons_zero, List.set_cons_succ]
    refine heldSkip 11 (some 85) rfl rfl (by kernel_rfl) (by kernel_rfl) (by kernel_rfl) (by rfl) hHeld (fun _ _ _ h => h) ?_
    simp only [Act.put, List.setIfInBounds_toArray, List.set_cons_zero, List.set_cons_succ]
    refine heldSkip 12 (some 86) rfl rfl (by kernel_rfl) (by kernel_rfl) (by kernel_rfl) (by rfl) hHeld (fun _ _ _ h => h) ?_
    simp only [Act.put, List.setIfInBounds_toArray, List.set_cons_zero, List.set_cons_succ]
    refine heldTake 13 (some 87) (v := ?_) rfl rfl (by kernel_rfl) (by kernel_rfl) (by kernel_rfl) (by rfl) hHeld (fun _ _ _ h => h) ?_ ?_
    rotate_left
    ·intro w' hSw; (try dsimp only at hSw); go_simp <;> with_reducible rfl
    simp only [Act.put, List.setIfInBounds_toArray, List.set_cons_zero, List.set_cons_succ]
    refine wpAnyH_done (by kernel_rfl) ?_ _
    refine NoPanic.normal ?_
    clear hHeld
    have KD := HKD.out _ HB2.out.drew
    go_wp2_with fail
    (with_reducible refine KD.mono ?_)
    rintro _ w3 ⟨rfl, hb3⟩
    have HB3 : Hid (Below w.heap.size w w3) := Lib.hid (HB2.out.trans ((Below.undrew hb3).mono HB2.out.size))
    have HT3 := Lib.hid (((Below.undrew hb3).block w.heap.size HL2.out).trans HT2.out)
    clear hb3 KD p0 p1 p2 c3
    go_wp2_with fail
    go_ret
    exact ⟨rfl, HB3.out⟩
end Go.Proofs.YtbfdegkickjbpaaGreat
