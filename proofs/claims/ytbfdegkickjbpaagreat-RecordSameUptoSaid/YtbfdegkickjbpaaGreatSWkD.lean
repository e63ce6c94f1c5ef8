/-
 WkD
-/
import Derived.Test.YtbfdegkickjbpaaGreatSWkC
namespace Go.Proofs.YtbfdegkickjbpaaGreat
open Go.RowKit Go.Lib Go.IntWalk Go.Sort Go.Shelf
def xs7 : List Val := [⟨1, 7, ⟨#[]⟩⟩]
theorem xs7_go : ∀ x ∈ xs7, goV x := by
 intro x hx
 rw [xs7, List.mem_singleton] at hx
 subst hx
 unfold goV maxLen
 decide
theorem xs7_valid : validRowF xs7 = true := by decide
theorem xs7_put : (∀ x ∈ xs7, putV x) ∧ (encR xs7).length ≤ 2446 := valid_all (by have := xs7_valid; unfold validRowF at this; exact this) xs7_go
def EncO (l : List UInt8) (w0 : World) (e : Ending) (w : World) : Prop := ∃ u, e = .returned (.tuple #[u, .int .i64 0]) ∧ RdB w (fun b => w0.heap.size ≤ b ∧ b < w.heap.size) u l ∧ Below w0.heap.size w0 w
set_option maxRecDepth 1000000 in
set_option maxHeartbeats 8000000 in
theorem encNil  (w : World)  : Calls Tryz.prog 14 #[.agg #[.int .i64 1, .int .i64 5, .int .i64 5, .int .i64 1, .slice none 0 0, .slice none 0 0, .slice none 0 0, .slice none 0 0, .slice none 0 0, .slice none 0 0]] w (EncO [2, 10, 10, 2, 0, 0, 0, 0, 0, 0] w) := by
 obtain ⟨W, hW⟩ : ∃ W, W = w.alloc (.cells #[.int .i64 1, .int .i64 5, .int .i64 5, .int .i64 1, .slice none 0 0, .slice none 0 0, .slice none 0 0, .slice none 0 0, .slice none 0 0, .slice none 0 0] 29) := ⟨_, rfl⟩
 have hbW : Below w.heap.size w W := by rw [hW]; exact Below.of_alloc _
 have hWs : w.heap.size < W.heap.size := by rw [hW]; simp
 have hT : W.heap[w.heap.size]? = some (.cells #[.int .i64 1, .int .i64 5, .int .i64 5, .int .i64 1, .slice none 0 0, .slice none 0 0, .slice none 0 0, .slice none 0 0, .slice none 0 0, .slice none 0 0] 29 (0, 0)) := by rw [hW]; exact heap_alloc_new _ _
 have HBW := Lib.hid hbW
 have HWS := Lib.hid hWs
 have HT := Lib.hid hT
 have KC := chkNil W
 have c0 : W.cell? ⟨w.heap.size, 0, none⟩ = some (.int .i64 1) := cell_of_row W _ 0 _ _ _ hT
 have c1 : W.cell? ⟨w.heap.size, 1, none⟩ = some (.int .i64 5) := cell_of_row W _ 1 _ _ _ hT
 have c2 : W.cell? ⟨w.heap.size, 2, none⟩ = some (.int .i64 5) := cell_of_row W _ 2 _ _ _ hT
 have c3 : W.cell? ⟨w.heap.size, 3, none⟩ = some (.int .i64 1) := cell_of_row W _ 3 _ _ _ hT
 have c4 : W.cell? ⟨w.heap.size, 4, none⟩ = some (.slice none 0 0) := cell_of_row W _ 4 _ _ _ hT
 have c5 : W.cell? ⟨w.heap.size, 5, none⟩ = some (.slice none 0 0) := cell_of_row W _ 5 _ _ _ hT
 have c6 : W.cell? ⟨w.heap.size, 6, none⟩ = some (.slice none 0 0) := cell_of_row W _ 6 _ _ _ hT
 have c7 : W.cell? ⟨w.heap.size, 7, none⟩ = some (.slice none 0 0) := cell_of_row W _ 7 _ _ _ hT
 have c8 : W.cell? ⟨w.heap.size, 8, none⟩ = some (.slice none 0 0) := cell_of_row W _ 8 _ _ _ hT
 have c9 : W.cell? ⟨w.heap.size, 9, none⟩ = some (.slice none 0 0) := cell_of_row W _ 9 _ _ _ hT
 clear hbW hWs hT
 go_enter Tryz.func14, Tryz.ntmps14
 go_wp2_with fail
 rw [← hW]
 clear hW
 (with_reducible refine KC.mono ?_)
 rintro _ w1 ⟨rfl, hb1⟩
 have HB1 : Hid (Below w.heap.size w w1) := Lib.hid (HBW.out.trans (hb1.mono HBW.out.size))
 have hT1 := (hb1.block w.heap.size HWS.out).trans HT.out
 have hwB : w.heap.size < w1.heap.size := by have := hb1.size; have := HWS.out; omega
 clear hb1 KC c0 c1 c2 c3 c4 c5 c6 c7 c8 c9
 obtain ⟨B, hBe⟩ : ∃ B, B = w1.heap.size := ⟨_, rfl⟩
 obtain ⟨W2, hW2⟩ : ∃ W2, W2 = w1.alloc (.cells #[.slice none 0 0] 97) := ⟨_, rfl⟩
 have hb2 : Below w1.heap.size w1 W2 := by rw [hW2]; exact Below.of_alloc _
 have hs2 : W2.heap.size = B + 1 := by rw [hW2, hBe]; simp
 have hA2 : BufAt W2 B B [] := ⟨.slice none 0 0, by rw [hW2, hBe]; exact heap_alloc_new _ _, OwnB.nil _ _⟩
 obtain ⟨W3, hW3⟩ : ∃ W3, W3 = W2.alloc (.cells #[.int .i64 1, .int .i64 5, .int .i64 5, .int .i64 1] 3) := ⟨_, rfl⟩
 have hb3 : Below W2.heap.size W2 W3 := by rw [hW3]; exact Below.of_alloc _
 have hN3 : W3.heap[B + 1]? = some (.cells #[.int .i64 1, .int .i64 5, .int .i64 5, .int .i64 1] 3 (0, 0)) := by rw [hW3, ← hs2]; exact heap_alloc_new _ _
 have hs3 : W3.heap.size = B + 2 := by rw [hW3]; simp [hs2]
 have HA3 := Lib.hid (hA2.below hb3)
 have HN3 := Lib.hid hN3
 have hb13 : Below w1.heap.size w1 W3 := hb2.trans (hb3.mono hb2.size)
 have HB3 : Hid (Below w.heap.size w W3) := Lib.hid (HB1.out.trans (hb13.mono HB1.out.size))
 have HT3 := Lib.hid ((hb13.block w.heap.size hwB).trans hT1)
 have HWB : Hid (w.heap.size < B) := Lib.hid (by rw [hBe]; exact hwB)
 have HS3 := Lib.hid hs3
 have hT2 := (hb2.block w.heap.size hwB).trans hT1
 have c0 : W2.cell? ⟨w.heap.size, 0, none⟩ = some (.int .i64 1) := cell_of_row W2 _ 0 _ _ _ hT2
 have c1 : W2.cell? ⟨w.heap.size, 1, none⟩ = some (.int .i64 5) := cell_of_row W2 _ 1 _ _ _ hT2
 have c2 : W2.cell? ⟨w.heap.size, 2, none⟩ = some (.int .i64 5) := cell_of_row W2 _ 2 _ _ _ hT2
 have c3 : W2.cell? ⟨w.heap.size, 3, none⟩ = some (.int .i64 1) := cell_of_row W2 _ 3 _ _ _ hT2
 have c4 : W2.cell? ⟨w.heap.size, 4, none⟩ = some (.slice none 0 0) := cell_of_row W2 _ 4 _ _ _ hT2
 have c5 : W2.cell? ⟨w.heap.size, 5, none⟩ = some (.slice none 0 0) := cell_of_row W2 _ 5 _ _ _ hT2
 have c6 : W2.cell? ⟨w.heap.size, 6, none⟩ = some (.slice none 0 0) := cell_of_row W2 _ 6 _ _ _ hT2
 have c7 : W2.cell? ⟨w.heap.size, 7, none⟩ = some (.slice none 0 0) := cell_of_row W2 _ 7 _ _ _ hT2
 have c8 : W2.cell? ⟨w.heap.size, 8, none⟩ = some (.slice none 0 0) := cell_of_row W2 _ 8 _ _ _ hT2
 have c9 : W2.cell? ⟨w.heap.size, 9, none⟩ = some (.slice none 0 0) := cell_of_row W2 _ 9 _ _ _ hT2
 clear hb2 hA2 hb3 hN3 hb13 hT1 hT2 hwB hs3
 go_upto_region 5 with (fail)
 rw [← hW2, ← hBe]
 clear hW2 hBe
 go_wp2_with fail
 rw [← hW3]
 clear hW3 hs2 c0 c1 c2 c3 c4 c5 c6 c7 c8 c9
 go_loopw [25] (fun i wr => ∃ k : Nat, i = .int .i64 (k : Int) ∧ k ≤ 4 ∧ Hid (BufAt wr B B (([2, 10, 10, 2] : List UInt8).take k)) ∧ Hid (Below B W3 wr) ∧ Hid (KeepO B W3 wr)) (fun i _ => 4 - (intOf i).toNat)
 case atStart => exact ⟨0, rfl, by omega, HA3, Lib.hid (Below.refl _ _), Lib.hid (KeepO.refl _ _)⟩
 case round =>
  obtain ⟨k, rfl, hk, HA, HB, HK⟩ := hrel
  obtain ⟨wo, rfl⟩ : ∃ wo : World, wo = wr := ⟨_, rfl⟩
  have hNo := (HK.out.2 (B + 1) (by have := HS3.out; omega) (by omega) (by intro cur; rw [HN3.out]; simp)).trans HN3.out
  obtain rfl | rfl | rfl | rfl | rfl : k = 0 ∨ k = 1 ∨ k = 2 ∨ k = 3 ∨ k = 4 := by omega
  ·have g : wo.cell? ⟨B + 1, 0, none⟩ = some (.int .i64 1) := cell_of_row wo _ 0 _ _ _ hNo
   have KI := bufInt_any B B _ 1 wo (Nat.le_refl _) HA.out (by omega) (by omega) (by decide)
   clear hNo
   go_wp2_with fail
   (with_reducible refine KI.mono ?_)
   rintro _ w2 ⟨rfl, hA2, hb2, hk2⟩
   have HA2 : Hid (BufAt w2 B B (([2, 10, 10, 2] : List UInt8).take 1)) := Lib.hid hA2
   have HB2 : Hid (Below B W3 w2) := Lib.hid (HB.out.trans hb2)
   have HK2 : Hid (KeepO B W3 w2) := Lib.hid (HK.out.trans hk2)
   clear hA2 hb2 hk2 KI g
   go_wp2_with fail
   go_roundw
   case rel => exact ⟨1, by go_num, by omega, HA2, HB2, HK2⟩
   case measure => simp [intOf]
  ·have g : wo.cell? ⟨B + 1, 1, none⟩ = some (.int .i64 5) := cell_of_row wo _ 1 _ _ _ hNo
   have KI := bufInt_any B B _ 5 wo (Nat.le_refl _) HA.out (by omega) (by omega) (by decide)
   clear hNo
   go_wp2_with fail
   (with_reducible refine KI.mono ?_)
   rintro _ w2 ⟨rfl, hA2, hb2, hk2⟩
   have HA2 : Hid (BufAt w2 B B (([2, 10, 10, 2] : List UInt8).take 2)) := Lib.hid hA2
   have HB2 : Hid (Below B W3 w2) := Lib.hid (HB.out.trans hb2)
   have HK2 : Hid (KeepO B W3 w2) := Lib.hid (HK.out.trans hk2)
   clear hA2 hb2 hk2 KI g
   go_wp2_with fail
   go_roundw
   case rel => exact ⟨2, by go_num, by omega, HA2, HB2, HK2⟩
   case measure => simp [intOf]
  ·have g : wo.cell? ⟨B + 1, 2, none⟩ = some (.int .i64 5) := cell_of_row wo _ 2 _ _ _ hNo
   have KI := bufInt_any B B _ 5 wo (Nat.le_refl _) HA.out (by omega) (by omega) (by decide)
   clear hNo
   go_wp2_with fail
   (with_reducible refine KI.mono ?_)
   rintro _ w2 ⟨rfl, hA2, hb2, hk2⟩
   have HA2 : Hid (BufAt w2 B B (([2, 10, 10, 2] : List UInt8).take 3)) := Lib.hid hA2
   have HB2 : Hid (Below B W3 w2) := Lib.hid (HB.out.trans hb2)
   have HK2 : Hid (KeepO B W3 w2) := Lib.hid (HK.out.trans hk2)
   clear hA2 hb2 hk2 KI g
   go_wp2_with fail
   go_roundw
   case rel => exact ⟨3, by go_num, by omega, HA2, HB2, HK2⟩
   case measure => simp [intOf]
  ·have g : wo.cell? ⟨B + 1, 3, none⟩ = some (.int .i64 1) := cell_of_row wo _ 3 _ _ _ hNo
   have KI := bufInt_any B B _ 1 wo (Nat.le_refl _) HA.out (by omega) (by omega) (by decide)
   clear hNo
   go_wp2_with fail
   (with_reducible refine KI.mono ?_)
   rintro _ w2 ⟨rfl, hA2, hb2, hk2⟩
   have HA2 : Hid (BufAt w2 B B (([2, 10, 10, 2] : List UInt8).take 4)) := Lib.hid hA2
   have HB2 : Hid (Below B W3 w2) := Lib.hid (HB.out.trans hb2)
   have HK2 : Hid (KeepO B W3 w2) := Lib.hid (HK.out.trans hk2)
   clear hA2 hb2 hk2 KI g
   go_wp2_with fail
   go_roundw
   case rel => exact ⟨4, by go_num, by omega, HA2, HB2, HK2⟩
   case measure => simp [intOf]
  ·clear hNo
   have HA0 : Hid (BufAt wo B B [2, 10, 10, 2]) := HA
   clear HA
   have KP := put0Entry B B [2, 10, 10, 2] wo (Nat.le_refl _) HA0.out (by decide)
   have hTc := (HB.out.block w.heap.size HWB.out).trans HT3.out
   have c4 : wo.cell? ⟨w.heap.size, 4, none⟩ = some (.slice none 0 0) := cell_of_row wo _ 4 _ _ _ hTc
   clear hTc
   go_wp2_with fail
   (with_reducible refine KP.mono ?_)
   rintro _ y1 ⟨rfl, hA2, hb2, hk2⟩
   have HA1 : Hid (BufAt y1 B B [2, 10, 10, 2, 0]) := Lib.hid hA2
   have HBq1 : Hid (Below B W3 y1) := Lib.hid (HB.out.trans hb2)
   clear hA2 hb2 hk2 KP c4
   have KP := put0Delta B B [2, 10, 10, 2, 0] y1 (Nat.le_refl _) HA1.out (by decide)
   have hTc := (HBq1.out.block w.heap.size HWB.out).trans HT3.out
   have c5 : y1.cell? ⟨w.heap.size, 5, none⟩ = some (.slice none 0 0) := cell_of_row y1 _ 5 _ _ _ hTc
   clear hTc
   go_wp2_with fail
   (with_reducible refine KP.mono ?_)
   rintro _ y2 ⟨rfl, hA2, hb2, hk2⟩
   have HA2 : Hid (BufAt y2 B B [2, 10, 10, 2, 0, 0]) := Lib.hid hA2
   have HB2 : Hid (Below B W3 y2) := Lib.hid (HBq1.out.trans hb2)
   clear hA2 hb2 hk2 KP c5
   have KP := put0Hold B B [2, 10, 10, 2, 0, 0] y2 (Nat.le_refl _) HA2.out (by decide)
   have hTc := (HB2.out.block w.heap.size HWB.out).trans HT3.out
   have c6 : y2.cell? ⟨w.heap.size, 6, none⟩ = some (.slice none 0 0) := cell_of_row y2 _ 6 _ _ _ hTc
   clear hTc
   go_wp2_with fail
   (with_reducible refine KP.mono ?_)
   rintro _ y3 ⟨rfl, hA2, hb2, hk2⟩
   have HA3 : Hid (BufAt y3 B B [2, 10, 10, 2, 0, 0, 0]) := Lib.hid hA2
   have HBq3 : Hid (Below B W3 y3) := Lib.hid (HB2.out.trans hb2)
   clear hA2 hb2 hk2 KP c6
   have KP := put0Str B B [2, 10, 10, 2, 0, 0, 0] y3 (Nat.le_refl _) HA3.out (by decide)
   have hTc := (HBq3.out.block w.heap.size HWB.out).trans HT3.out
   have c7 : y3.cell? ⟨w.heap.size, 7, none⟩ = some (.slice none 0 0) := cell_of_row y3 _ 7 _ _ _ hTc
   clear hTc
   go_wp2_with fail
   (with_reducible refine KP.mono ?_)
   rintro _ y4 ⟨rfl, hA2, hb2, hk2⟩
   have HA4 : Hid (BufAt y4 B B [2, 10, 10, 2, 0, 0, 0, 0]) := Lib.hid hA2
   have HB4 : Hid (Below B W3 y4) := Lib.hid (HBq3.out.trans hb2)
   clear hA2 hb2 hk2 KP c7
   have KP := put0Policy B B [2, 10, 10, 2, 0, 0, 0, 0] y4 (Nat.le_refl _) HA4.out (by decide)
   have hTc := (HB4.out.block w.heap.size HWB.out).trans HT3.out
   have c8 : y4.cell? ⟨w.heap.size, 8, none⟩ = some (.slice none 0 0) := cell_of_row y4 _ 8 _ _ _ hTc
   clear hTc
   go_wp2_with fail
   (with_reducible refine KP.mono ?_)
   rintro _ y5 ⟨rfl, hA2, hb2, hk2⟩
   have HA5 : Hid (BufAt y5 B B [2, 10, 10, 2, 0, 0, 0, 0, 0]) := Lib.hid hA2
   have HB5 : Hid (Below B W3 y5) := Lib.hid (HB4.out.trans hb2)
   clear hA2 hb2 hk2 KP c8
   have KP := put0Horizon B B [2, 10, 10, 2, 0, 0, 0, 0, 0] y5 (Nat.le_refl _) HA5.out (by decide)
   have hTc := (HB5.out.block w.heap.size HWB.out).trans HT3.out
   have c9 : y5.cell? ⟨w.heap.size, 9, none⟩ = some (.slice none 0 0) := cell_of_row y5 _ 9 _ _ _ hTc
   clear hTc
   go_wp2_with fail
   (with_reducible refine KP.mono ?_)
   rintro _ y6 ⟨rfl, hA2, hb2, hk2⟩
   have HA6 : Hid (BufAt y6 B B [2, 10, 10, 2, 0, 0, 0, 0, 0, 0]) := Lib.hid hA2
   have HB6 : Hid (Below B W3 y6) := Lib.hid (HB5.out.trans hb2)
   clear hA2 hb2 hk2 KP c9
   obtain ⟨v, hB, hO⟩ := HA6.out
   obtain ⟨Av, cv, rfl, x1, x2, x3⟩ := Rd.open_ (Rd.of_own hO)
   have q0 : y6.cell? ⟨B, 0, none⟩ = some (.slice Av 10 cv) := cell_of_row y6 _ 0 _ _ _ hB
   have HO := Lib.hid ((Rd.of_own hO).wide (fun b hb => (⟨by have := hb.1; have := HWB.out; omega, hb.2⟩ : w.heap.size ≤ b ∧ b < y6.heap.size)))
   have HBF : Hid (Below w.heap.size w y6) := Lib.hid (HB3.out.trans (HB6.out.mono (by have := HWB.out; omega)))
   clear hB hO x1 x2 x3
   go_wp2_with fail
   go_ret2
   exact ⟨_, rfl, HO.out, HBF.out⟩
set_option maxRecDepth 1000000 in
set_option maxHeartbeats 8000000 in
theorem encOpen (D O R : Nat) (w : World) (hD : w.heap[D]? = some (.cells #[.string ⟨#[116]⟩, .slice none 0 0, .slice (some ⟨O, 0, none⟩) 1 1] 63 (0, 0))) (hO : w.heap[O]? = some (.cells #[.slice (some ⟨R, 0, none⟩) 1 1, .int .i64 0, .int .i64 3] 68 (0, 0))) (hx : RdV w (· < w.heap.size) (.slice (some ⟨R, 0, none⟩) 1 1) xs7) : Calls Tryz.prog 14 #[.agg #[.int .i64 1, .int .i64 5, .int .i64 5, .int .i64 1, .slice none 0 0, .slice (some ⟨D, 0, none⟩) 1 1, .slice none 0 0, .slice none 0 0, .slice none 0 0, .slice none 0 0]] w (EncO [2, 10, 10, 2, 0, 2, 2, 116, 0, 2, 2, 1, 14, 0, 6, 0, 0, 0, 0] w) := by
 obtain ⟨W, hW⟩ : ∃ W, W = w.alloc (.cells #[.int .i64 1, .int .i64 5, .int .i64 5, .int .i64 1, .slice none 0 0, .slice (some ⟨D, 0, none⟩) 1 1, .slice none 0 0, .slice none 0 0, .slice none 0 0, .slice none 0 0] 29) := ⟨_, rfl⟩
 have hbW : Below w.heap.size w W := by rw [hW]; exact Below.of_alloc _
 have hWs : w.heap.size < W.heap.size := by rw [hW]; simp
 have hT : W.heap[w.heap.size]? = some (.cells #[.int .i64 1, .int .i64 5, .int .i64 5, .int .i64 1, .slice none 0 0, .slice (some ⟨D, 0, none⟩) 1 1, .slice none 0 0, .slice none 0 0, .slice none 0 0, .slice none 0 0] 29 (0, 0)) := by rw [hW]; exact heap_alloc_new _ _
 have HBW := Lib.hid hbW
 have HWS := Lib.hid hWs
 have HT := Lib.hid hT
 have hDl := (Array.getElem?_eq_some_iff.1 hD).1
 have hOl := (Array.getElem?_eq_some_iff.1 hO).1
 have hxW : RdV W (· < W.heap.size) (.slice (some ⟨R, 0, none⟩) 1 1) xs7 := (Rd.keep hx (Keeps.below hbW)).wide (fun b (hb : b < w.heap.size) => by show b < W.heap.size; omega)
 have KC := chkOpen ⟨#[116]⟩ D O (some ⟨R, 0, none⟩) 1 1 0 3 xs7 W (by decide) ((hbW.block D hDl).trans hD) ((hbW.block O hOl).trans hO) hxW xs7_go xs7_valid (by decide)
 have HF := Lib.hid (And.intro hDl (And.intro hOl (And.intro hD (And.intro hO hx))))
 clear hDl hOl hxW hD hO hx
 have c0 : W.cell? ⟨w.heap.size, 0, none⟩ = some (.int .i64 1) := cell_of_row W _ 0 _ _ _ hT
 have c1 : W.cell? ⟨w.heap.size, 1, none⟩ = some (.int .i64 5) := cell_of_row W _ 1 _ _ _ hT
 have c2 : W.cell? ⟨w.heap.size, 2, none⟩ = some (.int .i64 5) := cell_of_row W _ 2 _ _ _ hT
 have c3 : W.cell? ⟨w.heap.size, 3, none⟩ = some (.int .i64 1) := cell_of_row W _ 3 _ _ _ hT
 have c4 : W.cell? ⟨w.heap.size, 4, none⟩ = some (.slice none 0 0) := cell_of_row W _ 4 _ _ _ hT
 have c5 : W.cell? ⟨w.heap.size, 5, none⟩ = some (.slice (some ⟨D, 0, none⟩) 1 1) := cell_of_row W _ 5 _ _ _ hT
 have c6 : W.cell? ⟨w.heap.size, 6, none⟩ = some (.slice none 0 0) := cell_of_row W _ 6 _ _ _ hT
 have c7 : W.cell? ⟨w.heap.size, 7, none⟩ = some (.slice none 0 0) := cell_of_row W _ 7 _ _ _ hT
 have c8 : W.cell? ⟨w.heap.size, 8, none⟩ = some (.slice none 0 0) := cell_of_row W _ 8 _ _ _ hT
 have c9 : W.cell? ⟨w.heap.size, 9, none⟩ = some (.slice none 0 0) := cell_of_row W _ 9 _ _ _ hT
 clear hbW hWs hT
 go_enter Tryz.func14, Tryz.ntmps14
 go_wp2_with fail
 rw [← hW]
 clear hW
 (with_reducible refine KC.mono ?_)
 rintro _ w1 ⟨rfl, hb1⟩
 have HB1 : Hid (Below w.heap.size w w1) := Lib.hid (HBW.out.trans (hb1.mono HBW.out.size))
 have hT1 := (hb1.block w.heap.size HWS.out).trans HT.out
 have hwB : w.heap.size < w1.heap.size := by have := hb1.size; have := HWS.out; omega
 clear hb1 KC c0 c1 c2 c3 c4 c5 c6 c7 c8 c9
 obtain ⟨B, hBe⟩ : ∃ B, B = w1.heap.size := ⟨_, rfl⟩
 obtain ⟨W2, hW2⟩ : ∃ W2, W2 = w1.alloc (.cells #[.slice none 0 0] 97) := ⟨_, rfl⟩
 have hb2 : Below w1.heap.size w1 W2 := by rw [hW2]; exact Below.of_alloc _
 have hs2 : W2.heap.size = B + 1 := by rw [hW2, hBe]; simp
 have hA2 : BufAt W2 B B [] := ⟨.slice none 0 0, by rw [hW2, hBe]; exact heap_alloc_new _ _, OwnB.nil _ _⟩
 obtain ⟨W3, hW3⟩ : ∃ W3, W3 = W2.alloc (.cells #[.int .i64 1, .int .i64 5, .int .i64 5, .int .i64 1] 3) := ⟨_, rfl⟩
 have hb3 : Below W2.heap.size W2 W3 := by rw [hW3]; exact Below.of_alloc _
 have hN3 : W3.heap[B + 1]? = some (.cells #[.int .i64 1, .int .i64 5, .int .i64 5, .int .i64 1] 3 (0, 0)) := by rw [hW3, ← hs2]; exact heap_alloc_new _ _
 have hs3 : W3.heap.size = B + 2 := by rw [hW3]; simp [hs2]
 have HA3 := Lib.hid (hA2.below hb3)
 have HN3 := Lib.hid hN3
 have hb13 : Below w1.heap.size w1 W3 := hb2.trans (hb3.mono hb2.size)
 have HB3 : Hid (Below w.heap.size w W3) := Lib.hid (HB1.out.trans (hb13.mono HB1.out.size))
 have HT3 := Lib.hid ((hb13.block w.heap.size hwB).trans hT1)
 have HWB : Hid (w.heap.size < B) := Lib.hid (by rw [hBe]; exact hwB)
 have HS3 := Lib.hid hs3
 have hT2 := (hb2.block w.heap.size hwB).trans hT1
 have c0 : W2.cell? ⟨w.heap.size, 0, none⟩ = some (.int .i64 1) := cell_of_row W2 _ 0 _ _ _ hT2
 have c1 : W2.cell? ⟨w.heap.size, 1, none⟩ = some (.int .i64 5) := cell_of_row W2 _ 1 _ _ _ hT2
 have c2 : W2.cell? ⟨w.heap.size, 2, none⟩ = some (.int .i64 5) := cell_of_row W2 _ 2 _ _ _ hT2
 have c3 : W2.cell? ⟨w.heap.size, 3, none⟩ = some (.int .i64 1) := cell_of_row W2 _ 3 _ _ _ hT2
 have c4 : W2.cell? ⟨w.heap.size, 4, none⟩ = some (.slice none 0 0) := cell_of_row W2 _ 4 _ _ _ hT2
 have c5 : W2.cell? ⟨w.heap.size, 5, none⟩ = some (.slice (some ⟨D, 0, none⟩) 1 1) := cell_of_row W2 _ 5 _ _ _ hT2
 have c6 : W2.cell? ⟨w.heap.size, 6, none⟩ = some (.slice none 0 0) := cell_of_row W2 _ 6 _ _ _ hT2
 have c7 : W2.cell? ⟨w.heap.size, 7, none⟩ = some (.slice none 0 0) := cell_of_row W2 _ 7 _ _ _ hT2
 have c8 : W2.cell? ⟨w.heap.size, 8, none⟩ = some (.slice none 0 0) := cell_of_row W2 _ 8 _ _ _ hT2
 have c9 : W2.cell? ⟨w.heap.size, 9, none⟩ = some (.slice none 0 0) := cell_of_row W2 _ 9 _ _ _ hT2
 clear hb2 hA2 hb3 hN3 hb13 hT1 hT2 hwB hs3
 go_upto_region 5 with (fail)
 rw [← hW2, ← hBe]
 clear hW2 hBe
 go_wp2_with fail
 rw [← hW3]
 clear hW3 hs2 c0 c1 c2 c3 c4 c5 c6 c7 c8 c9
 go_loopw [25] (fun i wr => ∃ k : Nat, i = .int .i64 (k : Int) ∧ k ≤ 4 ∧ Hid (BufAt wr B B (([2, 10, 10, 2] : List UInt8).take k)) ∧ Hid (Below B W3 wr) ∧ Hid (KeepO B W3 wr)) (fun i _ => 4 - (intOf i).toNat)
 case atStart => exact ⟨0, rfl, by omega, HA3, Lib.hid (Below.refl _ _), Lib.hid (KeepO.refl _ _)⟩
 case round =>
  obtain ⟨k, rfl, hk, HA, HB, HK⟩ := hrel
  obtain ⟨wo, rfl⟩ : ∃ wo : World, wo = wr := ⟨_, rfl⟩
  have hNo := (HK.out.2 (B + 1) (by have := HS3.out; omega) (by omega) (by intro cur; rw [HN3.out]; simp)).trans HN3.out
  obtain rfl | rfl | rfl | rfl | rfl : k = 0 ∨ k = 1 ∨ k = 2 ∨ k = 3 ∨ k = 4 := by omega
  ·have g : wo.cell? ⟨B + 1, 0, none⟩ = some (.int .i64 1) := cell_of_row wo _ 0 _ _ _ hNo
   have KI := bufInt_any B B _ 1 wo (Nat.le_refl _) HA.out (by omega) (by omega) (by decide)
   clear hNo
   go_wp2_with fail
   (with_reducible refine KI.mono ?_)
   rintro _ w2 ⟨rfl, hA2, hb2, hk2⟩
   have HA2 : Hid (BufAt w2 B B (([2, 10, 10, 2] : List UInt8).take 1)) := Lib.hid hA2
   have HB2 : Hid (Below B W3 w2) := Lib.hid (HB.out.trans hb2)
   have HK2 : Hid (KeepO B W3 w2) := Lib.hid (HK.out.trans hk2)
   clear hA2 hb2 hk2 KI g
   go_wp2_with fail
   go_roundw
   case rel => exact ⟨1, by go_num, by omega, HA2, HB2, HK2⟩
   case measure => simp [intOf]
  ·have g : wo.cell? ⟨B + 1, 1, none⟩ = some (.int .i64 5) := cell_of_row wo _ 1 _ _ _ hNo
   have KI := bufInt_any B B _ 5 wo (Nat.le_refl _) HA.out (by omega) (by omega) (by decide)
   clear hNo
   go_wp2_with fail
   (with_reducible refine KI.mono ?_)
   rintro _ w2 ⟨rfl, hA2, hb2, hk2⟩
   have HA2 : Hid (BufAt w2 B B (([2, 10, 10, 2] : List UInt8).take 2)) := Lib.hid hA2
   have HB2 : Hid (Below B W3 w2) := Lib.hid (HB.out.trans hb2)
   have HK2 : Hid (KeepO B W3 w2) := Lib.hid (HK.out.trans hk2)
   clear hA2 hb2 hk2 KI g
   go_wp2_with fail
   go_roundw
   case rel => exact ⟨2, by go_num, by omega, HA2, HB2, HK2⟩
   case measure => simp [intOf]
  ·have g : wo.cell? ⟨B + 1, 2, none⟩ = some (.int .i64 5) := cell_of_row wo _ 2 _ _ _ hNo
   have KI := bufInt_any B B _ 5 wo (Nat.le_refl _) HA.out (by omega) (by omega) (by decide)
   clear hNo
   go_wp2_with fail
   (with_reducible refine KI.mono ?_)
   rintro _ w2 ⟨rfl, hA2, hb2, hk2⟩
   have HA2 : Hid (BufAt w2 B B (([2, 10, 10, 2] : List UInt8).take 3)) := Lib.hid hA2
   have HB2 : Hid (Below B W3 w2) := Lib.hid (HB.out.trans hb2)
   have HK2 : Hid (KeepO B W3 w2) := Lib.hid (HK.out.trans hk2)
   clear hA2 hb2 hk2 KI g
   go_wp2_with fail
   go_roundw
   case rel => exact ⟨3, by go_num, by omega, HA2, HB2, HK2⟩
   case measure => simp [intOf]
  ·have g : wo.cell? ⟨B + 1, 3, none⟩ = some (.int .i64 1) := cell_of_row wo _ 3 _ _ _ hNo
   have KI := bufInt_any B B _ 1 wo (Nat.le_refl _) HA.out (by omega) (by omega) (by decide)
   clear hNo
   go_wp2_with fail
   (with_reducible refine KI.mono ?_)
   rintro _ w2 ⟨rfl, hA2, hb2, hk2⟩
   have HA2 : Hid (BufAt w2 B B (([2, 10, 10, 2] : List UInt8).take 4)) := Lib.hid hA2
   have HB2 : Hid (Below B W3 w2) := Lib.hid (HB.out.trans hb2)
   have HK2 : Hid (KeepO B W3 w2) := Lib.hid (HK.out.trans hk2)
   clear hA2 hb2 hk2 KI g
   go_wp2_with fail
   go_roundw
   case rel => exact ⟨4, by go_num, by omega, HA2, HB2, HK2⟩
   case measure => simp [intOf]
  ·clear hNo
   have HA0 : Hid (BufAt wo B B [2, 10, 10, 2]) := HA
   clear HA
   have KP := put0Entry B B [2, 10, 10, 2] wo (Nat.le_refl _) HA0.out (by decide)
   have hTc := (HB.out.block w.heap.size HWB.out).trans HT3.out
   have c4 : wo.cell? ⟨w.heap.size, 4, none⟩ = some (.slice none 0 0) := cell_of_row wo _ 4 _ _ _ hTc
   clear hTc
   go_wp2_with fail
   (with_reducible refine KP.mono ?_)
   rintro _ y1 ⟨rfl, hA2, hb2, hk2⟩
   have HA1 : Hid (BufAt y1 B B [2, 10, 10, 2, 0]) := Lib.hid hA2
   have HBq1 : Hid (Below B W3 y1) := Lib.hid (HB.out.trans hb2)
   clear hA2 hb2 hk2 KP c4
   have hbx : Below B W3 y1 := HBq1.out
   have hw3 : Below w.heap.size w y1 := HB3.out.trans (hbx.mono (by have := HWB.out; omega))
   have KP := put1Delta B B D [2, 10, 10, 2, 0] ⟨#[116]⟩ O (some ⟨R, 0, none⟩) 1 1 0 3 xs7 y1 (Nat.le_refl _) HA1.out ((hw3.block D HF.out.1).trans HF.out.2.2.1) (by have := HF.out.1; have := HWB.out; omega) ((Rd.keep HF.out.2.2.2.2 (Keeps.below hw3)).wide (fun b (hb : b < w.heap.size) => by show b < B; have := HWB.out; omega)) xs7_put.1 (by have := xs7_put.2; omega) (by omega) (by omega) (by omega) (by omega) ((hw3.block O HF.out.2.1).trans HF.out.2.2.2.1) (by have := HF.out.2.1; have := HWB.out; omega) (by decide) (by decide)
   clear hbx hw3
   have hTc := (HBq1.out.block w.heap.size HWB.out).trans HT3.out
   have c5 : y1.cell? ⟨w.heap.size, 5, none⟩ = some (.slice (some ⟨D, 0, none⟩) 1 1) := cell_of_row y1 _ 5 _ _ _ hTc
   clear hTc
   go_wp2_with fail
   (with_reducible refine KP.mono ?_)
   rintro _ y2 ⟨rfl, hA2, hb2, hk2⟩
   have HA2 : Hid (BufAt y2 B B [2, 10, 10, 2, 0, 2, 2, 116, 0, 2, 2, 1, 14, 0, 6]) := Lib.hid hA2
   have HB2 : Hid (Below B W3 y2) := Lib.hid (HBq1.out.trans hb2)
   clear hA2 hb2 hk2 KP c5
   have KP := put0Hold B B [2, 10, 10, 2, 0, 2, 2, 116, 0, 2, 2, 1, 14, 0, 6] y2 (Nat.le_refl _) HA2.out (by decide)
   have hTc := (HB2.out.block w.heap.size HWB.out).trans HT3.out
   have c6 : y2.cell? ⟨w.heap.size, 6, none⟩ = some (.slice none 0 0) := cell_of_row y2 _ 6 _ _ _ hTc
   clear hTc
   go_wp2_with fail
   (with_reducible refine KP.mono ?_)
   rintro _ y3 ⟨rfl, hA2, hb2, hk2⟩
   have HA3 : Hid (BufAt y3 B B [2, 10, 10, 2, 0, 2, 2, 116, 0, 2, 2, 1, 14, 0, 6, 0]) := Lib.hid hA2
   have HBq3 : Hid (Below B W3 y3) := Lib.hid (HB2.out.trans hb2)
   clear hA2 hb2 hk2 KP c6
   have KP := put0Str B B [2, 10, 10, 2, 0, 2, 2, 116, 0, 2, 2, 1, 14, 0, 6, 0] y3 (Nat.le_refl _) HA3.out (by decide)
   have hTc := (HBq3.out.block w.heap.size HWB.out).trans HT3.out
   have c7 : y3.cell? ⟨w.heap.size, 7, none⟩ = some (.slice none 0 0) := cell_of_row y3 _ 7 _ _ _ hTc
   clear hTc
   go_wp2_with fail
   (with_reducible refine KP.mono ?_)
   rintro _ y4 ⟨rfl, hA2, hb2, hk2⟩
   have HA4 : Hid (BufAt y4 B B [2, 10, 10, 2, 0, 2, 2, 116, 0, 2, 2, 1, 14, 0, 6, 0, 0]) := Lib.hid hA2
   have HB4 : Hid (Below B W3 y4) := Lib.hid (HBq3.out.trans hb2)
   clear hA2 hb2 hk2 KP c7
   have KP := put0Policy B B [2, 10, 10, 2, 0, 2, 2, 116, 0, 2, 2, 1, 14, 0, 6, 0, 0] y4 (Nat.le_refl _) HA4.out (by decide)
   have hTc := (HB4.out.block w.heap.size HWB.out).trans HT3.out
   have c8 : y4.cell? ⟨w.heap.size, 8, none⟩ = some (.slice none 0 0) := cell_of_row y4 _ 8 _ _ _ hTc
   clear hTc
   go_wp2_with fail
   (with_reducible refine KP.mono ?_)
   rintro _ y5 ⟨rfl, hA2, hb2, hk2⟩
   have HA5 : Hid (BufAt y5 B B [2, 10, 10, 2, 0, 2, 2, 116, 0, 2, 2, 1, 14, 0, 6, 0, 0, 0]) := Lib.hid hA2
   have HB5 : Hid (Below B W3 y5) := Lib.hid (HB4.out.trans hb2)
   clear hA2 hb2 hk2 KP c8
   have KP := put0Horizon B B [2, 10, 10, 2, 0, 2, 2, 116, 0, 2, 2, 1, 14, 0, 6, 0, 0, 0] y5 (Nat.le_refl _) HA5.out (by decide)
   have hTc := (HB5.out.block w.heap.size HWB.out).trans HT3.out
   have c9 : y5.cell? ⟨w.heap.size, 9, none⟩ = some (.slice none 0 0) := cell_of_row y5 _ 9 _ _ _ hTc
   clear hTc
   go_wp2_with fail
   (with_reducible refine KP.mono ?_)
   rintro _ y6 ⟨rfl, hA2, hb2, hk2⟩
   have HA6 : Hid (BufAt y6 B B [2, 10, 10, 2, 0, 2, 2, 116, 0, 2, 2, 1, 14, 0, 6, 0, 0, 0, 0]) := Lib.hid hA2
   have HB6 : Hid (Below B W3 y6) := Lib.hid (HB5.out.trans hb2)
   clear hA2 hb2 hk2 KP c9
   obtain ⟨v, hB, hO⟩ := HA6.out
   obtain ⟨Av, cv, rfl, x1, x2, x3⟩ := Rd.open_ (Rd.of_own hO)
   have q0 : y6.cell? ⟨B, 0, none⟩ = some (.slice Av 19 cv) := cell_of_row y6 _ 0 _ _ _ hB
   have HO := Lib.hid ((Rd.of_own hO).wide (fun b hb => (⟨by have := hb.1; have := HWB.out; omega, hb.2⟩ : w.heap.size ≤ b ∧ b < y6.heap.size)))
   have HBF : Hid (Below w.heap.size w y6) := Lib.hid (HB3.out.trans (HB6.out.mono (by have := HWB.out; omega)))
   clear hB hO x1 x2 x3
   go_wp2_with fail
   go_ret2
   exact ⟨_, rfl, HO.out, HBF.out⟩
end Go.Proofs.YtbfdegkickjbpaaGreat
