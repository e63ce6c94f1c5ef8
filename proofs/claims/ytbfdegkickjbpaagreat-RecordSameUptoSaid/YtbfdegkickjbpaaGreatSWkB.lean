/-
 WkB
-/
import Derived.Test.YtbfdegkickjbpaaGreatSWkA
namespace Go.Proofs.YtbfdegkickjbpaaGreat
open Go.RowKit Go.Lib Go.IntWalk Go.Sort Go.Shelf
set_option maxRecDepth 1000000 in
set_option maxHeartbeats 4000000 in
theorem bufText_any (base B : Nat) (l : List UInt8) (S : ByteArray) (w : World) (hbB : base ≤ B) (h : BufAt w base B l) (hS : S.size ≤ 300) (hl : l.length + 4000 ≤ 140737488300000) :
  Calls Tryz.prog 109 #[.pointer (some ⟨B, 0, none⟩), .string S] w (BufOut base B (l ++ (encI S.size ++ S.data.toList)) w) := by
 have hBl := h.lt
 obtain ⟨v, hBB, hO⟩ := h
 have hbase : base ≤ w.heap.size := by omega
 have HBB := Lib.hid hBB
 have HO := Lib.hid hO
 obtain ⟨A0, c0, rfl, y1, y2, y3⟩ := Rd.open_ (Rd.of_own hO)
 have k0 : w.cell? ⟨B, 0, none⟩ = some (.slice A0 l.length c0) := cell_of_row w B 0 _ _ _ hBB
 clear y3 y2 hBB hO
 have HLE : Hid (l.length + ((encI S.size ++ S.data.toList)).length ≤ 140737488300000) := Lib.hid (by have := encI_length S.size; rw [List.length_append, show S.data.toList.length = S.size from rfl]; omega)
 have hbW : Below w.heap.size w w := Below.refl _ _
 have hWs : w.heap.size ≤ w.heap.size := Nat.le_refl _
 have hWl : B < w.heap.size := hBl
 have k1 := k0
 go_enter Tryz.func109, Tryz.ntmps109
 go_wp2_with fail
 refine wp_region_noPanic ?_
 refine beginT (S := (fun w' => w'.cell? ⟨B, 0, none⟩ = some (.slice A0 l.length c0))) 10 (by kernel_rfl) ?_ (fun hHeld => ?_)
 ·exact k1
 refine takeT 0 (some 4) (v := ?_) rfl rfl (by kernel_rfl) (by kernel_rfl) (by kernel_rfl) (by kernel_rfl) (by rfl) hHeld (fun _ _ _ h => h) ?_ ?_
 rotate_left
 ·intro w' hSw; (try dsimp only at hSw); go_simp <;> with_reducible rfl
 simp only [Act.put, List.setIfInBounds_toArray, List.set_cons_zero, List.set_cons_succ]
 refine takeT 1 (some 5) (v := ?_) rfl rfl (by kernel_rfl) (by kernel_rfl) (by kernel_rfl) (by kernel_rfl) (by rfl) hHeld (fun _ _ _ h => h) ?_ ?_
 rotate_left
 ·intro w' hSw; (try dsimp only at hSw); go_simp <;> with_reducible rfl
 simp only [Act.put, List.setIfInBounds_toArray, List.set_cons_zero, List.set_cons_succ]
 refine takeT 2 (some 6) (v := ?_) rfl rfl (by kernel_rfl) (by kernel_rfl) (by kernel_rfl) (by kernel_rfl) (by rfl) hHeld (fun _ _ _ h => h) ?_ ?_
 rotate_left
 ·intro w' hSw; (try dsimp only at hSw); go_simp <;> with_reducible rfl
 simp only [Act.put, List.setIfInBounds_toArray, List.set_cons_zero, List.set_cons_succ]
 refine takeT 3 (some 7) (v := ?_) rfl rfl (by kernel_rfl) (by kernel_rfl) (by kernel_rfl) (by kernel_rfl) (by rfl) hHeld (fun _ _ _ h => h) ?_ ?_
 rotate_left
 ·intro w' hSw; (try dsimp only at hSw); go_simp <;> with_reducible rfl
 simp only [Act.put, List.setIfInBounds_toArray, List.set_cons_zero, List.set_cons_succ]
 refine takeT 4 (some 8) (v := ?_) rfl rfl (by kernel_rfl) (by kernel_rfl) (by kernel_rfl) (by kernel_rfl) (by rfl) hHeld (fun _ _ _ h => h) ?_ ?_
 rotate_left
 ·intro w' hSw; (try dsimp only at hSw); go_simp <;> with_reducible rfl
 simp only [Act.put, List.setIfInBounds_toArray, List.set_cons_zero, List.set_cons_succ]
 refine takeT 5 (some 9) (v := ?_) rfl rfl (by kernel_rfl) (by kernel_rfl) (by kernel_rfl) (by kernel_rfl) (by rfl) hHeld (fun _ _ _ h => h) ?_ ?_
 rotate_left
 ·intro w' hSw; (try dsimp only at hSw); go_simp <;> with_reducible rfl
 simp only [Act.put, List.setIfInBounds_toArray, List.set_cons_zero, List.set_cons_succ]
 refine callT 6 (some 10) (f := ?_) (args := ?_) rfl rfl (by kernel_rfl) (by rfl) ?_ ?_
 rotate_left 2
 ·go_simp <;> first | (constructor <;> with_reducible rfl) | with_reducible rfl
 (with_reducible refine (putText_any (.slice none 0 0) [] S _ (RdB.nil _ _) (by simp; omega)).mono ?_)
 rintro e w2 ⟨vd, rfl, hOd, hb2⟩
 obtain ⟨Ad, cd, rfl, j1, j2, j3⟩ := Rd.open_ hOd.rd
 clear j3 j2
 refine ⟨_, rfl, keepAnd ?_ (fun hNew => ?_)⟩
 ·intro _; exact (World.cell?_of_block (hb2.block B (by have := hWl; exact this))).trans k1
 have hNew := hNew (by decide)
 clear hHeld
 have hHeld := hNew
 clear hNew
 simp only [Act.put, List.setIfInBounds_toArray, List.set_cons_zero, List.set_cons_succ]
 have hbw2 : Below w.heap.size w w2 := hbW.trans ((Below.undrew hb2).mono hWs)
 have hO2 : OwnB w2 base (.slice A0 l.length c0) l := own_below HO.out hbw2
 have hB2 : w2.heap[B]? = some (.cells #[.slice A0 l.length c0] 97 (0, 0)) := (hbw2.block B hBl).trans HBB.out
 refine opT 7 rfl (by kernel_rfl) (by rfl) ?_
 refine wp_append_b (.tmp 8) (.tmp 10) rfl base (.slice A0 l.length c0) l rfl hO2 (· < w2.heap.size) _ ((encI S.size ++ S.data.toList)) rfl hOd.rd (by have := HLE.out; omega) (by have := hbw2.size; omega) ?_
 intro v' w3 hO3 hb3 hg3 hv3
 have hDone := buf_done hbB HBB.out HO.out hbw2 hO3 hb3 hg3 hv3
 have hB3 : w3.heap[B]? = some (.cells #[.slice A0 l.length c0] 97 (0, 0)) := (hg3.block B (by have := hbw2.size; omega) (own_not hO2 hB2 (by decide))).trans hB2
 have kf : w3.frozen? ⟨B, 0, none⟩ = false := frozen_of_row w3 B 0 _ _ hB3
 have kc : w3.cell? ⟨B, 0, none⟩ = some (.slice A0 l.length c0) := cell_of_row w3 B 0 _ _ _ hB3
 obtain ⟨A3, c3, rfl, z1, z2, z3⟩ := Rd.open_ (Rd.of_own hO3)
 clear z3 z2
 refine keepAnd ?_ (fun hNew => ?_)
 ·intro _; exact cell_of_row _ B 0 _ _ _ hB3
 have hNew := hNew (by decide)
 clear hHeld
 have hHeld := hNew
 clear hNew
 simp only [Act.put, List.setIfInBounds_toArray, List.set_cons_zero, List.set_cons_succ]
 refine runT 8 (some 12) (v := ?_) (w' := _) rfl rfl (by kernel_rfl) (by rfl) ?_ (fun _ => hHeld) ?_
 rotate_left
 ·go_simp <;> with_reducible rfl
 simp only [Act.put, List.setIfInBounds_toArray, List.set_cons_zero, List.set_cons_succ]
 refine takeT 9 (some 13) (v := ?_) rfl rfl (by kernel_rfl) (by kernel_rfl) (by kernel_rfl) (by kernel_rfl) (by rfl) hHeld (fun _ _ _ h => h) ?_ ?_
 rotate_left
 ·intro w' hSw; (try dsimp only at hSw); go_simp <;> with_reducible rfl
 simp only [Act.put, List.setIfInBounds_toArray, List.set_cons_zero, List.set_cons_succ]
 refine skipRunT 10 none (w' := w3.setCell ⟨B, 0, none⟩ (.slice A3 (l ++ (encI S.size ++ S.data.toList)).length c3)) rfl rfl (by kernel_rfl) (by rfl) ?_ (fun h => absurd rfl h) ?_
 ·go_simp <;> with_reducible rfl
 clear hHeld
 simp only [Act.put]
 refine doneT (by kernel_rfl) ?_ _
 refine NoPanic.normal ?_
 go_wp2_with fail
 go_end0
 exact hDone
set_option maxRecDepth 1000000 in
set_option maxHeartbeats 8000000 in
theorem fact_any (base B : Nat) (l : List UInt8) (xA : Option Addr) (xn xc : Nat) (f t : Int) (xs : List Val) (w : World) (hbB : base ≤ B) (h : BufAt w base B l) (hx : RdV w (· < base) (.slice xA xn xc) xs) (hok : ∀ x ∈ xs, putV x) (hr : (encR xs).length ≤ 4000) (hf1 : -9223372036854775808 ≤ f) (hf2 : f ≤ 9223372036854775807) (ht1 : -9223372036854775808 ≤ t) (ht2 : t ≤ 9223372036854775807) (hl : l.length ≤ 1000000) :
  Calls Tryz.prog 155 #[.pointer (some ⟨B, 0, none⟩), .agg #[.slice xA xn xc, .int .i64 f, .int .i64 t]] w (BufOut base B (l ++ (encR xs ++ (encI f ++ encI t))) w) := by
 have hBl := h.lt
 have hw0 : base ≤ w.heap.size := by omega
 obtain ⟨W, hW⟩ : ∃ W, W = w.alloc (.cells #[.slice xA xn xc, .int .i64 f, .int .i64 t] 68) := ⟨_, rfl⟩
 have hbW : Below w.heap.size w W := by rw [hW]; exact Below.of_alloc _
 have hWs : W.heap.size = w.heap.size + 1 := by rw [hW]; simp
 have hWh : W.heap[w.heap.size]? = some (.cells #[.slice xA xn xc, .int .i64 f, .int .i64 t] 68 (0, 0)) := by rw [hW]; exact heap_alloc_new _ _
 have HW := Lib.hid hW
 clear hW
 have HV := Lib.hid hx
 have HOK := Lib.hid hok
 have HRL := Lib.hid hr
 clear hx hok hr
 go_enter Tryz.func155, Tryz.ntmps155
 go_wp2_with fail
 rw [← HW.out]
 have hA0 : BufAt W base B l := h.below hbW
 have hB0 : Below base w W := hbW.mono hw0
 have hK0 : KeepO B w W := KeepO.of_below hbW
 clear h hbW
 have HVw : Hid (RdV W.drew (· < W.drew.heap.size) (.slice xA xn xc) xs) := Lib.hid (Rd.wide (Rd.keep HV.out (Keeps.below hB0.drew)) (fun b hb => by show b < W.heap.size; have hb' : b < base := hb; omega))
 refine wp_region_noPanic ?_
 refine wp_region_held_drew (S := (fun w' => ∀ j u, [.slice xA xn xc, .int .i64 f, .int .i64 t][j]? = some u → w'.cell? ⟨w.heap.size, j, none⟩ = some u)) (by kernel_rfl) ?_ (fun hHeld => ?_)
 ·exact fun j u hj => (cell_of_row _ w.heap.size j _ _ _ hWh).trans (by simpa using hj)
 refine heldTake 0 (some 4) (v := ?_) rfl rfl (by kernel_rfl) (by kernel_rfl) (by kernel_rfl) (by rfl) hHeld (fun _ _ _ h => h) ?_ ?_
 rotate_left
 ·intro w' hSw; (try dsimp only at hSw); go_simp <;> with_reducible rfl
 simp only [Act.put, List.setIfInBounds_toArray, List.set_cons_zero, List.set_cons_succ]
 refine heldTake 1 (some 5) (v := ?_) rfl rfl (by kernel_rfl) (by kernel_rfl) (by kernel_rfl) (by rfl) hHeld (fun _ _ _ h => h) ?_ ?_
 rotate_left
 ·intro w' hSw; (try dsimp only at hSw); go_simp <;> with_reducible rfl
 simp only [Act.put, List.setIfInBounds_toArray, List.set_cons_zero, List.set_cons_succ]
 refine heldTake 2 (some 6) (v := ?_) rfl rfl (by kernel_rfl) (by kernel_rfl) (by kernel_rfl) (by rfl) hHeld (fun _ _ _ h => h) ?_ ?_
 rotate_left
 ·intro w' hSw; (try dsimp only at hSw); go_simp <;> with_reducible rfl
 simp only [Act.put, List.setIfInBounds_toArray, List.set_cons_zero, List.set_cons_succ]
 refine heldTake 3 (some 7) (v := ?_) rfl rfl (by kernel_rfl) (by kernel_rfl) (by kernel_rfl) (by rfl) hHeld (fun _ _ _ h => h) ?_ ?_
 rotate_left
 ·intro w' hSw; (try dsimp only at hSw); go_simp <;> with_reducible rfl
 simp only [Act.put, List.setIfInBounds_toArray, List.set_cons_zero, List.set_cons_succ]
 refine heldTake 4 (some 8) (v := ?_) rfl rfl (by kernel_rfl) (by kernel_rfl) (by kernel_rfl) (by rfl) hHeld (fun _ _ _ h => h) ?_ ?_
 rotate_left
 ·intro w' hSw; (try dsimp only at hSw); have q0 := hSw 0 _ rfl; go_simp <;> with_reducible rfl
 simp only [Act.put, List.setIfInBounds_toArray, List.set_cons_zero, List.set_cons_succ]
 refine heldCall 5 (some 9) (f := ?_) (args := ?_) rfl rfl (by kernel_rfl) (by rfl) ?_ ?_
 rotate_left 2
 ·go_simp <;> first | (constructor <;> with_reducible rfl) | with_reducible rfl
 (with_reducible refine (bufRow_any base B (l) _ xs _ hbB hA0.drew HVw.out HOK.out HRL.out (by omega)).mono ?_)
 rintro _ w1 ⟨rfl, hA1, hb', hk'⟩
 have hB1 : Below base w w1 := hB0.trans (Below.undrew hb')
 have hK1 : KeepO B w w1 := hK0.trans hk'
 have hWh' := (hk'.2 w.heap.size (by have : W.drew.heap.size = W.heap.size := rfl; have := hWs; first | omega | (have := hsz0; omega)) (by omega) (by intro cur; rw [show W.drew.heap[w.heap.size]? = _ from hWh]; simp)).trans (show W.drew.heap[w.heap.size]? = _ from hWh)
 have hsz1 : w.heap.size + 1 ≤ w1.heap.size := by have := hk'.1; have : W.drew.heap.size = W.heap.size := rfl; first | omega | (have := hsz0; omega)
 clear hWh hb' hk'
 have hWh := hWh'
 clear hWh'
 refine ⟨_, rfl, keepAnd ?_ (fun hNew => ?_)⟩
 ·exact fun j u hj => (cell_of_row _ w.heap.size j _ _ _ hWh).trans (by simpa using hj)
 clear hHeld
 have hHeld := hNew
 clear hNew
 simp only [Act.put, List.setIfInBounds_toArray, List.set_cons_zero, List.set_cons_succ]
 refine wpAnyH_done (by kernel_rfl) ?_ _
 refine NoPanic.normal ?_
 clear hHeld
 clear hA0 hB0 hK0
 go_wp2_with fail
 refine wp_region_noPanic ?_
 refine wp_region_held_drew (S := (fun w' => ∀ j u, [.slice xA xn xc, .int .i64 f, .int .i64 t][j]? = some u → w'.cell? ⟨w.heap.size, j, none⟩ = some u)) (by kernel_rfl) ?_ (fun hHeld => ?_)
 ·exact fun j u hj => (cell_of_row _ w.heap.size j _ _ _ hWh).trans (by simpa using hj)
 refine heldTake 0 (some 10) (v := ?_) rfl rfl (by kernel_rfl) (by kernel_rfl) (by kernel_rfl) (by rfl) hHeld (fun _ _ _ h => h) ?_ ?_
 rotate_left
 ·intro w' hSw; (try dsimp only at hSw); go_simp <;> with_reducible rfl
 simp only [Act.put, List.setIfInBounds_toArray, List.set_cons_zero, List.set_cons_succ]
 refine heldTake 1 (some 11) (v := ?_) rfl rfl (by kernel_rfl) (by kernel_rfl) (by kernel_rfl) (by rfl) hHeld (fun _ _ _ h => h) ?_ ?_
 rotate_left
 ·intro w' hSw; (try dsimp only at hSw); go_simp <;> with_reducible rfl
 simp only [Act.put, List.setIfInBounds_toArray, List.set_cons_zero, List.set_cons_succ]
 refine heldTake 2 (some 12) (v := ?_) rfl rfl (by kernel_rfl) (by kernel_rfl) (by kernel_rfl) (by rfl) hHeld (fun _ _ _ h => h) ?_ ?_
 rotate_left
 ·intro w' hSw; (try dsimp only at hSw); go_simp <;> with_reducible rfl
 simp only [Act.put, List.setIfInBounds_toArray, List.set_cons_zero, List.set_cons_succ]
 refine heldTake 3 (some 13) (v := ?_) rfl rfl (by kernel_rfl) (by kernel_rfl) (by kernel_rfl) (by rfl) hHeld (fun _ _ _ h => h) ?_ ?_
 rotate_left
 ·intro w' hSw; (try dsimp only at hSw); go_simp <;> with_reducible rfl
 simp only [Act.put, List.setIfInBounds_toArray, List.set_cons_zero, List.set_cons_succ]
 refine heldTake 4 (some 14) (v := ?_) rfl rfl (by kernel_rfl) (by kernel_rfl) (by kernel_rfl) (by rfl) hHeld (fun _ _ _ h => h) ?_ ?_
 rotate_left
 ·intro w' hSw; (try dsimp only at hSw); have q1 := hSw 1 _ rfl; have q2 := hSw 2 _ rfl; go_simp <;> with_reducible rfl
 simp only [Act.put, List.setIfInBounds_toArray, List.set_cons_zero, List.set_cons_succ]
 refine heldCall 5 (some 15) (f := ?_) (args := ?_) rfl rfl (by kernel_rfl) (by rfl) ?_ ?_
 rotate_left 2
 ·go_simp <;> first | (constructor <;> with_reducible rfl) | with_reducible rfl
 (with_reducible refine (bufPeriod_any base B (l ++ encR xs) f t _ hbB hA1.drew hf1 hf2 ht1 ht2 (by have := HRL.out; (try simp only [List.length_append]); omega)).mono ?_)
 rintro _ w2 ⟨rfl, hA2, hb', hk'⟩
 have hB2 : Below base w w2 := hB1.trans (Below.undrew hb')
 have hK2 : KeepO B w w2 := hK1.trans hk'
 have hWh' := (hk'.2 w.heap.size (by have : w1.drew.heap.size = w1.heap.size := rfl; have := hWs; first | omega | (have := hsz1; omega)) (by omega) (by intro cur; rw [show w1.drew.heap[w.heap.size]? = _ from hWh]; simp)).trans (show w1.drew.heap[w.heap.size]? = _ from hWh)
 have hsz2 : w.heap.size + 1 ≤ w2.heap.size := by have := hk'.1; have : w1.drew.heap.size = w1.heap.size := rfl; first | omega | (have := hsz1; omega)
 clear hWh hb' hk'
 have hWh := hWh'
 clear hWh'
 refine ⟨_, rfl, keepAnd ?_ (fun hNew => ?_)⟩
 ·exact fun j u hj => (cell_of_row _ w.heap.size j _ _ _ hWh).trans (by simpa using hj)
 clear hHeld
 have hHeld := hNew
 clear hNew
 simp only [Act.put, List.setIfInBounds_toArray, List.set_cons_zero, List.set_cons_succ]
 refine wpAnyH_done (by kernel_rfl) ?_ _
 refine NoPanic.normal ?_
 clear hHeld
 clear hA1 hB1 hK1
 go_wp2_with fail
 go_end0
 refine ⟨rfl, ?_, hB2, hK2⟩
 have e : l ++ (encR xs ++ (encI f ++ encI t)) = l ++ encR xs ++ (encI f ++ encI t) := by simp
 rw [e]
 exact hA2
set_option maxRecDepth 1000000 in
set_option maxHeartbeats 4000000 in
theorem put1Fact (base B D : Nat) (l : List UInt8) (xA : Option Addr) (xn xc : Nat) (f t : Int) (xs : List Val) (w : World) (hbB : base ≤ B) (h : BufAt w base B l) (hD : w.heap[D]? = some (.cells #[.slice xA xn xc, .int .i64 f, .int .i64 t] 68 (0, 0))) (hDb : D < base) (hx : RdV w (· < base) (.slice xA xn xc) xs) (hok : ∀ x ∈ xs, putV x) (hr : (encR xs).length ≤ 4000) (hf1 : -9223372036854775808 ≤ f) (hf2 : f ≤ 9223372036854775807) (ht1 : -9223372036854775808 ≤ t) (ht2 : t ≤ 9223372036854775807) (hl : l.length ≤ 900000) :
  Calls Tryz.prog 154 #[.pointer (some ⟨B, 0, none⟩), .slice (some ⟨D, 0, none⟩) 1 1, .func (.func 155) #[] #[]] w (BufOut base B (l ++ (encI 1 ++ (encR xs ++ (encI f ++ encI t)))) w) := by
 have hBl := h.lt
 have KI := bufInt_any base B l 1 w hbB h (by omega) (by omega) (by omega)
 have e0 := encI_length 1
 have HD := Lib.hid hD
 have K1 : ∀ W, BufAt W base B (l ++ encI 1) → Below base w W → Calls Tryz.prog 155 #[.pointer (some ⟨B, 0, none⟩), .agg #[.slice xA xn xc, .int .i64 f, .int .i64 t]] W (BufOut base B (l ++ encI 1 ++ (encR xs ++ (encI f ++ encI t))) W) := fun W hA hB => fact_any base B _ xA xn xc f t xs W hbB hA (Rd.keep hx (fun b hb => hB.block b hb)) hok hr hf1 hf2 ht1 ht2 (by rw [List.length_append]; omega)
 have HK1 := Lib.hid K1
 clear K1 hD
 go_enter Tryz.func154, Tryz.ntmps154
 go_wp2_with fail
 (with_reducible refine KI.mono ?_)
 rintro _ w1 ⟨rfl, hA1, hb1, hk1⟩
 have HA1 := Lib.hid hA1
 have HB1 := Lib.hid hb1
 have HK := Lib.hid hk1
 have hs1 : w.heap.size ≤ w1.heap.size := hk1.1
 clear hA1 hb1 hk1 KI
 go_wp2_with fail
 go_loopw [16] (fun i wr => (i = .int .i64 0 ∧ wr = w1) ∨ (i = .int .i64 1 ∧ BufAt wr base B (l ++ encI 1 ++ (encR xs ++ (encI f ++ encI t))) ∧ Below base w wr ∧ KeepO B w wr)) (fun i _ => 1 - (intOf i).toNat)
 case atStart => exact .inl ⟨rfl, rfl⟩
 case round =>
  rcases hrel with ⟨rfl, hw⟩ | ⟨rfl, hA, hB, hK⟩
  ·rw [hw]
   clear hw
   have hD1 := (HB1.out.block D hDb).trans HD.out
   have g0 : w1.cell? ⟨D, 0, none⟩ = some (.slice xA xn xc) := cell_of_row w1 D 0 _ _ _ hD1
   have g1 : w1.cell? ⟨D, 1, none⟩ = some (.int .i64 f) := cell_of_row w1 D 1 _ _ _ hD1
   have g2 : w1.cell? ⟨D, 2, none⟩ = some (.int .i64 t) := cell_of_row w1 D 2 _ _ _ hD1
   obtain ⟨W1, hW1⟩ : ∃ W1, W1 = w1.alloc (.cells #[.slice xA xn xc, .int .i64 f, .int .i64 t] 68) := ⟨_, rfl⟩
   have hbW : Below w1.heap.size w1 W1 := by subst hW1; exact Below.of_alloc _
   have hAW := HA1.out.below hbW
   have hBW : Below base w W1 := HB1.out.trans (hbW.mono (by omega))
   have KV := HK1.out W1 hAW hBW
   have HKW := Lib.hid (HK.out.trans (KeepO.of_below hbW))
   have HBW := Lib.hid hBW
   clear hAW hBW hbW hD1
   go_wp2_with fail
   rw [← hW1]
   clear hW1
   clear g0 g1 g2
   (with_reducible refine KV.mono ?_)
   rintro _ w2 ⟨rfl, hA2, hb2, hk2⟩
   have HF := Lib.hid (And.intro hA2 (And.intro (HBW.out.trans hb2) (HKW.out.trans hk2)))
   clear hA2 hb2 hk2 KV
   go_wp2_with fail
   go_roundw
   case rel => exact .inr ⟨by go_num, HF.out⟩
   case measure => simp [intOf]
  ·have HF := Lib.hid (And.intro hA (And.intro hB hK))
   clear hA hB hK
   go_wp2_with fail
   go_end0
   rw [← List.append_assoc]
   exact ⟨rfl, HF.out⟩
set_option maxRecDepth 1000000 in
set_option maxHeartbeats 8000000 in
theorem delta1 (base B : Nat) (l : List UInt8) (S : ByteArray) (O : Nat) (xA : Option Addr) (xn xc : Nat) (f t : Int) (xs : List Val) (w : World) (hbB : base ≤ B) (h : BufAt w base B l) (hx : RdV w (· < base) (.slice xA xn xc) xs) (hok : ∀ x ∈ xs, putV x) (hr : (encR xs).length ≤ 4000) (hf1 : -9223372036854775808 ≤ f) (hf2 : f ≤ 9223372036854775807) (ht1 : -9223372036854775808 ≤ t) (ht2 : t ≤ 9223372036854775807) (hO : w.heap[O]? = some (.cells #[.slice xA xn xc, .int .i64 f, .int .i64 t] 68 (0, 0))) (hOb : O < base) (hS : S.size ≤ 300) (hl : l.length ≤ 800000) :
  Calls Tryz.prog 50 #[.pointer (some ⟨B, 0, none⟩), .agg #[.string S, .slice none 0 0, .slice (some ⟨O, 0, none⟩) 1 1]] w (BufOut base B (l ++ ((encI S.size ++ S.data.toList) ++ (encI 0 ++ (encI 1 ++ (encR xs ++ (encI f ++ encI t)))))) w) := by
 have hBl := h.lt
 have hw0 : base ≤ w.heap.size := by omega
 obtain ⟨W, hW⟩ : ∃ W, W = w.alloc (.cells #[.string S, .slice none 0 0, .slice (some ⟨O, 0, none⟩) 1 1] 63) := ⟨_, rfl⟩
 have hbW : Below w.heap.size w W := by rw [hW]; exact Below.of_alloc _
 have hWs : W.heap.size = w.heap.size + 1 := by rw [hW]; simp
 have hWh : W.heap[w.heap.size]? = some (.cells #[.string S, .slice none 0 0, .slice (some ⟨O, 0, none⟩) 1 1] 63 (0, 0)) := by rw [hW]; exact heap_alloc_new _ _
 have HW := Lib.hid hW
 clear hW
 have HV := Lib.hid hx
 have HOK := Lib.hid hok
 have HRL := Lib.hid hr
 have HO := Lib.hid hO
 clear hx hok hr hO
 go_enter Tryz.func50, Tryz.ntmps50
 go_wp2_with fail
 rw [← HW.out]
 have hA0 : BufAt W base B l := h.below hbW
 have hB0 : Below base w W := hbW.mono hw0
 have hK0 : KeepO B w W := KeepO.of_below hbW
 clear h hbW
 refine wp_region_noPanic ?_
 refine wp_region_held_drew (S := (fun w' => ∀ j u, [.string S, .slice none 0 0, .slice (some ⟨O, 0, none⟩) 1 1][j]? = some u → w'.cell? ⟨w.heap.size, j, none⟩ = some u)) (by kernel_rfl) ?_ (fun hHeld => ?_)
 ·exact fun j u hj => (cell_of_row _ w.heap.size j _ _ _ hWh).trans (by simpa using hj)
 refine heldTake 0 (some 4) (v := ?_) rfl rfl (by kernel_rfl) (by kernel_rfl) (by kernel_rfl) (by rfl) hHeld (fun _ _ _ h => h) ?_ ?_
 rotate_left
 ·intro w' hSw; (try dsimp only at hSw); go_simp <;> with_reducible rfl
 simp only [Act.put, List.setIfInBounds_toArray, List.set_cons_zero, List.set_cons_succ]
 refine heldTake 1 (some 5) (v := ?_) rfl rfl (by kernel_rfl) (by kernel_rfl) (by kernel_rfl) (by rfl) hHeld (fun _ _ _ h => h) ?_ ?_
 rotate_left
 ·intro w' hSw; (try dsimp only at hSw); go_simp <;> with_reducible rfl
 simp only [Act.put, List.setIfInBounds_toArray, List.set_cons_zero, List.set_cons_succ]
 refine heldTake 2 (some 6) (v := ?_) rfl rfl (by kernel_rfl) (by kernel_rfl) (by kernel_rfl) (by rfl) hHeld (fun _ _ _ h => h) ?_ ?_
 rotate_left
 ·intro w' hSw; (try dsimp only at hSw); go_simp <;> with_reducible rfl
 simp only [Act.put, List.setIfInBounds_toArray, List.set_cons_zero, List.set_cons_succ]
 refine heldTake 3 (some 7) (v := ?_) rfl rfl (by kernel_rfl) (by kernel_rfl) (by kernel_rfl) (by rfl) hHeld (fun _ _ _ h => h) ?_ ?_
 rotate_left
 ·intro w' hSw; (try dsimp only at hSw); go_simp <;> with_reducible rfl
 simp only [Act.put, List.setIfInBounds_toArray, List.set_cons_zero, List.set_cons_succ]
 refine heldTake 4 (some 8) (v := ?_) rfl rfl (by kernel_rfl) (by kernel_rfl) (by kernel_rfl) (by rfl) hHeld (fun _ _ _ h => h) ?_ ?_
 rotate_left
 ·intro w' hSw; (try dsimp only at hSw); have q0 := hSw 0 _ rfl; go_simp <;> with_reducible rfl
 simp only [Act.put, List.setIfInBounds_toArray, List.set_cons_zero, List.set_cons_succ]
 refine heldCall 5 (some 9) (f := ?_) (args := ?_) rfl rfl (by kernel_rfl) (by rfl) ?_ ?_
 rotate_left 2
 ·go_simp <;> first | (constructor <;> with_reducible rfl) | with_reducible rfl
 (with_reducible refine (bufText_any base B (l) S _ hbB hA0.drew hS (by omega)).mono ?_)
 rintro _ w1 ⟨rfl, hA1, hb', hk'⟩
 have hB1 : Below base w w1 := hB0.trans (Below.undrew hb')
 have hK1 : KeepO B w w1 := hK0.trans hk'
 have hWh' := (hk'.2 w.heap.size (by have : W.drew.heap.size = W.heap.size := rfl; have := hWs; first | omega | (have := hsz0; omega)) (by omega) (by intro cur; rw [show W.drew.heap[w.heap.size]? = _ from hWh]; simp)).trans (show W.drew.heap[w.heap.size]? = _ from hWh)
 have hsz1 : w.heap.size + 1 ≤ w1.heap.size := by have := hk'.1; have : W.drew.heap.size = W.heap.size := rfl; first | omega | (have := hsz0; omega)
 clear hWh hb' hk'
 have hWh := hWh'
 clear hWh'
 refine ⟨_, rfl, keepAnd ?_ (fun hNew => ?_)⟩
 ·exact fun j u hj => (cell_of_row _ w.heap.size j _ _ _ hWh).trans (by simpa using hj)
 clear hHeld
 have hHeld := hNew
 clear hNew
 simp only [Act.put, List.setIfInBounds_toArray, List.set_cons_zero, List.set_cons_succ]
 refine wpAnyH_done (by kernel_rfl) ?_ _
 refine NoPanic.normal ?_
 clear hHeld
 clear hA0 hB0 hK0
 have q1 : w1.cell? ⟨w.heap.size, 1, none⟩ = some (.slice none 0 0) := cell_of_row _ w.heap.size 1 _ _ _ hWh
 go_wp2_with fail
 (with_reducible refine (put0Int base B (l ++ (encI S.size ++ S.data.toList)) _ hbB hA1 (by rw [List.length_append, List.length_append, show S.data.toList.length = S.size from rfl]; have := encI_length S.size; omega)).mono ?_)
 rintro _ w2 ⟨rfl, hA2, hb', hk'⟩
 have hB2 : Below base w w2 := hB1.trans hb'
 have hK2 : KeepO B w w2 := hK1.trans hk'
 have hWh' := (hk'.2 w.heap.size (by have : w1.drew.heap.size = w1.heap.size := rfl; have := hWs; first | omega | (have := hsz1; omega)) (by omega) (by intro cur; rw [show w1.heap[w.heap.size]? = _ from hWh]; simp)).trans (show w1.heap[w.heap.size]? = _ from hWh)
 have hsz2 : w.heap.size + 1 ≤ w2.heap.size := by have := hk'.1; have : w1.drew.heap.size = w1.heap.size := rfl; first | omega | (have := hsz1; omega)
 clear hWh hb' hk'
 have hWh := hWh'
 clear hWh'
 clear q1
 clear hA1 hB1 hK1
 have HVk : Hid (RdV w2 (· < base) (.slice xA xn xc) xs) := Lib.hid (Rd.keep HV.out (fun b hb => hB2.block b hb))
 have q2 : w2.cell? ⟨w.heap.size, 2, none⟩ = some (.slice (some ⟨O, 0, none⟩) 1 1) := cell_of_row _ w.heap.size 2 _ _ _ hWh
 go_wp2_with fail
 (with_reducible refine (put1Fact base B O (l ++ (encI S.size ++ S.data.toList) ++ encI 0) xA xn xc f t xs _ hbB hA2 ((hB2.block O hOb).trans HO.out) hOb HVk.out HOK.out HRL.out hf1 hf2 ht1 ht2 (by rw [List.length_append, List.length_append, List.length_append, show S.data.toList.length = S.size from rfl]; have := encI_length S.size; have := encI_length 0; omega)).mono ?_)
 rintro _ w3 ⟨rfl, hA3, hb', hk'⟩
 have hB3 : Below base w w3 := hB2.trans hb'
 have hK3 : KeepO B w w3 := hK2.trans hk'
 have hWh' := (hk'.2 w.heap.size (by have : w2.drew.heap.size = w2.heap.size := rfl; have := hWs; first | omega | (have := hsz2; omega)) (by omega) (by intro cur; rw [show w2.heap[w.heap.size]? = _ from hWh]; simp)).trans (show w2.heap[w.heap.size]? = _ from hWh)
 have hsz3 : w.heap.size + 1 ≤ w3.heap.size := by have := hk'.1; have : w2.drew.heap.size = w2.heap.size := rfl; first | omega | (have := hsz2; omega)
 clear hWh hb' hk'
 have hWh := hWh'
 clear hWh'
 clear q2
 clear hA2 hB2 hK2
 go_wp2_with fail
 go_end0
 refine ⟨rfl, ?_, hB3, hK3⟩
 have e : l ++ ((encI S.size ++ S.data.toList) ++ (encI 0 ++ (encI 1 ++ (encR xs ++ (encI f ++ encI t))))) = l ++ (encI S.size ++ S.data.toList) ++ encI 0 ++ (encI 1 ++ (encR xs ++ (encI f ++ encI t))) := by simp
 rw [e]
 exact hA3
set_option maxRecDepth 1000000 in
set_option maxHeartbeats 4000000 in
theorem put1Delta (base B D : Nat) (l : List UInt8) (S : ByteArray) (O : Nat) (xA : Option Addr) (xn xc : Nat) (f t : Int) (xs : List Val) (w : World) (hbB : base ≤ B) (h : BufAt w base B l) (hD : w.heap[D]? = some (.cells #[.string S, .slice none 0 0, .slice (some ⟨O, 0, none⟩) 1 1] 63 (0, 0))) (hDb : D < base) (hx : RdV w (· < base) (.slice xA xn xc) xs) (hok : ∀ x ∈ xs, putV x) (hr : (encR xs).length ≤ 4000) (hf1 : -9223372036854775808 ≤ f) (hf2 : f ≤ 9223372036854775807) (ht1 : -9223372036854775808 ≤ t) (ht2 : t ≤ 9223372036854775807) (hO : w.heap[O]? = some (.cells #[.slice xA xn xc, .int .i64 f, .int .i64 t] 68 (0, 0))) (hOb : O < base) (hS : S.size ≤ 300) (hl : l.length ≤ 700000) :
  Calls Tryz.prog 49 #[.pointer (some ⟨B, 0, none⟩), .slice (some ⟨D, 0, none⟩) 1 1, .func (.func 50) #[] #[]] w (BufOut base B (l ++ (encI 1 ++ ((encI S.size ++ S.data.toList) ++ (encI 0 ++ (encI 1 ++ (encR xs ++ (encI f ++ encI t))))))) w) := by
 have hBl := h.lt
 have KI := bufInt_any base B l 1 w hbB h (by omega) (by omega) (by omega)
 have e0 := encI_length 1
 have HD := Lib.hid hD
 have K1 : ∀ W, BufAt W base B (l ++ encI 1) → Below base w W → Calls Tryz.prog 50 #[.pointer (some ⟨B, 0, none⟩), .agg #[.string S, .slice none 0 0, .slice (some ⟨O, 0, none⟩) 1 1]] W (BufOut base B (l ++ encI 1 ++ ((encI S.size ++ S.data.toList) ++ (encI 0 ++ (encI 1 ++ (encR xs ++ (encI f ++ encI t)))))) W) := fun W hA hB => delta1 base B _ S O xA xn xc f t xs W hbB hA (Rd.keep hx (fun b hb => hB.block b hb)) hok hr hf1 hf2 ht1 ht2 ((hB.block O hOb).trans hO) hOb hS (by rw [List.length_append]; omega)
 have HK1 := Lib.hid K1
 clear K1 hD
 go_enter Tryz.func49, Tryz.ntmps49
 go_wp2_with fail
 (with_reducible refine KI.mono ?_)
 rintro _ w1 ⟨rfl, hA1, hb1, hk1⟩
 have HA1 := Lib.hid hA1
 have HB1 := Lib.hid hb1
 have HK := Lib.hid hk1
 have hs1 : w.heap.size ≤ w1.heap.size := hk1.1
 clear hA1 hb1 hk1 KI
 go_wp2_with fail
 go_loopw [16] (fun i wr => (i = .int .i64 0 ∧ wr = w1) ∨ (i = .int .i64 1 ∧ BufAt wr base B (l ++ encI 1 ++ ((encI S.size ++ S.data.toList) ++ (encI 0 ++ (encI 1 ++ (encR xs ++ (encI f ++ encI t)))))) ∧ Below base w wr ∧ KeepO B w wr)) (fun i _ => 1 - (intOf i).toNat)
 case atStart => exact .inl ⟨rfl, rfl⟩
 case round =>
  rcases hrel with ⟨rfl, hw⟩ | ⟨rfl, hA, hB, hK⟩
  ·rw [hw]
   clear hw
   have hD1 := (HB1.out.block D hDb).trans HD.out
   have g0 : w1.cell? ⟨D, 0, none⟩ = some (.string S) := cell_of_row w1 D 0 _ _ _ hD1
   have g1 : w1.cell? ⟨D, 1, none⟩ = some (.slice none 0 0) := cell_of_row w1 D 1 _ _ _ hD1
   have g2 : w1.cell? ⟨D, 2, none⟩ = some (.slice (some ⟨O, 0, none⟩) 1 1) := cell_of_row w1 D 2 _ _ _ hD1
   obtain ⟨W1, hW1⟩ : ∃ W1, W1 = w1.alloc (.cells #[.string S, .slice none 0 0, .slice (some ⟨O, 0, none⟩) 1 1] 63) := ⟨_, rfl⟩
   have hbW : Below w1.heap.size w1 W1 := by subst hW1; exact Below.of_alloc _
   have hAW := HA1.out.below hbW
   have hBW : Below base w W1 := HB1.out.trans (hbW.mono (by omega))
   have KV := HK1.out W1 hAW hBW
   have HKW := Lib.hid (HK.out.trans (KeepO.of_below hbW))
   have HBW := Lib.hid hBW
   clear hAW hBW hbW hD1
   go_wp2_with fail
   rw [← hW1]
   clear hW1
   clear g0 g1 g2
   (with_reducible refine KV.mono ?_)
   rintro _ w2 ⟨rfl, hA2, hb2, hk2⟩
   have HF := Lib.hid (And.intro hA2 (And.intro (HBW.out.trans hb2) (HKW.out.trans hk2)))
   clear hA2 hb2 hk2 KV
   go_wp2_with fail
   go_roundw
   case rel => exact .inr ⟨by go_num, HF.out⟩
   case measure => simp [intOf]
  ·have HF := Lib.hid (And.intro hA (And.intro hB hK))
   clear hA hB hK
   go_wp2_with fail
   go_end0
   rw [← List.append_assoc]
   exact ⟨rfl, HF.out⟩
end Go.Proofs.YtbfdegkickjbpaaGreat
