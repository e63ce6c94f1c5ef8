/-
  The walks of CodecSpare.
-/
import Derived.Test.YthfclmkeadpcbaaLawBackA
namespace Go.Proofs.Ythfclmkeadpcbaa
open Go.ChangeShapes Go.WideShapes Go.ChangeAt Go.RowKit Go.Lib

theorem text4 : (⟨#[116, 101, 120, 116]⟩ : ByteArray).size = 4 := rfl
theorem text_pos : 0 < (encI ((⟨#[116, 101, 120, 116]⟩ : ByteArray).size : Int) ++ (⟨#[116, 101, 120, 116]⟩ : ByteArray).data.toList).length := by
  rw [List.length_append]; exact Nat.add_pos_left (encI_pos _) _
theorem two_pos (a b : Int) : 0 < (encI a ++ encI b).length := by
  rw [List.length_append]; exact Nat.add_pos_left (encI_pos _) _
theorem encV_pos (x : Val) : 0 < (encV x).length := by
  unfold encV; split
  · simp
  · split
    · simp
    · split <;> simp
theorem encR_pos (xs : List Val) : 0 < (encR xs).length := by
  unfold encR; rw [List.length_append]; exact Nat.add_pos_left (encI_pos _) _
set_option maxRecDepth 100000 in
set_option maxHeartbeats 2000000 in
theorem begins_same (v u : Value) (L a r : List UInt8) (w : World) (E : Nat → Prop) (hL : L = a ++ r) (hv : RdB w E v L) (hu : RdB w E u a) :
    Calls Try.prog 22 #[v, u] w fun e w' => e = .returned (.bool true) ∧ Below w.heap.size w w' := by
  obtain ⟨A, c, rfl, hc1, _, _⟩ := hv.open_
  obtain ⟨B, d, rfl, hd1, _, _⟩ := hu.open_
  have hla : a.length ≤ L.length := by rw [hL]; simp
  have hlc : a.length ≤ c := Nat.le_trans hla hc1
  have hT : L.take a.length = a := by rw [hL]; simp
  have HT := Lib.hid hT
  clear hT hL
  have hge : ((a.length : Int) ≤ (L.length : Int)) := by omega
  go_enter Try.func22, Try.ntmps22
  go_wp2_with fail
  refine wp_region_noPanic ?_
  refine wp_region_held_drew (S := (fun w' => RdB w' (fun _ => True) (.slice A L.length c) L ∧ RdB w' (fun _ => True) (.slice B a.length d) a)) (by kernel_rfl) ?_ (fun hHeld => ?_)
  · exact ⟨hv.wide fun _ _ => trivial, hu.wide fun _ _ => trivial⟩
  refine heldTake 0 (some 5) (v := ?_) rfl rfl (by kernel_rfl) (by kernel_rfl) (by kernel_rfl) (by rfl) hHeld (fun _ _ _ h => h) ?_ ?_
  rotate_left
  · intro w' hSw; (try dsimp only at hSw); go_simp <;> with_reducible rfl
  simp only [Act.put, List.setIfInBounds_toArray, List.set_cons_zero, List.set_cons_succ]
  refine heldTake 1 (some 6) (v := ?_) rfl rfl (by kernel_rfl) (by kernel_rfl) (by kernel_rfl) (by rfl) hHeld (fun _ _ _ h => h) ?_ ?_
  rotate_left
  · intro w' hSw; (try dsimp only at hSw); go_simp <;> with_reducible rfl
  simp only [Act.put, List.setIfInBounds_toArray, List.set_cons_zero, List.set_cons_succ]
  refine heldTake 2 (some 7) (v := ?_) rfl rfl (by kernel_rfl) (by kernel_rfl) (by kernel_rfl) (by rfl) hHeld (fun _ _ _ h => h) ?_ ?_
  rotate_left
  · intro w' hSw; (try dsimp only at hSw); go_simp <;> with_reducible rfl
  simp only [Act.put, List.setIfInBounds_toArray, List.set_cons_zero, List.set_cons_succ]
  refine heldTake 3 (some 8) (v := ?_) rfl rfl (by kernel_rfl) (by kernel_rfl) (by kernel_rfl) (by rfl) hHeld (fun _ _ _ h => h) ?_ ?_
  rotate_left
  · intro w' hSw; (try dsimp only at hSw); go_simp <;> with_reducible rfl
  simp only [Act.put, List.setIfInBounds_toArray, List.set_cons_zero, List.set_cons_succ]
  refine heldTake 4 (some 9) (v := ?_) rfl rfl (by kernel_rfl) (by kernel_rfl) (by kernel_rfl) (by rfl) hHeld (fun _ _ _ h => h) ?_ ?_
  rotate_left
  · intro w' hSw; (try dsimp only at hSw); go_simp <;> with_reducible rfl
  simp only [Act.put, List.setIfInBounds_toArray, List.set_cons_zero, List.set_cons_succ]
  refine heldTake 5 (some 10) (v := ?_) rfl rfl (by kernel_rfl) (by kernel_rfl) (by kernel_rfl) (by rfl) hHeld (fun _ _ _ h => h) ?_ ?_
  rotate_left
  · intro w' hSw; (try dsimp only at hSw); go_simp <;> with_reducible rfl
  simp only [Act.put, List.setIfInBounds_toArray, List.set_cons_zero, List.set_cons_succ]
  refine heldTake 6 (some 11) (v := ?_) rfl rfl (by kernel_rfl) (by kernel_rfl) (by kernel_rfl) (by rfl) hHeld (fun _ _ _ h => h) ?_ ?_
  rotate_left
  · intro w' hSw; (try dsimp only at hSw); go_simp <;> with_reducible rfl
  simp only [Act.put, List.setIfInBounds_toArray, List.set_cons_zero, List.set_cons_succ]
  refine heldTake 7 (some 12) (v := ?_) rfl rfl (by kernel_rfl) (by kernel_rfl) (by kernel_rfl) (by rfl) hHeld (fun _ _ _ h => h) ?_ ?_
  rotate_left
  · intro w' hSw; (try dsimp only at hSw); go_simp <;> with_reducible rfl
  simp only [Act.put, List.setIfInBounds_toArray, List.set_cons_zero, List.set_cons_succ]
  refine heldTake 8 (some 13) (v := ?_) rfl rfl (by kernel_rfl) (by kernel_rfl) (by kernel_rfl) (by rfl) hHeld (fun _ _ _ h => h) ?_ ?_
  rotate_left
  · intro w' hSw; (try dsimp only at hSw); go_simp <;> with_reducible rfl
  simp only [Act.put, List.setIfInBounds_toArray, List.set_cons_zero, List.set_cons_succ]
  refine heldTake 9 (some 14) (v := ?_) rfl rfl (by kernel_rfl) (by kernel_rfl) (by kernel_rfl) (by rfl) hHeld (fun _ _ _ h => h) ?_ ?_
  rotate_left
  · intro w' hSw; (try dsimp only at hSw); go_simp <;> with_reducible rfl
  simp only [Act.put, List.setIfInBounds_toArray, List.set_cons_zero, List.set_cons_succ]
  refine heldTake 10 (some 15) (v := ?_) rfl rfl (by kernel_rfl) (by kernel_rfl) (by kernel_rfl) (by rfl) hHeld (fun _ _ _ h => h) ?_ ?_
  rotate_left
  · intro w' hSw; (try dsimp only at hSw); go_simp; rw [run_bytes_str (RdB.take hSw.1 hla hlc (Nat.le_refl _)), HT.out]; rfl
  simp only [Act.put, List.setIfInBounds_toArray, List.set_cons_zero, List.set_cons_succ]
  refine heldTake 11 (some 16) (v := ?_) rfl rfl (by kernel_rfl) (by kernel_rfl) (by kernel_rfl) (by rfl) hHeld (fun _ _ _ h => h) ?_ ?_
  rotate_left
  · intro w' hSw; (try dsimp only at hSw); go_simp <;> with_reducible rfl
  simp only [Act.put, List.setIfInBounds_toArray, List.set_cons_zero, List.set_cons_succ]
  refine heldTake 12 (some 17) (v := ?_) rfl rfl (by kernel_rfl) (by kernel_rfl) (by kernel_rfl) (by rfl) hHeld (fun _ _ _ h => h) ?_ ?_
  rotate_left
  · intro w' hSw; (try dsimp only at hSw); go_simp; rw [run_bytes_str hSw.2]; rfl
  simp only [Act.put, List.setIfInBounds_toArray, List.set_cons_zero, List.set_cons_succ]
  refine heldTake 13 (some 18) (v := ?_) rfl rfl (by kernel_rfl) (by kernel_rfl) (by kernel_rfl) (by rfl) hHeld (fun _ _ _ h => h) ?_ ?_
  rotate_left
  · intro w' hSw; (try dsimp only at hSw); go_simp <;> with_reducible rfl
  simp only [Act.put, List.setIfInBounds_toArray, List.set_cons_zero, List.set_cons_succ]
  refine heldTake 14 (some 19) (v := ?_) rfl rfl (by kernel_rfl) (by kernel_rfl) (by kernel_rfl) (by rfl) hHeld (fun _ _ _ h => h) ?_ ?_
  rotate_left
  · intro w' hSw; (try dsimp only at hSw); go_simp <;> with_reducible rfl
  simp only [Act.put, List.setIfInBounds_toArray, List.set_cons_zero, List.set_cons_succ]
  refine heldTake 15 (some 4) (v := ?_) rfl rfl (by kernel_rfl) (by kernel_rfl) (by kernel_rfl) (by rfl) hHeld (fun _ _ _ h => h) ?_ ?_
  rotate_left
  · intro w' hSw; (try dsimp only at hSw); go_simp <;> with_reducible rfl
  simp only [Act.put, List.setIfInBounds_toArray, List.set_cons_zero, List.set_cons_succ]
  refine wpAnyH_done (by kernel_rfl) ?_ _
  refine NoPanic.normal ?_
  go_wp2_with fail
  go_ret
  exact ⟨by simp, (Below.refl _ _).drew⟩

set_option maxRecDepth 100000 in
set_option maxHeartbeats 4000000 in
theorem lawSpare_mid (A : Option Addr) (c : Nat) (l : List UInt8) (cut n kd i : Int) (s : ByteArray) (w : World) (hc : l.length ≤ c) (hv : RdB w (· < w.heap.size) (.slice A l.length c) l)
    (hs : s.size ≤ maxLen) (hs2 : s.size ≤ 200) (hput : ∀ x ∈ [(⟨kd, i, s⟩ : Val)], putV x) (hR : (encR [(⟨kd, i, s⟩ : Val)]).length ≤ 2446) (hl : l.length ≤ 140737488351232) (n1 : -9223372036854775808 ≤ n) (n2 : n ≤ 9223372036854775807) (i1 : -9223372036854775808 ≤ i) (i2 : i ≤ 9223372036854775807)
    (hval : validV ⟨kd, i, s⟩ = true) (ka : Nat) (hk0 : 0 < ka) (hkl : ka ≤ l.length) (hcut : cut = (ka : Int)) :
    Calls Try.prog 5 #[.slice A l.length c, .int .i64 cut, .agg #[.int .i64 kd, .int .i64 i, .string s], .int .i64 n] w fun e w' => e = .returned (.bool true) ∧ Below w.heap.size w w' := by
  subst hcut
  have q1 : ¬ (l.length : Int) < (ka : Int) := by omega
  have q2 : (0 : Int) < (ka : Int) := by omega
  have hka : ka ≤ l.length := hkl
  have hkc : ka ≤ c := Nat.le_trans hka hc
  have hlt : (l.take ka).length ≤ l.length := by rw [List.length_take]; omega
  have HV := Lib.hid hval
  clear hval
  go_enter Try.func5, Try.ntmps5
  go_wp2_with fail
  (with_reducible refine (refValidValue_any kd i s _ hs).mono ?_)
  rw [HV.out]
  rintro e w1 ⟨rfl, rfl⟩
  have hB1 := below2 (w := w) (.cells #[.int .i64 kd, .int .i64 i, .string s] 37) (.cells #[.int .i64 kd, .int .i64 i, .string s] 37)
  have c0 := (((Below.of_alloc (w := w.alloc (.cells #[.int .i64 kd, .int .i64 i, .string s] 37)) (.cells #[.int .i64 kd, .int .i64 i, .string s] 37))).cell (p := ⟨w.heap.size, 0, none⟩) (by simp)).trans (box_cell w _ _ 0 rfl)
  have c1 := (((Below.of_alloc (w := w.alloc (.cells #[.int .i64 kd, .int .i64 i, .string s] 37)) (.cells #[.int .i64 kd, .int .i64 i, .string s] 37))).cell (p := ⟨w.heap.size, 1, none⟩) (by simp)).trans (box_cell w _ _ 1 rfl)
  have c2 := (((Below.of_alloc (w := w.alloc (.cells #[.int .i64 kd, .int .i64 i, .string s] 37)) (.cells #[.int .i64 kd, .int .i64 i, .string s] 37))).cell (p := ⟨w.heap.size, 2, none⟩) (by simp)).trans (box_cell w _ _ 2 rfl)
  have hz1 : w.heap.size < ((w.alloc (.cells #[.int .i64 kd, .int .i64 i, .string s] 37)).alloc (.cells #[.int .i64 kd, .int .i64 i, .string s] 37)).heap.size := by simp; omega
  generalize (w.alloc (.cells #[.int .i64 kd, .int .i64 i, .string s] 37)).alloc (.cells #[.int .i64 kd, .int .i64 i, .string s] 37) = w1 at *
  go_wp2_with fail
  rw [run_bytes_str (hv.below hB1)]
  go_wp2_with fail
  have hB2 := hB1.alloc hB1.size (.cells #[.int .i64 kd, .int .i64 i, .string s] 37)
  have hz2 : w.heap.size < (w1.alloc (.cells #[.int .i64 kd, .int .i64 i, .string s] 37)).heap.size := by simp; omega
  have hu : RdV (w1.alloc (.cells #[.int .i64 kd, .int .i64 i, .string s] 37)) (· < (w1.alloc (.cells #[.int .i64 kd, .int .i64 i, .string s] 37)).heap.size) (.slice (some ⟨w1.heap.size, 0, none⟩) 1 1) [⟨kd, i, s⟩] := (Rd.new w1 (cv [⟨kd, i, s⟩]) 37 3 1 rfl (by unfold maxLen; omega)).wide fun b hb => by simp; omega
  have c0 := ((Below.of_alloc (w := w1) (.cells #[.int .i64 kd, .int .i64 i, .string s] 37)).cell (p := ⟨w.heap.size, 0, none⟩) hz1).trans c0
  have c1 := ((Below.of_alloc (w := w1) (.cells #[.int .i64 kd, .int .i64 i, .string s] 37)).cell (p := ⟨w.heap.size, 1, none⟩) hz1).trans c1
  have c2 := ((Below.of_alloc (w := w1) (.cells #[.int .i64 kd, .int .i64 i, .string s] 37)).cell (p := ⟨w.heap.size, 2, none⟩) hz1).trans c2
  generalize w1.alloc (.cells #[.int .i64 kd, .int .i64 i, .string s] 37) = w2 at *
  have hbu := Below.refl w2.heap.size w2
  refine wp_region_noPanic ?_
  refine wp_region_held_drew (S := (fun w' => w'.cell? ⟨w.heap.size, 0, none⟩ = some (.int .i64 kd) ∧ w'.cell? ⟨w.heap.size, 1, none⟩ = some (.int .i64 i) ∧ w'.cell? ⟨w.heap.size, 2, none⟩ = some (.string s))) (by kernel_rfl) ?_ (fun hHeld => ?_)
  · exact ⟨c0, c1, c2⟩
  refine heldTake 0 (some 27) (v := ?_) rfl rfl (by kernel_rfl) (by kernel_rfl) (by kernel_rfl) (by rfl) hHeld (fun _ _ _ h => h) ?_ ?_
  rotate_left
  · intro w' hSw; (try dsimp only at hSw); go_simp <;> with_reducible rfl
  simp only [Act.put, List.setIfInBounds_toArray, List.set_cons_zero, List.set_cons_succ]
  refine heldTake 1 (some 28) (v := ?_) rfl rfl (by kernel_rfl) (by kernel_rfl) (by kernel_rfl) (by rfl) hHeld (fun _ _ _ h => h) ?_ ?_
  rotate_left
  · intro w' hSw; (try dsimp only at hSw); go_simp <;> with_reducible rfl
  simp only [Act.put, List.setIfInBounds_toArray, List.set_cons_zero, List.set_cons_succ]
  refine heldTake 2 (some 29) (v := ?_) rfl rfl (by kernel_rfl) (by kernel_rfl) (by kernel_rfl) (by rfl) hHeld (fun _ _ _ h => h) ?_ ?_
  rotate_left
  · intro w' hSw; (try dsimp only at hSw); go_simp <;> with_reducible rfl
  simp only [Act.put, List.setIfInBounds_toArray, List.set_cons_zero, List.set_cons_succ]
  refine heldTake 3 (some 30) (v := ?_) rfl rfl (by kernel_rfl) (by kernel_rfl) (by kernel_rfl) (by rfl) hHeld (fun _ _ _ h => h) ?_ ?_
  rotate_left
  · intro w' hSw; (try dsimp only at hSw); go_simp <;> with_reducible rfl
  simp only [Act.put, List.setIfInBounds_toArray, List.set_cons_zero, List.set_cons_succ]
  refine heldTake 5 (some 32) (v := ?_) rfl rfl (by kernel_rfl) (by kernel_rfl) (by kernel_rfl) (by rfl) hHeld (fun _ _ _ h => h) ?_ ?_
  rotate_left
  · intro w' hSw; (try dsimp only at hSw); go_simp <;> with_reducible rfl
  simp only [Act.put, List.setIfInBounds_toArray, List.set_cons_zero, List.set_cons_succ]
  refine heldTake 6 (some 33) (v := ?_) rfl rfl (by kernel_rfl) (by kernel_rfl) (by kernel_rfl) (by rfl) hHeld (fun _ _ _ h => h) ?_ ?_
  rotate_left
  · intro w' hSw; (try dsimp only at hSw); go_simp <;> with_reducible rfl
  simp only [Act.put, List.setIfInBounds_toArray, List.set_cons_zero, List.set_cons_succ]
  refine heldTake 7 (some 34) (v := ?_) rfl rfl (by kernel_rfl) (by kernel_rfl) (by kernel_rfl) (by rfl) hHeld (fun _ _ _ h => h) ?_ ?_
  rotate_left
  · intro w' hSw; (try dsimp only at hSw); go_simp <;> with_reducible rfl
  simp only [Act.put, List.setIfInBounds_toArray, List.set_cons_zero, List.set_cons_succ]
  refine heldTake 9 (some 36) (v := ?_) rfl rfl (by kernel_rfl) (by kernel_rfl) (by kernel_rfl) (by rfl) hHeld (fun _ _ _ h => h) ?_ ?_
  rotate_left
  · intro w' hSw; (try dsimp only at hSw); go_simp <;> with_reducible rfl
  simp only [Act.put, List.setIfInBounds_toArray, List.set_cons_zero, List.set_cons_succ]
  refine heldTake 10 (some 37) (v := ?_) rfl rfl (by kernel_rfl) (by kernel_rfl) (by kernel_rfl) (by rfl) hHeld (fun _ _ _ h => h) ?_ ?_
  rotate_left
  · intro w' hSw; (try dsimp only at hSw); go_simp <;> with_reducible rfl
  simp only [Act.put, List.setIfInBounds_toArray, List.set_cons_zero, List.set_cons_succ]
  refine heldTake 11 (some 38) (v := ?_) rfl rfl (by kernel_rfl) (by kernel_rfl) (by kernel_rfl) (by rfl) hHeld (fun _ _ _ h => h) ?_ ?_
  rotate_left
  · intro w' hSw; (try dsimp only at hSw); go_simp <;> with_reducible rfl
  simp only [Act.put, List.setIfInBounds_toArray, List.set_cons_zero, List.set_cons_succ]
  refine heldTake 12 (some 39) (v := ?_) rfl rfl (by kernel_rfl) (by kernel_rfl) (by kernel_rfl) (by rfl) hHeld (fun _ _ _ h => h) ?_ ?_
  rotate_left
  · intro w' hSw; (try dsimp only at hSw); go_simp <;> with_reducible rfl
  simp only [Act.put, List.setIfInBounds_toArray, List.set_cons_zero, List.set_cons_succ]
  refine heldTake 14 (some 41) (v := ?_) rfl rfl (by kernel_rfl) (by kernel_rfl) (by kernel_rfl) (by rfl) hHeld (fun _ _ _ h => h) ?_ ?_
  rotate_left
  · intro w' hSw; (try dsimp only at hSw); go_simp <;> with_reducible rfl
  simp only [Act.put, List.setIfInBounds_toArray, List.set_cons_zero, List.set_cons_succ]
  refine heldTake 15 (some 42) (v := ?_) rfl rfl (by kernel_rfl) (by kernel_rfl) (by kernel_rfl) (by rfl) hHeld (fun _ _ _ h => h) ?_ ?_
  rotate_left
  · intro w' hSw; (try dsimp only at hSw); go_simp <;> with_reducible rfl
  simp only [Act.put, List.setIfInBounds_toArray, List.set_cons_zero, List.set_cons_succ]
  refine heldTake 16 (some 43) (v := ?_) rfl rfl (by kernel_rfl) (by kernel_rfl) (by kernel_rfl) (by rfl) hHeld (fun _ _ _ h => h) ?_ ?_
  rotate_left
  · intro w' hSw; (try dsimp only at hSw); go_simp <;> with_reducible rfl
  simp only [Act.put, List.setIfInBounds_toArray, List.set_cons_zero, List.set_cons_succ]
  refine heldTake 17 (some 44) (v := ?_) rfl rfl (by kernel_rfl) (by kernel_rfl) (by kernel_rfl) (by rfl) hHeld (fun _ _ _ h => h) ?_ ?_
  rotate_left
  · intro w' hSw; (try dsimp only at hSw); go_simp <;> with_reducible rfl
  simp only [Act.put, List.setIfInBounds_toArray, List.set_cons_zero, List.set_cons_succ]
  refine heldTake 19 (some 46) (v := ?_) rfl rfl (by kernel_rfl) (by kernel_rfl) (by kernel_rfl) (by rfl) hHeld (fun _ _ _ h => h) ?_ ?_
  rotate_left
  · intro w' hSw; (try dsimp only at hSw); go_simp <;> with_reducible rfl
  simp only [Act.put, List.setIfInBounds_toArray, List.set_cons_zero, List.set_cons_succ]
  refine heldTake 20 (some 47) (v := ?_) rfl rfl (by kernel_rfl) (by kernel_rfl) (by kernel_rfl) (by rfl) hHeld (fun _ _ _ h => h) ?_ ?_
  rotate_left
  · intro w' hSw; (try dsimp only at hSw); go_simp <;> with_reducible rfl
  simp only [Act.put, List.setIfInBounds_toArray, List.set_cons_zero, List.set_cons_succ]
  refine heldTake 21 (some 48) (v := ?_) rfl rfl (by kernel_rfl) (by kernel_rfl) (by kernel_rfl) (by rfl) hHeld (fun _ _ _ h => h) ?_ ?_
  rotate_left
  · intro w' hSw; (try dsimp only at hSw); go_simp <;> with_reducible rfl
  simp only [Act.put, List.setIfInBounds_toArray, List.set_cons_zero, List.set_cons_succ]
  refine heldTake 22 (some 49) (v := ?_) rfl rfl (by kernel_rfl) (by kernel_rfl) (by kernel_rfl) (by rfl) hHeld (fun _ _ _ h => h) ?_ ?_
  rotate_left
  · intro w' hSw; (try dsimp only at hSw); go_simp <;> with_reducible rfl
  simp only [Act.put, List.setIfInBounds_toArray, List.set_cons_zero, List.set_cons_succ]
  refine heldTake 23 (some 50) (v := ?_) rfl rfl (by kernel_rfl) (by kernel_rfl) (by kernel_rfl) (by rfl) hHeld (fun _ _ _ h => h) ?_ ?_
  rotate_left
  · intro w' hSw; (try dsimp only at hSw); go_simp <;> with_reducible rfl
  simp only [Act.put, List.setIfInBounds_toArray, List.set_cons_zero, List.set_cons_succ]
  refine heldTake 24 (some 51) (v := ?_) rfl rfl (by kernel_rfl) (by kernel_rfl) (by kernel_rfl) (by rfl) hHeld (fun _ _ _ h => h) ?_ ?_
  rotate_left
  · intro w' hSw; (try dsimp only at hSw); go_simp <;> with_reducible rfl
  simp only [Act.put, List.setIfInBounds_toArray, List.set_cons_zero, List.set_cons_succ]
  refine heldCall 4 (some 31) (f := ?_) (args := ?_) rfl rfl (by kernel_rfl) (by rfl) ?_ ?_
  rotate_left 2
  · go_simp <;> first | (constructor <;> with_reducible rfl) | with_reducible rfl
  (with_reducible refine (putInt_any (.slice A ka c) (l.take ka) n _ n1 n2 ?_ ?_).mono ?_)
  · exact (hv.below hB2.drew).take hka hkc (Nat.le_refl _)
  · omega
  rintro e w3 ⟨v3, rfl, ho3, hb3⟩
  have hB3 := hB2.drew.trans (hb3.mono hB2.drew.size)
  have hz3 : w.heap.size < w3.heap.size := Nat.lt_of_lt_of_le hz2 hb3.size
  have c0 := (hb3.cell (p := ⟨w.heap.size, 0, none⟩) hz2).trans c0
  have c1 := (hb3.cell (p := ⟨w.heap.size, 1, none⟩) hz2).trans c1
  have c2 := (hb3.cell (p := ⟨w.heap.size, 2, none⟩) hz2).trans c2
  obtain ⟨L3, hN3, hO3⟩ : ∃ L, (∃ r, L = l.take ka ++ r ∧ 0 < r.length) ∧ RdB w3 (· < w3.heap.size) v3 L := ⟨_, ⟨_, rfl, encI_pos _⟩, ho3.rd⟩
  clear ho3
  obtain ⟨A3, c3, rfl, _, _, _⟩ := hO3.open_
  refine ⟨_, rfl, keepAnd ?_ (fun hNew => ?_)⟩
  · exact ⟨c0, c1, c2⟩
  clear hHeld
  have hHeld := hNew
  clear hNew
  simp only [Act.put, List.setIfInBounds_toArray, List.set_cons_zero, List.set_cons_succ]
  refine heldCall 8 (some 35) (f := ?_) (args := ?_) rfl rfl (by kernel_rfl) (by rfl) ?_ ?_
  rotate_left 2
  · go_simp <;> first | (constructor <;> with_reducible rfl) | with_reducible rfl
  (with_reducible refine (putText_any (.slice A ka c) (l.take ka) ⟨#[116, 101, 120, 116]⟩ _ ?_ ?_).mono ?_)
  · exact (hv.below hB3).take hka hkc (Nat.le_refl _)
  · rw [text4]; omega
  rintro e w4 ⟨v4, rfl, ho4, hb4⟩
  have hB4 := hB3.trans (hb4.mono hB3.size)
  have hz4 : w.heap.size < w4.heap.size := Nat.lt_of_lt_of_le hz3 hb4.size
  have c0 := (hb4.cell (p := ⟨w.heap.size, 0, none⟩) hz3).trans c0
  have c1 := (hb4.cell (p := ⟨w.heap.size, 1, none⟩) hz3).trans c1
  have c2 := (hb4.cell (p := ⟨w.heap.size, 2, none⟩) hz3).trans c2
  obtain ⟨L4, hN4, hO4⟩ : ∃ L, (∃ r, L = l.take ka ++ r ∧ 0 < r.length) ∧ RdB w4 (· < w4.heap.size) v4 L := ⟨_, ⟨_, rfl, text_pos⟩, ho4.rd⟩
  clear ho4
  obtain ⟨A4, c4, rfl, _, _, _⟩ := hO4.open_
  refine ⟨_, rfl, keepAnd ?_ (fun hNew => ?_)⟩
  · exact ⟨c0, c1, c2⟩
  clear hHeld
  have hHeld := hNew
  clear hNew
  simp only [Act.put, List.setIfInBounds_toArray, List.set_cons_zero, List.set_cons_succ]
  refine heldCall 13 (some 40) (f := ?_) (args := ?_) rfl rfl (by kernel_rfl) (by rfl) ?_ ?_
  rotate_left 2
  · go_simp <;> first | (constructor <;> with_reducible rfl) | with_reducible rfl
  (with_reducible refine (putValue_any (.slice A ka c) (l.take ka) ⟨kd, i, s⟩ _ i1 i2 ?_ ?_).mono ?_)
  · exact (hv.below hB4).take hka hkc (Nat.le_refl _)
  · simp only; omega
  rintro e w5 ⟨v5, rfl, ho5, hb5⟩
  have hB5 := hB4.trans (hb5.mono hB4.size)
  have hz5 : w.heap.size < w5.heap.size := Nat.lt_of_lt_of_le hz4 hb5.size
  have c0 := (hb5.cell (p := ⟨w.heap.size, 0, none⟩) hz4).trans c0
  have c1 := (hb5.cell (p := ⟨w.heap.size, 1, none⟩) hz4).trans c1
  have c2 := (hb5.cell (p := ⟨w.heap.size, 2, none⟩) hz4).trans c2
  obtain ⟨L5, hN5, hO5⟩ : ∃ L, (∃ r, L = l.take ka ++ r ∧ 0 < r.length) ∧ RdB w5 (· < w5.heap.size) v5 L := ⟨_, ⟨_, rfl, encV_pos _⟩, ho5.rd⟩
  clear ho5
  obtain ⟨A5, c5, rfl, _, _, _⟩ := hO5.open_
  refine ⟨_, rfl, keepAnd ?_ (fun hNew => ?_)⟩
  · exact ⟨c0, c1, c2⟩
  clear hHeld
  have hHeld := hNew
  clear hNew
  simp only [Act.put, List.setIfInBounds_toArray, List.set_cons_zero, List.set_cons_succ]
  refine heldCall 18 (some 45) (f := ?_) (args := ?_) rfl rfl (by kernel_rfl) (by rfl) ?_ ?_
  rotate_left 2
  · go_simp <;> first | (constructor <;> with_reducible rfl) | with_reducible rfl
  (with_reducible refine (putRow_any (.slice A ka c) _ (l.take ka) [⟨kd, i, s⟩] _ ?_ ?_ hput ?_).mono ?_)
  · exact (hv.below hB5).take hka hkc (Nat.le_refl _)
  · exact (hu.below hbu.drew).below (hb3.trans ((hb4.trans (hb5.mono hb4.size)).mono hb3.size))
  · omega
  rintro e w6 ⟨v6, rfl, ho6, hb6⟩
  have hB6 := hB5.trans (hb6.mono hB5.size)
  have hz6 : w.heap.size < w6.heap.size := Nat.lt_of_lt_of_le hz5 hb6.size
  have c0 := (hb6.cell (p := ⟨w.heap.size, 0, none⟩) hz5).trans c0
  have c1 := (hb6.cell (p := ⟨w.heap.size, 1, none⟩) hz5).trans c1
  have c2 := (hb6.cell (p := ⟨w.heap.size, 2, none⟩) hz5).trans c2
  obtain ⟨L6, hN6, hO6⟩ : ∃ L, (∃ r, L = l.take ka ++ r ∧ 0 < r.length) ∧ RdB w6 (· < w6.heap.size) v6 L := ⟨_, ⟨_, rfl, encR_pos _⟩, ho6.rd⟩
  clear ho6
  obtain ⟨A6, c6, rfl, _, _, _⟩ := hO6.open_
  refine ⟨_, rfl, keepAnd ?_ (fun hNew => ?_)⟩
  · exact ⟨c0, c1, c2⟩
  clear hHeld
  have hHeld := hNew
  clear hNew
  simp only [Act.put, List.setIfInBounds_toArray, List.set_cons_zero, List.set_cons_succ]
  refine heldCall 25 (some 52) (f := ?_) (args := ?_) rfl rfl (by kernel_rfl) (by rfl) ?_ ?_
  rotate_left 2
  · go_simp <;> first | (constructor <;> with_reducible rfl) | with_reducible rfl
  (with_reducible refine (putPeriod_any (.slice A ka c) (l.take ka) n n _ n1 n2 n1 n2 ?_ ?_).mono ?_)
  · exact (hv.below hB6).take hka hkc (Nat.le_refl _)
  · omega
  rintro e w7 ⟨v7, rfl, ho7, hb7⟩
  have hB7 := hB6.trans (hb7.mono hB6.size)
  have hz7 : w.heap.size < w7.heap.size := Nat.lt_of_lt_of_le hz6 hb7.size
  have c0 := (hb7.cell (p := ⟨w.heap.size, 0, none⟩) hz6).trans c0
  have c1 := (hb7.cell (p := ⟨w.heap.size, 1, none⟩) hz6).trans c1
  have c2 := (hb7.cell (p := ⟨w.heap.size, 2, none⟩) hz6).trans c2
  obtain ⟨L7, hN7, hO7⟩ : ∃ L, (∃ r, L = l.take ka ++ r ∧ 0 < r.length) ∧ RdB w7 (· < w7.heap.size) v7 L := ⟨_, ⟨_, rfl, two_pos _ _⟩, ho7.rd⟩
  clear ho7
  obtain ⟨A7, c7, rfl, _, _, _⟩ := hO7.open_
  refine ⟨_, rfl, keepAnd ?_ (fun hNew => ?_)⟩
  · exact ⟨c0, c1, c2⟩
  clear hHeld
  have hHeld := hNew
  clear hNew
  simp only [Act.put, List.setIfInBounds_toArray, List.set_cons_zero, List.set_cons_succ]
  have hNew : (fun w' => w'.cell? ⟨w.heap.size, 0, none⟩ = some (.int .i64 kd) ∧ w'.cell? ⟨w.heap.size, 1, none⟩ = some (.int .i64 i) ∧ w'.cell? ⟨w.heap.size, 2, none⟩ = some (.string s)) (w7.alloc (.cells #[.slice A3 L3.length c3, .slice A4 L4.length c4, .slice A5 L5.length c5, .slice A6 L6.length c6, .slice A7 L7.length c7] 22)) := by exact ⟨((Below.of_alloc (w := w7) (.cells #[.slice A3 L3.length c3, .slice A4 L4.length c4, .slice A5 L5.length c5, .slice A6 L6.length c6, .slice A7 L7.length c7] 22)).cell (p := ⟨w.heap.size, 0, none⟩) hz7).trans c0, ((Below.of_alloc (w := w7) (.cells #[.slice A3 L3.length c3, .slice A4 L4.length c4, .slice A5 L5.length c5, .slice A6 L6.length c6, .slice A7 L7.length c7] 22)).cell (p := ⟨w.heap.size, 1, none⟩) hz7).trans c1, ((Below.of_alloc (w := w7) (.cells #[.slice A3 L3.length c3, .slice A4 L4.length c4, .slice A5 L5.length c5, .slice A6 L6.length c6, .slice A7 L7.length c7] 22)).cell (p := ⟨w.heap.size, 2, none⟩) hz7).trans c2⟩
  refine heldRun 26 (some 53) (v := .slice (some ⟨w7.heap.size, 0, none⟩) 5 5) (w' := w7.alloc (.cells #[.slice A3 L3.length c3, .slice A4 L4.length c4, .slice A5 L5.length c5, .slice A6 L6.length c6, .slice A7 L7.length c7] 22)) rfl rfl (by kernel_rfl) (by rfl) ?_ hNew ?_
  · go_simp
  clear hHeld
  have hHeld := hNew
  clear hNew
  simp only [Act.put, List.setIfInBounds_toArray, List.set_cons_zero, List.set_cons_succ]
  refine heldTake 27 (some 12) (v := ?_) rfl rfl (by kernel_rfl) (by kernel_rfl) (by kernel_rfl) (by rfl) hHeld (fun _ _ _ h => h) ?_ ?_
  rotate_left
  · intro w' hSw; (try dsimp only at hSw); go_simp <;> with_reducible rfl
  simp only [Act.put, List.setIfInBounds_toArray, List.set_cons_zero, List.set_cons_succ]
  refine wpAnyH_done (by kernel_rfl) ?_ _
  refine NoPanic.normal ?_
  have hB8 := hB7.alloc hB7.size (.cells #[.slice A3 L3.length c3, .slice A4 L4.length c4, .slice A5 L5.length c5, .slice A6 L6.length c6, .slice A7 L7.length c7] 22)
  have hb8 := Below.of_alloc (w := w7) (.cells #[.slice A3 L3.length c3, .slice A4 L4.length c4, .slice A5 L5.length c5, .slice A6 L6.length c6, .slice A7 L7.length c7] 22)
  have hcell : ∀ k : Nat, k < 5 → ∃ A' c' L', (w7.alloc (.cells #[.slice A3 L3.length c3, .slice A4 L4.length c4, .slice A5 L5.length c5, .slice A6 L6.length c6, .slice A7 L7.length c7] 22)).cell? ⟨w7.heap.size, k, none⟩ = some (.slice A' (List.length L') c') ∧ RdB (w7.alloc (.cells #[.slice A3 L3.length c3, .slice A4 L4.length c4, .slice A5 L5.length c5, .slice A6 L6.length c6, .slice A7 L7.length c7] 22)) (· < (w7.alloc (.cells #[.slice A3 L3.length c3, .slice A4 L4.length c4, .slice A5 L5.length c5, .slice A6 L6.length c6, .slice A7 L7.length c7] 22)).heap.size) (.slice A' (List.length L') c') L' ∧ ∃ r, L' = l.take ka ++ r ∧ 0 < r.length := by
    intro k hk
    have h67 := hb7.trans (hb8.mono hb7.size)
    have h57 := hb6.trans (h67.mono hb6.size)
    have h47 := hb5.trans (h57.mono hb5.size)
    have h37 := hb4.trans (h47.mono hb4.size)
    obtain rfl | rfl | rfl | rfl | rfl : k = 0 ∨ k = 1 ∨ k = 2 ∨ k = 3 ∨ k = 4 := by omega
    · exact ⟨_, _, _, box_cell w7 _ _ 0 rfl, hO3.below h37, hN3⟩
    · exact ⟨_, _, _, box_cell w7 _ _ 1 rfl, hO4.below h47, hN4⟩
    · exact ⟨_, _, _, box_cell w7 _ _ 2 rfl, hO5.below h57, hN5⟩
    · exact ⟨_, _, _, box_cell w7 _ _ 3 rfl, hO6.below h67, hN6⟩
    · exact ⟨_, _, _, box_cell w7 _ _ 4 rfl, hO7.below hb8, hN7⟩
  have hz8 : w7.heap.size < (w7.alloc (.cells #[.slice A3 L3.length c3, .slice A4 L4.length c4, .slice A5 L5.length c5, .slice A6 L6.length c6, .slice A7 L7.length c7] 22)).heap.size := by simp
  generalize w7.alloc (.cells #[.slice A3 L3.length c3, .slice A4 L4.length c4, .slice A5 L5.length c5, .slice A6 L6.length c6, .slice A7 L7.length c7] 22) = w8 at *
  go_wp2_with fail
  go_loopw [56] (fun i wr => SameRel w8 5 i wr) (fun i _ => 5 - (intOf i).toNat)
  case atStart => exact ⟨0, Nat.zero_le _, rfl, Below.refl _ _⟩
  case round =>
    obtain ⟨k, hk, rfl, hB⟩ := hrel
    obtain ⟨wo, rfl⟩ : ∃ wo : World, wo = wr := ⟨_, rfl⟩
    have hBo := hB8.trans (hB.mono hB8.size)
    by_cases hlt : k < 5
    · obtain ⟨A', c', L', g0, hO', r, hL', hr⟩ := hcell k hlt
      have g0 := (hB.cell (p := ⟨w7.heap.size, k, none⟩) hz8).trans g0
      have hO' := hO'.below hB
      have hF' : w7.heap.size < wo.heap.size := Nat.lt_of_lt_of_le hz8 hB.size
      have i1 : (0 : Int) ≤ (k : Int) := by omega
      have i2 : (k : Int) < 5 := by omega
      have hgt : (ka : Int) < (L'.length : Int) := by rw [hL', List.length_append, List.length_take]; omega
      have hne : ¬ L' = [] := fun h => by rw [h] at hgt; simp only [List.length_nil] at hgt; omega
      have HL' := Lib.hid hL'
      clear hL' hr
      go_wp2_with fail
      refine wp_region_noPanic ?_
      refine wp_region_held_drew (S := (fun w' => w'.cell? ⟨w7.heap.size, k, none⟩ = some (.slice A' L'.length c'))) (by kernel_rfl) ?_ (fun hHeld => ?_)
      · exact g0
      refine heldTake 0 (some 59) (v := ?_) rfl rfl (by kernel_rfl) (by kernel_rfl) (by kernel_rfl) (by rfl) hHeld (fun _ _ _ h => h) ?_ ?_
      rotate_left
      · intro w' hSw; (try dsimp only at hSw); go_simp <;> with_reducible rfl
      simp only [Act.put, List.setIfInBounds_toArray, List.set_cons_zero, List.set_cons_succ]
      refine heldTake 1 (some 60) (v := ?_) rfl rfl (by kernel_rfl) (by kernel_rfl) (by kernel_rfl) (by rfl) hHeld (fun _ _ _ h => h) ?_ ?_
      rotate_left
      · intro w' hSw; (try dsimp only at hSw); go_simp <;> with_reducible rfl
      simp only [Act.put, List.setIfInBounds_toArray, List.set_cons_zero, List.set_cons_succ]
      refine heldTake 2 (some 61) (v := ?_) rfl rfl (by kernel_rfl) (by kernel_rfl) (by kernel_rfl) (by rfl) hHeld (fun _ _ _ h => h) ?_ ?_
      rotate_left
      · intro w' hSw; (try dsimp only at hSw); go_simp <;> with_reducible rfl
      simp only [Act.put, List.setIfInBounds_toArray, List.set_cons_zero, List.set_cons_succ]
      refine heldTake 3 (some 62) (v := ?_) rfl rfl (by kernel_rfl) (by kernel_rfl) (by kernel_rfl) (by rfl) hHeld (fun _ _ _ h => h) ?_ ?_
      rotate_left
      · intro w' hSw; (try dsimp only at hSw); go_simp <;> with_reducible rfl
      simp only [Act.put, List.setIfInBounds_toArray, List.set_cons_zero, List.set_cons_succ]
      refine heldTake 4 (some 63) (v := ?_) rfl rfl (by kernel_rfl) (by kernel_rfl) (by kernel_rfl) (by rfl) hHeld (fun _ _ _ h => h) ?_ ?_
      rotate_left
      · intro w' hSw; (try dsimp only at hSw); go_simp <;> with_reducible rfl
      simp only [Act.put, List.setIfInBounds_toArray, List.set_cons_zero, List.set_cons_succ]
      refine heldTake 5 (some 64) (v := ?_) rfl rfl (by kernel_rfl) (by kernel_rfl) (by kernel_rfl) (by rfl) hHeld (fun _ _ _ h => h) ?_ ?_
      rotate_left
      · intro w' hSw; (try dsimp only at hSw); go_simp <;> with_reducible rfl
      simp only [Act.put, List.setIfInBounds_toArray, List.set_cons_zero, List.set_cons_succ]
      refine heldTake 6 (some 65) (v := ?_) rfl rfl (by kernel_rfl) (by kernel_rfl) (by kernel_rfl) (by rfl) hHeld (fun _ _ _ h => h) ?_ ?_
      rotate_left
      · intro w' hSw; (try dsimp only at hSw); go_simp <;> with_reducible rfl
      simp only [Act.put, List.setIfInBounds_toArray, List.set_cons_zero, List.set_cons_succ]
      refine heldCall 7 (some 66) (f := ?_) (args := ?_) rfl rfl (by kernel_rfl) (by rfl) ?_ ?_
      rotate_left 2
      · go_simp <;> first | (constructor <;> with_reducible rfl) | with_reducible rfl
      (with_reducible refine (begins_same _ _ L' (l.take ka) r _ (· < wo.heap.size) HL'.out ?_ ?_).mono ?_)
      · exact hO'
      · exact (hv.below hBo).take hka hkc (Nat.le_refl _)
      rintro e w9 ⟨rfl, hb9⟩
      refine ⟨_, rfl, keepAnd ?_ (fun hNew => ?_)⟩
      · exact (hb9.cell (p := ⟨w7.heap.size, k, none⟩) hF').trans g0
      clear hHeld
      have hHeld := hNew
      clear hNew
      simp only [Act.put, List.setIfInBounds_toArray, List.set_cons_zero, List.set_cons_succ]
      refine heldTake 8 (some 67) (v := ?_) rfl rfl (by kernel_rfl) (by kernel_rfl) (by kernel_rfl) (by rfl) hHeld (fun _ _ _ h => h) ?_ ?_
      rotate_left
      · intro w' hSw; (try dsimp only at hSw); go_simp <;> with_reducible rfl
      simp only [Act.put, List.setIfInBounds_toArray, List.set_cons_zero, List.set_cons_succ]
      refine heldTake 9 (some 68) (v := ?_) rfl rfl (by kernel_rfl) (by kernel_rfl) (by kernel_rfl) (by rfl) hHeld (fun _ _ _ h => h) ?_ ?_
      rotate_left
      · intro w' hSw; (try dsimp only at hSw); go_simp <;> with_reducible rfl
      simp only [Act.put, List.setIfInBounds_toArray, List.set_cons_zero, List.set_cons_succ]
      refine heldTake 10 (some 69) (v := ?_) rfl rfl (by kernel_rfl) (by kernel_rfl) (by kernel_rfl) (by rfl) hHeld (fun _ _ _ h => h) ?_ ?_
      rotate_left
      · intro w' hSw; (try dsimp only at hSw); go_simp <;> with_reducible rfl
      simp only [Act.put, List.setIfInBounds_toArray, List.set_cons_zero, List.set_cons_succ]
      refine heldTake 11 (some 70) (v := ?_) rfl rfl (by kernel_rfl) (by kernel_rfl) (by kernel_rfl) (by rfl) hHeld (fun _ _ _ h => h) ?_ ?_
      rotate_left
      · intro w' hSw; (try dsimp only at hSw); go_simp <;> with_reducible rfl
      simp only [Act.put, List.setIfInBounds_toArray, List.set_cons_zero, List.set_cons_succ]
      refine heldTake 12 (some 71) (v := ?_) rfl rfl (by kernel_rfl) (by kernel_rfl) (by kernel_rfl) (by rfl) hHeld (fun _ _ _ h => h) ?_ ?_
      rotate_left
      · intro w' hSw; (try dsimp only at hSw); go_simp <;> with_reducible rfl
      simp only [Act.put, List.setIfInBounds_toArray, List.set_cons_zero, List.set_cons_succ]
      refine heldTake 13 (some 72) (v := ?_) rfl rfl (by kernel_rfl) (by kernel_rfl) (by kernel_rfl) (by rfl) hHeld (fun _ _ _ h => h) ?_ ?_
      rotate_left
      · intro w' hSw; (try dsimp only at hSw); go_simp <;> with_reducible rfl
      simp only [Act.put, List.setIfInBounds_toArray, List.set_cons_zero, List.set_cons_succ]
      refine heldTake 14 (some 73) (v := ?_) rfl rfl (by kernel_rfl) (by kernel_rfl) (by kernel_rfl) (by rfl) hHeld (fun _ _ _ h => h) ?_ ?_
      rotate_left
      · intro w' hSw; (try dsimp only at hSw); go_simp <;> with_reducible rfl
      simp only [Act.put, List.setIfInBounds_toArray, List.set_cons_zero, List.set_cons_succ]
      refine heldTake 15 (some 74) (v := ?_) rfl rfl (by kernel_rfl) (by kernel_rfl) (by kernel_rfl) (by rfl) hHeld (fun _ _ _ h => h) ?_ ?_
      rotate_left
      · intro w' hSw; (try dsimp only at hSw); go_simp <;> with_reducible rfl
      simp only [Act.put, List.setIfInBounds_toArray, List.set_cons_zero, List.set_cons_succ]
      refine heldTake 16 (some 75) (v := ?_) rfl rfl (by kernel_rfl) (by kernel_rfl) (by kernel_rfl) (by rfl) hHeld (fun _ _ _ h => h) ?_ ?_
      rotate_left
      · intro w' hSw; (try dsimp only at hSw); go_simp <;> with_reducible rfl
      simp only [Act.put, List.setIfInBounds_toArray, List.set_cons_zero, List.set_cons_succ]
      refine heldTake 17 (some 76) (v := ?_) rfl rfl (by kernel_rfl) (by kernel_rfl) (by kernel_rfl) (by rfl) hHeld (fun _ _ _ h => h) ?_ ?_
      rotate_left
      · intro w' hSw; (try dsimp only at hSw); go_simp <;> with_reducible rfl
      simp only [Act.put, List.setIfInBounds_toArray, List.set_cons_zero, List.set_cons_succ]
      refine wpAnyH_done (by kernel_rfl) ?_ _
      refine NoPanic.normal ?_
      go_wp2_with fail
      go_roundw
      case rel => exact ⟨k + 1, by omega, by go_num, hB.drew.trans (hb9.mono hB.drew.size)⟩
      case measure => simp [intOf]; omega
    · have hk5 : k = 5 := by omega
      subst hk5
      go_wp2_with fail
      rw [run_bytes_str (hv.below hBo)]
      go_wp2_with fail
      (with_reducible refine (works_any _).mono ?_)
      rintro e w9 ⟨rfl, hb9⟩
      go_wp2_with fail
      go_ret
      exact ⟨rfl, hBo.trans (hb9.mono hBo.size)⟩

set_option maxRecDepth 100000 in
set_option maxHeartbeats 4000000 in
theorem lawSpare_low (A : Option Addr) (c : Nat) (l : List UInt8) (cut n kd i : Int) (s : ByteArray) (w : World) (hc : l.length ≤ c) (hv : RdB w (· < w.heap.size) (.slice A l.length c) l)
    (hs : s.size ≤ maxLen) (hs2 : s.size ≤ 200) (hput : ∀ x ∈ [(⟨kd, i, s⟩ : Val)], putV x) (hR : (encR [(⟨kd, i, s⟩ : Val)]).length ≤ 2446) (hl : l.length ≤ 140737488351232) (n1 : -9223372036854775808 ≤ n) (n2 : n ≤ 9223372036854775807) (i1 : -9223372036854775808 ≤ i) (i2 : i ≤ 9223372036854775807)
    (hval : validV ⟨kd, i, s⟩ = true) (hcut : cut ≤ 0) :
    Calls Try.prog 5 #[.slice A l.length c, .int .i64 cut, .agg #[.int .i64 kd, .int .i64 i, .string s], .int .i64 n] w fun e w' => e = .returned (.bool true) ∧ Below w.heap.size w w' := by
  have q1 : ¬ (l.length : Int) < cut := by omega
  have q2 : ¬ (0 : Int) < cut := by omega
  have hka : 0 ≤ l.length := Nat.zero_le _
  have hkc : 0 ≤ c := Nat.le_trans hka hc
  have hlt : (l.take 0).length ≤ l.length := by rw [List.length_take]; omega
  have HV := Lib.hid hval
  clear hval
  go_enter Try.func5, Try.ntmps5
  go_wp2_with fail
  (with_reducible refine (refValidValue_any kd i s _ hs).mono ?_)
  rw [HV.out]
  rintro e w1 ⟨rfl, rfl⟩
  have hB1 := below2 (w := w) (.cells #[.int .i64 kd, .int .i64 i, .string s] 37) (.cells #[.int .i64 kd, .int .i64 i, .string s] 37)
  have c0 := (((Below.of_alloc (w := w.alloc (.cells #[.int .i64 kd, .int .i64 i, .string s] 37)) (.cells #[.int .i64 kd, .int .i64 i, .string s] 37))).cell (p := ⟨w.heap.size, 0, none⟩) (by simp)).trans (box_cell w _ _ 0 rfl)
  have c1 := (((Below.of_alloc (w := w.alloc (.cells #[.int .i64 kd, .int .i64 i, .string s] 37)) (.cells #[.int .i64 kd, .int .i64 i, .string s] 37))).cell (p := ⟨w.heap.size, 1, none⟩) (by simp)).trans (box_cell w _ _ 1 rfl)
  have c2 := (((Below.of_alloc (w := w.alloc (.cells #[.int .i64 kd, .int .i64 i, .string s] 37)) (.cells #[.int .i64 kd, .int .i64 i, .string s] 37))).cell (p := ⟨w.heap.size, 2, none⟩) (by simp)).trans (box_cell w _ _ 2 rfl)
  have hz1 : w.heap.size < ((w.alloc (.cells #[.int .i64 kd, .int .i64 i, .string s] 37)).alloc (.cells #[.int .i64 kd, .int .i64 i, .string s] 37)).heap.size := by simp; omega
  generalize (w.alloc (.cells #[.int .i64 kd, .int .i64 i, .string s] 37)).alloc (.cells #[.int .i64 kd, .int .i64 i, .string s] 37) = w1 at *
  go_wp2_with fail
  rw [run_bytes_str (hv.below hB1)]
  go_wp2_with fail
  have hB2 := hB1.alloc hB1.size (.cells #[.int .i64 kd, .int .i64 i, .string s] 37)
  have hz2 : w.heap.size < (w1.alloc (.cells #[.int .i64 kd, .int .i64 i, .string s] 37)).heap.size := by simp; omega
  have hu : RdV (w1.alloc (.cells #[.int .i64 kd, .int .i64 i, .string s] 37)) (· < (w1.alloc (.cells #[.int .i64 kd, .int .i64 i, .string s] 37)).heap.size) (.slice (some ⟨w1.heap.size, 0, none⟩) 1 1) [⟨kd, i, s⟩] := (Rd.new w1 (cv [⟨kd, i, s⟩]) 37 3 1 rfl (by unfold maxLen; omega)).wide fun b hb => by simp; omega
  have c0 := ((Below.of_alloc (w := w1) (.cells #[.int .i64 kd, .int .i64 i, .string s] 37)).cell (p := ⟨w.heap.size, 0, none⟩) hz1).trans c0
  have c1 := ((Below.of_alloc (w := w1) (.cells #[.int .i64 kd, .int .i64 i, .string s] 37)).cell (p := ⟨w.heap.size, 1, none⟩) hz1).trans c1
  have c2 := ((Below.of_alloc (w := w1) (.cells #[.int .i64 kd, .int .i64 i, .string s] 37)).cell (p := ⟨w.heap.size, 2, none⟩) hz1).trans c2
  generalize w1.alloc (.cells #[.int .i64 kd, .int .i64 i, .string s] 37) = w2 at *
  have hbu := Below.refl w2.heap.size w2
  refine wp_region_noPanic ?_
  refine wp_region_held_drew (S := (fun w' => w'.cell? ⟨w.heap.size, 0, none⟩ = some (.int .i64 kd) ∧ w'.cell? ⟨w.heap.size, 1, none⟩ = some (.int .i64 i) ∧ w'.cell? ⟨w.heap.size, 2, none⟩ = some (.string s))) (by kernel_rfl) ?_ (fun hHeld => ?_)
  · exact ⟨c0, c1, c2⟩
  refine heldTake 0 (some 27) (v := ?_) rfl rfl (by kernel_rfl) (by kernel_rfl) (by kernel_rfl) (by rfl) hHeld (fun _ _ _ h => h) ?_ ?_
  rotate_left
  · intro w' hSw; (try dsimp only at hSw); go_simp <;> with_reducible rfl
  simp only [Act.put, List.setIfInBounds_toArray, List.set_cons_zero, List.set_cons_succ]
  refine heldTake 1 (some 28) (v := ?_) rfl rfl (by kernel_rfl) (by kernel_rfl) (by kernel_rfl) (by rfl) hHeld (fun _ _ _ h => h) ?_ ?_
  rotate_left
  · intro w' hSw; (try dsimp only at hSw); go_simp <;> with_reducible rfl
  simp only [Act.put, List.setIfInBounds_toArray, List.set_cons_zero, List.set_cons_succ]
  refine heldTake 2 (some 29) (v := ?_) rfl rfl (by kernel_rfl) (by kernel_rfl) (by kernel_rfl) (by rfl) hHeld (fun _ _ _ h => h) ?_ ?_
  rotate_left
  · intro w' hSw; (try dsimp only at hSw); go_simp <;> with_reducible rfl
  simp only [Act.put, List.setIfInBounds_toArray, List.set_cons_zero, List.set_cons_succ]
  refine heldTake 3 (some 30) (v := ?_) rfl rfl (by kernel_rfl) (by kernel_rfl) (by kernel_rfl) (by rfl) hHeld (fun _ _ _ h => h) ?_ ?_
  rotate_left
  · intro w' hSw; (try dsimp only at hSw); go_simp <;> with_reducible rfl
  simp only [Act.put, List.setIfInBounds_toArray, List.set_cons_zero, List.set_cons_succ]
  refine heldTake 5 (some 32) (v := ?_) rfl rfl (by kernel_rfl) (by kernel_rfl) (by kernel_rfl) (by rfl) hHeld (fun _ _ _ h => h) ?_ ?_
  rotate_left
  · intro w' hSw; (try dsimp only at hSw); go_simp <;> with_reducible rfl
  simp only [Act.put, List.setIfInBounds_toArray, List.set_cons_zero, List.set_cons_succ]
  refine heldTake 6 (some 33) (v := ?_) rfl rfl (by kernel_rfl) (by kernel_rfl) (by kernel_rfl) (by rfl) hHeld (fun _ _ _ h => h) ?_ ?_
  rotate_left
  · intro w' hSw; (try dsimp only at hSw); go_simp <;> with_reducible rfl
  simp only [Act.put, List.setIfInBounds_toArray, List.set_cons_zero, List.set_cons_succ]
  refine heldTake 7 (some 34) (v := ?_) rfl rfl (by kernel_rfl) (by kernel_rfl) (by kernel_rfl) (by rfl) hHeld (fun _ _ _ h => h) ?_ ?_
  rotate_left
  · intro w' hSw; (try dsimp only at hSw); go_simp <;> with_reducible rfl
  simp only [Act.put, List.setIfInBounds_toArray, List.set_cons_zero, List.set_cons_succ]
  refine heldTake 9 (some 36) (v := ?_) rfl rfl (by kernel_rfl) (by kernel_rfl) (by kernel_rfl) (by rfl) hHeld (fun _ _ _ h => h) ?_ ?_
  rotate_left
  · intro w' hSw; (try dsimp only at hSw); go_simp <;> with_reducible rfl
  simp only [Act.put, List.setIfInBounds_toArray, List.set_cons_zero, List.set_cons_succ]
  refine heldTake 10 (some 37) (v := ?_) rfl rfl (by kernel_rfl) (by kernel_rfl) (by kernel_rfl) (by rfl) hHeld (fun _ _ _ h => h) ?_ ?_
  rotate_left
  · intro w' hSw; (try dsimp only at hSw); go_simp <;> with_reducible rfl
  simp only [Act.put, List.setIfInBounds_toArray, List.set_cons_zero, List.set_cons_succ]
  refine heldTake 11 (some 38) (v := ?_) rfl rfl (by kernel_rfl) (by kernel_rfl) (by kernel_rfl) (by rfl) hHeld (fun _ _ _ h => h) ?_ ?_
  rotate_left
  · intro w' hSw; (try dsimp only at hSw); go_simp <;> with_reducible rfl
  simp only [Act.put, List.setIfInBounds_toArray, List.set_cons_zero, List.set_cons_succ]
  refine heldTake 12 (some 39) (v := ?_) rfl rfl (by kernel_rfl) (by kernel_rfl) (by kernel_rfl) (by rfl) hHeld (fun _ _ _ h => h) ?_ ?_
  rotate_left
  · intro w' hSw; (try dsimp only at hSw); go_simp <;> with_reducible rfl
  simp only [Act.put, List.setIfInBounds_toArray, List.set_cons_zero, List.set_cons_succ]
  refine heldTake 14 (some 41) (v := ?_) rfl rfl (by kernel_rfl) (by kernel_rfl) (by kernel_rfl) (by rfl) hHeld (fun _ _ _ h => h) ?_ ?_
  rotate_left
  · intro w' hSw; (try dsimp only at hSw); go_simp <;> with_reducible rfl
  simp only [Act.put, List.setIfInBounds_toArray, List.set_cons_zero, List.set_cons_succ]
  refine heldTake 15 (some 42) (v := ?_) rfl rfl (by kernel_rfl) (by kernel_rfl) (by kernel_rfl) (by rfl) hHeld (fun _ _ _ h => h) ?_ ?_
  rotate_left
  · intro w' hSw; (try dsimp only at hSw); go_simp <;> with_reducible rfl
  simp only [Act.put, List.setIfInBounds_toArray, List.set_cons_zero, List.set_cons_succ]
  refine heldTake 16 (some 43) (v := ?_) rfl rfl (by kernel_rfl) (by kernel_rfl) (by kernel_rfl) (by rfl) hHeld (fun _ _ _ h => h) ?_ ?_
  rotate_left
  · intro w' hSw; (try dsimp only at hSw); go_simp <;> with_reducible rfl
  simp only [Act.put, List.setIfInBounds_toArray, List.set_cons_zero, List.set_cons_succ]
  refine heldTake 17 (some 44) (v := ?_) rfl rfl (by kernel_rfl) (by kernel_rfl) (by kernel_rfl) (by rfl) hHeld (fun _ _ _ h => h) ?_ ?_
  rotate_left
  · intro w' hSw; (try dsimp only at hSw); go_simp <;> with_reducible rfl
  simp only [Act.put, List.setIfInBounds_toArray, List.set_cons_zero, List.set_cons_succ]
  refine heldTake 19 (some 46) (v := ?_) rfl rfl (by kernel_rfl) (by kernel_rfl) (by kernel_rfl) (by rfl) hHeld (fun _ _ _ h => h) ?_ ?_
  rotate_left
  · intro w' hSw; (try dsimp only at hSw); go_simp <;> with_reducible rfl
  simp only [Act.put, List.setIfInBounds_toArray, List.set_cons_zero, List.set_cons_succ]
  refine heldTake 20 (some 47) (v := ?_) rfl rfl (by kernel_rfl) (by kernel_rfl) (by kernel_rfl) (by rfl) hHeld (fun _ _ _ h => h) ?_ ?_
  rotate_left
  · intro w' hSw; (try dsimp only at hSw); go_simp <;> with_reducible rfl
  simp only [Act.put, List.setIfInBounds_toArray, List.set_cons_zero, List.set_cons_succ]
  refine heldTake 21 (some 48) (v := ?_) rfl rfl (by kernel_rfl) (by kernel_rfl) (by kernel_rfl) (by rfl) hHeld (fun _ _ _ h => h) ?_ ?_
  rotate_left
  · intro w' hSw; (try dsimp only at hSw); go_simp <;> with_reducible rfl
  simp only [Act.put, List.setIfInBounds_toArray, List.set_cons_zero, List.set_cons_succ]
  refine heldTake 22 (some 49) (v := ?_) rfl rfl (by kernel_rfl) (by kernel_rfl) (by kernel_rfl) (by rfl) hHeld (fun _ _ _ h => h) ?_ ?_
  rotate_left
  · intro w' hSw; (try dsimp only at hSw); go_simp <;> with_reducible rfl
  simp only [Act.put, List.setIfInBounds_toArray, List.set_cons_zero, List.set_cons_succ]
  refine heldTake 23 (some 50) (v := ?_) rfl rfl (by kernel_rfl) (by kernel_rfl) (by kernel_rfl) (by rfl) hHeld (fun _ _ _ h => h) ?_ ?_
  rotate_left
  · intro w' hSw; (try dsimp only at hSw); go_simp <;> with_reducible rfl
  simp only [Act.put, List.setIfInBounds_toArray, List.set_cons_zero, List.set_cons_succ]
  refine heldTake 24 (some 51) (v := ?_) rfl rfl (by kernel_rfl) (by kernel_rfl) (by kernel_rfl) (by rfl) hHeld (fun _ _ _ h => h) ?_ ?_
  rotate_left
  · intro w' hSw; (try dsimp only at hSw); go_simp <;> with_reducible rfl
  simp only [Act.put, List.setIfInBounds_toArray, List.set_cons_zero, List.set_cons_succ]
  refine heldCall 4 (some 31) (f := ?_) (args := ?_) rfl rfl (by kernel_rfl) (by rfl) ?_ ?_
  rotate_left 2
  · go_simp <;> first | (constructor <;> with_reducible rfl) | with_reducible rfl
  (with_reducible refine (putInt_any (.slice A 0 c) (l.take 0) n _ n1 n2 ?_ ?_).mono ?_)
  · exact (hv.below hB2.drew).take hka hkc (Nat.le_refl _)
  · omega
  rintro e w3 ⟨v3, rfl, ho3, hb3⟩
  have hB3 := hB2.drew.trans (hb3.mono hB2.drew.size)
  have hz3 : w.heap.size < w3.heap.size := Nat.lt_of_lt_of_le hz2 hb3.size
  have c0 := (hb3.cell (p := ⟨w.heap.size, 0, none⟩) hz2).trans c0
  have c1 := (hb3.cell (p := ⟨w.heap.size, 1, none⟩) hz2).trans c1
  have c2 := (hb3.cell (p := ⟨w.heap.size, 2, none⟩) hz2).trans c2
  obtain ⟨L3, hN3, hO3⟩ : ∃ L, (∃ r, L = l.take 0 ++ r ∧ 0 < r.length) ∧ RdB w3 (· < w3.heap.size) v3 L := ⟨_, ⟨_, rfl, encI_pos _⟩, ho3.rd⟩
  clear ho3
  obtain ⟨A3, c3, rfl, _, _, _⟩ := hO3.open_
  refine ⟨_, rfl, keepAnd ?_ (fun hNew => ?_)⟩
  · exact ⟨c0, c1, c2⟩
  clear hHeld
  have hHeld := hNew
  clear hNew
  simp only [Act.put, List.setIfInBounds_toArray, List.set_cons_zero, List.set_cons_succ]
  refine heldCall 8 (some 35) (f := ?_) (args := ?_) rfl rfl (by kernel_rfl) (by rfl) ?_ ?_
  rotate_left 2
  · go_simp <;> first | (constructor <;> with_reducible rfl) | with_reducible rfl
  (with_reducible refine (putText_any (.slice A 0 c) (l.take 0) ⟨#[116, 101, 120, 116]⟩ _ ?_ ?_).mono ?_)
  · exact (hv.below hB3).take hka hkc (Nat.le_refl _)
  · rw [text4]; omega
  rintro e w4 ⟨v4, rfl, ho4, hb4⟩
  have hB4 := hB3.trans (hb4.mono hB3.size)
  have hz4 : w.heap.size < w4.heap.size := Nat.lt_of_lt_of_le hz3 hb4.size
  have c0 := (hb4.cell (p := ⟨w.heap.size, 0, none⟩) hz3).trans c0
  have c1 := (hb4.cell (p := ⟨w.heap.size, 1, none⟩) hz3).trans c1
  have c2 := (hb4.cell (p := ⟨w.heap.size, 2, none⟩) hz3).trans c2
  obtain ⟨L4, hN4, hO4⟩ : ∃ L, (∃ r, L = l.take 0 ++ r ∧ 0 < r.length) ∧ RdB w4 (· < w4.heap.size) v4 L := ⟨_, ⟨_, rfl, text_pos⟩, ho4.rd⟩
  clear ho4
  obtain ⟨A4, c4, rfl, _, _, _⟩ := hO4.open_
  refine ⟨_, rfl, keepAnd ?_ (fun hNew => ?_)⟩
  · exact ⟨c0, c1, c2⟩
  clear hHeld
  have hHeld := hNew
  clear hNew
  simp only [Act.put, List.setIfInBounds_toArray, List.set_cons_zero, List.set_cons_succ]
  refine heldCall 13 (some 40) (f := ?_) (args := ?_) rfl rfl (by kernel_rfl) (by rfl) ?_ ?_
  rotate_left 2
  · go_simp <;> first | (constructor <;> with_reducible rfl) | with_reducible rfl
  (with_reducible refine (putValue_any (.slice A 0 c) (l.take 0) ⟨kd, i, s⟩ _ i1 i2 ?_ ?_).mono ?_)
  · exact (hv.below hB4).take hka hkc (Nat.le_refl _)
  · simp only; omega
  rintro e w5 ⟨v5, rfl, ho5, hb5⟩
  have hB5 := hB4.trans (hb5.mono hB4.size)
  have hz5 : w.heap.size < w5.heap.size := Nat.lt_of_lt_of_le hz4 hb5.size
  have c0 := (hb5.cell (p := ⟨w.heap.size, 0, none⟩) hz4).trans c0
  have c1 := (hb5.cell (p := ⟨w.heap.size, 1, none⟩) hz4).trans c1
  have c2 := (hb5.cell (p := ⟨w.heap.size, 2, none⟩) hz4).trans c2
  obtain ⟨L5, hN5, hO5⟩ : ∃ L, (∃ r, L = l.take 0 ++ r ∧ 0 < r.length) ∧ RdB w5 (· < w5.heap.size) v5 L := ⟨_, ⟨_, rfl, encV_pos _⟩, ho5.rd⟩
  clear ho5
  obtain ⟨A5, c5, rfl, _, _, _⟩ := hO5.open_
  refine ⟨_, rfl, keepAnd ?_ (fun hNew => ?_)⟩
  · exact ⟨c0, c1, c2⟩
  clear hHeld
  have hHeld := hNew
  clear hNew
  simp only [Act.put, List.setIfInBounds_toArray, List.set_cons_zero, List.set_cons_succ]
  refine heldCall 18 (some 45) (f := ?_) (args := ?_) rfl rfl (by kernel_rfl) (by rfl) ?_ ?_
  rotate_left 2
  · go_simp <;> first | (constructor <;> with_reducible rfl) | with_reducible rfl
  (with_reducible refine (putRow_any (.slice A 0 c) _ (l.take 0) [⟨kd, i, s⟩] _ ?_ ?_ hput ?_).mono ?_)
  · exact (hv.below hB5).take hka hkc (Nat.le_refl _)
  · exact (hu.below hbu.drew).below (hb3.trans ((hb4.trans (hb5.mono hb4.size)).mono hb3.size))
  · omega
  rintro e w6 ⟨v6, rfl, ho6, hb6⟩
  have hB6 := hB5.trans (hb6.mono hB5.size)
  have hz6 : w.heap.size < w6.heap.size := Nat.lt_of_lt_of_le hz5 hb6.size
  have c0 := (hb6.cell (p := ⟨w.heap.size, 0, none⟩) hz5).trans c0
  have c1 := (hb6.cell (p := ⟨w.heap.size, 1, none⟩) hz5).trans c1
  have c2 := (hb6.cell (p := ⟨w.heap.size, 2, none⟩) hz5).trans c2
  obtain ⟨L6, hN6, hO6⟩ : ∃ L, (∃ r, L = l.take 0 ++ r ∧ 0 < r.length) ∧ RdB w6 (· < w6.heap.size) v6 L := ⟨_, ⟨_, rfl, encR_pos _⟩, ho6.rd⟩
  clear ho6
  obtain ⟨A6, c6, rfl, _, _, _⟩ := hO6.open_
  refine ⟨_, rfl, keepAnd ?_ (fun hNew => ?_)⟩
  · exact ⟨c0, c1, c2⟩
  clear hHeld
  have hHeld := hNew
  clear hNew
  simp only [Act.put, List.setIfInBounds_toArray, List.set_cons_zero, List.set_cons_succ]
  refine heldCall 25 (some 52) (f := ?_) (args := ?_) rfl rfl (by kernel_rfl) (by rfl) ?_ ?_
  rotate_left 2
  · go_simp <;> first | (constructor <;> with_reducible rfl) | with_reducible rfl
  (with_reducible refine (putPeriod_any (.slice A 0 c) (l.take 0) n n _ n1 n2 n1 n2 ?_ ?_).mono ?_)
  · exact (hv.below hB6).take hka hkc (Nat.le_refl _)
  · omega
  rintro e w7 ⟨v7, rfl, ho7, hb7⟩
  have hB7 := hB6.trans (hb7.mono hB6.size)
  have hz7 : w.heap.size < w7.heap.size := Nat.lt_of_lt_of_le hz6 hb7.size
  have c0 := (hb7.cell (p := ⟨w.heap.size, 0, none⟩) hz6).trans c0
  have c1 := (hb7.cell (p := ⟨w.heap.size, 1, none⟩) hz6).trans c1
  have c2 := (hb7.cell (p := ⟨w.heap.size, 2, none⟩) hz6).trans c2
  obtain ⟨L7, hN7, hO7⟩ : ∃ L, (∃ r, L = l.take 0 ++ r ∧ 0 < r.length) ∧ RdB w7 (· < w7.heap.size) v7 L := ⟨_, ⟨_, rfl, two_pos _ _⟩, ho7.rd⟩
  clear ho7
  obtain ⟨A7, c7, rfl, _, _, _⟩ := hO7.open_
  refine ⟨_, rfl, keepAnd ?_ (fun hNew => ?_)⟩
  · exact ⟨c0, c1, c2⟩
  clear hHeld
  have hHeld := hNew
  clear hNew
  simp only [Act.put, List.setIfInBounds_toArray, List.set_cons_zero, List.set_cons_succ]
  have hNew : (fun w' => w'.cell? ⟨w.heap.size, 0, none⟩ = some (.int .i64 kd) ∧ w'.cell? ⟨w.heap.size, 1, none⟩ = some (.int .i64 i) ∧ w'.cell? ⟨w.heap.size, 2, none⟩ = some (.string s)) (w7.alloc (.cells #[.slice A3 L3.length c3, .slice A4 L4.length c4, .slice A5 L5.length c5, .slice A6 L6.length c6, .slice A7 L7.length c7] 22)) := by exact ⟨((Below.of_alloc (w := w7) (.cells #[.slice A3 L3.length c3, .slice A4 L4.length c4, .slice A5 L5.length c5, .slice A6 L6.length c6, .slice A7 L7.length c7] 22)).cell (p := ⟨w.heap.size, 0, none⟩) hz7).trans c0, ((Below.of_alloc (w := w7) (.cells #[.slice A3 L3.length c3, .slice A4 L4.length c4, .slice A5 L5.length c5, .slice A6 L6.length c6, .slice A7 L7.length c7] 22)).cell (p := ⟨w.heap.size, 1, none⟩) hz7).trans c1, ((Below.of_alloc (w := w7) (.cells #[.slice A3 L3.length c3, .slice A4 L4.length c4, .slice A5 L5.length c5, .slice A6 L6.length c6, .slice A7 L7.length c7] 22)).cell (p := ⟨w.heap.size, 2, none⟩) hz7).trans c2⟩
  refine heldRun 26 (some 53) (v := .slice (some ⟨w7.heap.size, 0, none⟩) 5 5) (w' := w7.alloc (.cells #[.slice A3 L3.length c3, .slice A4 L4.length c4, .slice A5 L5.length c5, .slice A6 L6.length c6, .slice A7 L7.length c7] 22)) rfl rfl (by kernel_rfl) (by rfl) ?_ hNew ?_
  · go_simp
  clear hHeld
  have hHeld := hNew
  clear hNew
  simp only [Act.put, List.setIfInBounds_toArray, List.set_cons_zero, List.set_cons_succ]
  refine heldTake 27 (some 12) (v := ?_) rfl rfl (by kernel_rfl) (by kernel_rfl) (by kernel_rfl) (by rfl) hHeld (fun _ _ _ h => h) ?_ ?_
  rotate_left
  · intro w' hSw; (try dsimp only at hSw); go_simp <;> with_reducible rfl
  simp only [Act.put, List.setIfInBounds_toArray, List.set_cons_zero, List.set_cons_succ]
  refine wpAnyH_done (by kernel_rfl) ?_ _
  refine NoPanic.normal ?_
  have hB8 := hB7.alloc hB7.size (.cells #[.slice A3 L3.length c3, .slice A4 L4.length c4, .slice A5 L5.length c5, .slice A6 L6.length c6, .slice A7 L7.length c7] 22)
  have hb8 := Below.of_alloc (w := w7) (.cells #[.slice A3 L3.length c3, .slice A4 L4.length c4, .slice A5 L5.length c5, .slice A6 L6.length c6, .slice A7 L7.length c7] 22)
  have hcell : ∀ k : Nat, k < 5 → ∃ A' c' L', (w7.alloc (.cells #[.slice A3 L3.length c3, .slice A4 L4.length c4, .slice A5 L5.length c5, .slice A6 L6.length c6, .slice A7 L7.length c7] 22)).cell? ⟨w7.heap.size, k, none⟩ = some (.slice A' (List.length L') c') ∧ RdB (w7.alloc (.cells #[.slice A3 L3.length c3, .slice A4 L4.length c4, .slice A5 L5.length c5, .slice A6 L6.length c6, .slice A7 L7.length c7] 22)) (· < (w7.alloc (.cells #[.slice A3 L3.length c3, .slice A4 L4.length c4, .slice A5 L5.length c5, .slice A6 L6.length c6, .slice A7 L7.length c7] 22)).heap.size) (.slice A' (List.length L') c') L' ∧ ∃ r, L' = l.take 0 ++ r ∧ 0 < r.length := by
    intro k hk
    have h67 := hb7.trans (hb8.mono hb7.size)
    have h57 := hb6.trans (h67.mono hb6.size)
    have h47 := hb5.trans (h57.mono hb5.size)
    have h37 := hb4.trans (h47.mono hb4.size)
    obtain rfl | rfl | rfl | rfl | rfl : k = 0 ∨ k = 1 ∨ k = 2 ∨ k = 3 ∨ k = 4 := by omega
    · exact ⟨_, _, _, box_cell w7 _ _ 0 rfl, hO3.below h37, hN3⟩
    · exact ⟨_, _, _, box_cell w7 _ _ 1 rfl, hO4.below h47, hN4⟩
    · exact ⟨_, _, _, box_cell w7 _ _ 2 rfl, hO5.below h57, hN5⟩
    · exact ⟨_, _, _, box_cell w7 _ _ 3 rfl, hO6.below h67, hN6⟩
    · exact ⟨_, _, _, box_cell w7 _ _ 4 rfl, hO7.below hb8, hN7⟩
  have hz8 : w7.heap.size < (w7.alloc (.cells #[.slice A3 L3.length c3, .slice A4 L4.length c4, .slice A5 L5.length c5, .slice A6 L6.length c6, .slice A7 L7.length c7] 22)).heap.size := by simp
  generalize w7.alloc (.cells #[.slice A3 L3.length c3, .slice A4 L4.length c4, .slice A5 L5.length c5, .slice A6 L6.length c6, .slice A7 L7.length c7] 22) = w8 at *
  go_wp2_with fail
  go_loopw [56] (fun i wr => SameRel w8 5 i wr) (fun i _ => 5 - (intOf i).toNat)
  case atStart => exact ⟨0, Nat.zero_le _, rfl, Below.refl _ _⟩
  case round =>
    obtain ⟨k, hk, rfl, hB⟩ := hrel
    obtain ⟨wo, rfl⟩ : ∃ wo : World, wo = wr := ⟨_, rfl⟩
    have hBo := hB8.trans (hB.mono hB8.size)
    by_cases hlt : k < 5
    · obtain ⟨A', c', L', g0, hO', r, hL', hr⟩ := hcell k hlt
      have g0 := (hB.cell (p := ⟨w7.heap.size, k, none⟩) hz8).trans g0
      have hO' := hO'.below hB
      have hF' : w7.heap.size < wo.heap.size := Nat.lt_of_lt_of_le hz8 hB.size
      have i1 : (0 : Int) ≤ (k : Int) := by omega
      have i2 : (k : Int) < 5 := by omega
      have hgt : (0 : Int) < (L'.length : Int) := by rw [hL', List.length_append, List.length_take]; omega
      have hne : ¬ L' = [] := fun h => by rw [h] at hgt; simp only [List.length_nil] at hgt; omega
      have HL' := Lib.hid hL'
      clear hL' hr
      go_wp2_with fail
      refine wp_region_noPanic ?_
      refine wp_region_held_drew (S := (fun w' => w'.cell? ⟨w7.heap.size, k, none⟩ = some (.slice A' L'.length c'))) (by kernel_rfl) ?_ (fun hHeld => ?_)
      · exact g0
      refine heldTake 0 (some 59) (v := ?_) rfl rfl (by kernel_rfl) (by kernel_rfl) (by kernel_rfl) (by rfl) hHeld (fun _ _ _ h => h) ?_ ?_
      rotate_left
      · intro w' hSw; (try dsimp only at hSw); go_simp <;> with_reducible rfl
      simp only [Act.put, List.setIfInBounds_toArray, List.set_cons_zero, List.set_cons_succ]
      refine heldTake 1 (some 60) (v := ?_) rfl rfl (by kernel_rfl) (by kernel_rfl) (by kernel_rfl) (by rfl) hHeld (fun _ _ _ h => h) ?_ ?_
      rotate_left
      · intro w' hSw; (try dsimp only at hSw); go_simp <;> with_reducible rfl
      simp only [Act.put, List.setIfInBounds_toArray, List.set_cons_zero, List.set_cons_succ]
      refine heldTake 2 (some 61) (v := ?_) rfl rfl (by kernel_rfl) (by kernel_rfl) (by kernel_rfl) (by rfl) hHeld (fun _ _ _ h => h) ?_ ?_
      rotate_left
      · intro w' hSw; (try dsimp only at hSw); go_simp <;> with_reducible rfl
      simp only [Act.put, List.setIfInBounds_toArray, List.set_cons_zero, List.set_cons_succ]
      refine heldTake 3 (some 62) (v := ?_) rfl rfl (by kernel_rfl) (by kernel_rfl) (by kernel_rfl) (by rfl) hHeld (fun _ _ _ h => h) ?_ ?_
      rotate_left
      · intro w' hSw; (try dsimp only at hSw); go_simp <;> with_reducible rfl
      simp only [Act.put, List.setIfInBounds_toArray, List.set_cons_zero, List.set_cons_succ]
      refine heldTake 4 (some 63) (v := ?_) rfl rfl (by kernel_rfl) (by kernel_rfl) (by kernel_rfl) (by rfl) hHeld (fun _ _ _ h => h) ?_ ?_
      rotate_left
      · intro w' hSw; (try dsimp only at hSw); go_simp <;> with_reducible rfl
      simp only [Act.put, List.setIfInBounds_toArray, List.set_cons_zero, List.set_cons_succ]
      refine heldTake 5 (some 64) (v := ?_) rfl rfl (by kernel_rfl) (by kernel_rfl) (by kernel_rfl) (by rfl) hHeld (fun _ _ _ h => h) ?_ ?_
      rotate_left
      · intro w' hSw; (try dsimp only at hSw); go_simp <;> with_reducible rfl
      simp only [Act.put, List.setIfInBounds_toArray, List.set_cons_zero, List.set_cons_succ]
      refine heldTake 6 (some 65) (v := ?_) rfl rfl (by kernel_rfl) (by kernel_rfl) (by kernel_rfl) (by rfl) hHeld (fun _ _ _ h => h) ?_ ?_
      rotate_left
      · intro w' hSw; (try dsimp only at hSw); go_simp <;> with_reducible rfl
      simp only [Act.put, List.setIfInBounds_toArray, List.set_cons_zero, List.set_cons_succ]
      refine heldCall 7 (some 66) (f := ?_) (args := ?_) rfl rfl (by kernel_rfl) (by rfl) ?_ ?_
      rotate_left 2
      · go_simp <;> first | (constructor <;> with_reducible rfl) | with_reducible rfl
      (with_reducible refine (begins_same _ _ L' (l.take 0) r _ (· < wo.heap.size) HL'.out ?_ ?_).mono ?_)
      · exact hO'
      · exact (hv.below hBo).take hka hkc (Nat.le_refl _)
      rintro e w9 ⟨rfl, hb9⟩
      refine ⟨_, rfl, keepAnd ?_ (fun hNew => ?_)⟩
      · exact (hb9.cell (p := ⟨w7.heap.size, k, none⟩) hF').trans g0
      clear hHeld
      have hHeld := hNew
      clear hNew
      simp only [Act.put, List.setIfInBounds_toArray, List.set_cons_zero, List.set_cons_succ]
      refine heldTake 8 (some 67) (v := ?_) rfl rfl (by kernel_rfl) (by kernel_rfl) (by kernel_rfl) (by rfl) hHeld (fun _ _ _ h => h) ?_ ?_
      rotate_left
      · intro w' hSw; (try dsimp only at hSw); go_simp <;> with_reducible rfl
      simp only [Act.put, List.setIfInBounds_toArray, List.set_cons_zero, List.set_cons_succ]
      refine heldTake 9 (some 68) (v := ?_) rfl rfl (by kernel_rfl) (by kernel_rfl) (by kernel_rfl) (by rfl) hHeld (fun _ _ _ h => h) ?_ ?_
      rotate_left
      · intro w' hSw; (try dsimp only at hSw); go_simp <;> with_reducible rfl
      simp only [Act.put, List.setIfInBounds_toArray, List.set_cons_zero, List.set_cons_succ]
      refine heldTake 10 (some 69) (v := ?_) rfl rfl (by kernel_rfl) (by kernel_rfl) (by kernel_rfl) (by rfl) hHeld (fun _ _ _ h => h) ?_ ?_
      rotate_left
      · intro w' hSw; (try dsimp only at hSw); go_simp <;> with_reducible rfl
      simp only [Act.put, List.setIfInBounds_toArray, List.set_cons_zero, List.set_cons_succ]
      refine heldTake 11 (some 70) (v := ?_) rfl rfl (by kernel_rfl) (by kernel_rfl) (by kernel_rfl) (by rfl) hHeld (fun _ _ _ h => h) ?_ ?_
      rotate_left
      · intro w' hSw; (try dsimp only at hSw); go_simp <;> with_reducible rfl
      simp only [Act.put, List.setIfInBounds_toArray, List.set_cons_zero, List.set_cons_succ]
      refine heldTake 12 (some 71) (v := ?_) rfl rfl (by kernel_rfl) (by kernel_rfl) (by kernel_rfl) (by rfl) hHeld (fun _ _ _ h => h) ?_ ?_
      rotate_left
      · intro w' hSw; (try dsimp only at hSw); go_simp <;> with_reducible rfl
      simp only [Act.put, List.setIfInBounds_toArray, List.set_cons_zero, List.set_cons_succ]
      refine heldTake 13 (some 72) (v := ?_) rfl rfl (by kernel_rfl) (by kernel_rfl) (by kernel_rfl) (by rfl) hHeld (fun _ _ _ h => h) ?_ ?_
      rotate_left
      · intro w' hSw; (try dsimp only at hSw); go_simp <;> with_reducible rfl
      simp only [Act.put, List.setIfInBounds_toArray, List.set_cons_zero, List.set_cons_succ]
      refine heldTake 14 (some 73) (v := ?_) rfl rfl (by kernel_rfl) (by kernel_rfl) (by kernel_rfl) (by rfl) hHeld (fun _ _ _ h => h) ?_ ?_
      rotate_left
      · intro w' hSw; (try dsimp only at hSw); go_simp <;> with_reducible rfl
      simp only [Act.put, List.setIfInBounds_toArray, List.set_cons_zero, List.set_cons_succ]
      refine heldTake 15 (some 74) (v := ?_) rfl rfl (by kernel_rfl) (by kernel_rfl) (by kernel_rfl) (by rfl) hHeld (fun _ _ _ h => h) ?_ ?_
      rotate_left
      · intro w' hSw; (try dsimp only at hSw); go_simp <;> with_reducible rfl
      simp only [Act.put, List.setIfInBounds_toArray, List.set_cons_zero, List.set_cons_succ]
      refine heldTake 16 (some 75) (v := ?_) rfl rfl (by kernel_rfl) (by kernel_rfl) (by kernel_rfl) (by rfl) hHeld (fun _ _ _ h => h) ?_ ?_
      rotate_left
      · intro w' hSw; (try dsimp only at hSw); go_simp <;> with_reducible rfl
      simp only [Act.put, List.setIfInBounds_toArray, List.set_cons_zero, List.set_cons_succ]
      refine heldTake 17 (some 76) (v := ?_) rfl rfl (by kernel_rfl) (by kernel_rfl) (by kernel_rfl) (by rfl) hHeld (fun _ _ _ h => h) ?_ ?_
      rotate_left
      · intro w' hSw; (try dsimp only at hSw); go_simp <;> with_reducible rfl
      simp only [Act.put, List.setIfInBounds_toArray, List.set_cons_zero, List.set_cons_succ]
      refine wpAnyH_done (by kernel_rfl) ?_ _
      refine NoPanic.normal ?_
      go_wp2_with fail
      go_roundw
      case rel => exact ⟨k + 1, by omega, by go_num, hB.drew.trans (hb9.mono hB.drew.size)⟩
      case measure => simp [intOf]; omega
    · have hk5 : k = 5 := by omega
      subst hk5
      go_wp2_with fail
      rw [run_bytes_str (hv.below hBo)]
      go_wp2_with fail
      (with_reducible refine (works_any _).mono ?_)
      rintro e w9 ⟨rfl, hb9⟩
      go_wp2_with fail
      go_ret
      exact ⟨rfl, hBo.trans (hb9.mono hBo.size)⟩

set_option maxRecDepth 100000 in
set_option maxHeartbeats 4000000 in
theorem lawSpare_high (A : Option Addr) (c : Nat) (l : List UInt8) (cut n kd i : Int) (s : ByteArray) (w : World) (hc : l.length ≤ c) (hv : RdB w (· < w.heap.size) (.slice A l.length c) l)
    (hs : s.size ≤ maxLen) (hs2 : s.size ≤ 200) (hput : ∀ x ∈ [(⟨kd, i, s⟩ : Val)], putV x) (hR : (encR [(⟨kd, i, s⟩ : Val)]).length ≤ 2446) (hl : l.length ≤ 140737488351232) (n1 : -9223372036854775808 ≤ n) (n2 : n ≤ 9223372036854775807) (i1 : -9223372036854775808 ≤ i) (i2 : i ≤ 9223372036854775807)
    (hval : validV ⟨kd, i, s⟩ = true) (hcut : (l.length : Int) < cut) (hpos : 0 < l.length) :
    Calls Try.prog 5 #[.slice A l.length c, .int .i64 cut, .agg #[.int .i64 kd, .int .i64 i, .string s], .int .i64 n] w fun e w' => e = .returned (.bool true) ∧ Below w.heap.size w w' := by
  have q2 : (0 : Int) < (l.length : Int) := by omega
  have hka : l.length ≤ l.length := Nat.le_refl _
  have hkc : l.length ≤ c := Nat.le_trans hka hc
  have hlt : (l.take l.length).length ≤ l.length := by rw [List.length_take]; omega
  have HV := Lib.hid hval
  clear hval
  go_enter Try.func5, Try.ntmps5
  go_wp2_with fail
  (with_reducible refine (refValidValue_any kd i s _ hs).mono ?_)
  rw [HV.out]
  rintro e w1 ⟨rfl, rfl⟩
  have hB1 := below2 (w := w) (.cells #[.int .i64 kd, .int .i64 i, .string s] 37) (.cells #[.int .i64 kd, .int .i64 i, .string s] 37)
  have c0 := (((Below.of_alloc (w := w.alloc (.cells #[.int .i64 kd, .int .i64 i, .string s] 37)) (.cells #[.int .i64 kd, .int .i64 i, .string s] 37))).cell (p := ⟨w.heap.size, 0, none⟩) (by simp)).trans (box_cell w _ _ 0 rfl)
  have c1 := (((Below.of_alloc (w := w.alloc (.cells #[.int .i64 kd, .int .i64 i, .string s] 37)) (.cells #[.int .i64 kd, .int .i64 i, .string s] 37))).cell (p := ⟨w.heap.size, 1, none⟩) (by simp)).trans (box_cell w _ _ 1 rfl)
  have c2 := (((Below.of_alloc (w := w.alloc (.cells #[.int .i64 kd, .int .i64 i, .string s] 37)) (.cells #[.int .i64 kd, .int .i64 i, .string s] 37))).cell (p := ⟨w.heap.size, 2, none⟩) (by simp)).trans (box_cell w _ _ 2 rfl)
  have hz1 : w.heap.size < ((w.alloc (.cells #[.int .i64 kd, .int .i64 i, .string s] 37)).alloc (.cells #[.int .i64 kd, .int .i64 i, .string s] 37)).heap.size := by simp; omega
  generalize (w.alloc (.cells #[.int .i64 kd, .int .i64 i, .string s] 37)).alloc (.cells #[.int .i64 kd, .int .i64 i, .string s] 37) = w1 at *
  go_wp2_with fail
  rw [run_bytes_str (hv.below hB1)]
  go_wp2_with fail
  have hB2 := hB1.alloc hB1.size (.cells #[.int .i64 kd, .int .i64 i, .string s] 37)
  have hz2 : w.heap.size < (w1.alloc (.cells #[.int .i64 kd, .int .i64 i, .string s] 37)).heap.size := by simp; omega
  have hu : RdV (w1.alloc (.cells #[.int .i64 kd, .int .i64 i, .string s] 37)) (· < (w1.alloc (.cells #[.int .i64 kd, .int .i64 i, .string s] 37)).heap.size) (.slice (some ⟨w1.heap.size, 0, none⟩) 1 1) [⟨kd, i, s⟩] := (Rd.new w1 (cv [⟨kd, i, s⟩]) 37 3 1 rfl (by unfold maxLen; omega)).wide fun b hb => by simp; omega
  have c0 := ((Below.of_alloc (w := w1) (.cells #[.int .i64 kd, .int .i64 i, .string s] 37)).cell (p := ⟨w.heap.size, 0, none⟩) hz1).trans c0
  have c1 := ((Below.of_alloc (w := w1) (.cells #[.int .i64 kd, .int .i64 i, .string s] 37)).cell (p := ⟨w.heap.size, 1, none⟩) hz1).trans c1
  have c2 := ((Below.of_alloc (w := w1) (.cells #[.int .i64 kd, .int .i64 i, .string s] 37)).cell (p := ⟨w.heap.size, 2, none⟩) hz1).trans c2
  generalize w1.alloc (.cells #[.int .i64 kd, .int .i64 i, .string s] 37) = w2 at *
  have hbu := Below.refl w2.heap.size w2
  refine wp_region_noPanic ?_
  refine wp_region_held_drew (S := (fun w' => w'.cell? ⟨w.heap.size, 0, none⟩ = some (.int .i64 kd) ∧ w'.cell? ⟨w.heap.size, 1, none⟩ = some (.int .i64 i) ∧ w'.cell? ⟨w.heap.size, 2, none⟩ = some (.string s))) (by kernel_rfl) ?_ (fun hHeld => ?_)
  · exact ⟨c0, c1, c2⟩
  refine heldTake 0 (some 27) (v := ?_) rfl rfl (by kernel_rfl) (by kernel_rfl) (by kernel_rfl) (by rfl) hHeld (fun _ _ _ h => h) ?_ ?_
  rotate_left
  · intro w' hSw; (try dsimp only at hSw); go_simp <;> with_reducible rfl
  simp only [Act.put, List.setIfInBounds_toArray, List.set_cons_zero, List.set_cons_succ]
  refine heldTake 1 (some 28) (v := ?_) rfl rfl (by kernel_rfl) (by kernel_rfl) (by kernel_rfl) (by rfl) hHeld (fun _ _ _ h => h) ?_ ?_
  rotate_left
  · intro w' hSw; (try dsimp only at hSw); go_simp <;> with_reducible rfl
  simp only [Act.put, List.setIfInBounds_toArray, List.set_cons_zero, List.set_cons_succ]
  refine heldTake 2 (some 29) (v := ?_) rfl rfl (by kernel_rfl) (by kernel_rfl) (by kernel_rfl) (by rfl) hHeld (fun _ _ _ h => h) ?_ ?_
  rotate_left
  · intro w' hSw; (try dsimp only at hSw); go_simp <;> with_reducible rfl
  simp only [Act.put, List.setIfInBounds_toArray, List.set_cons_zero, List.set_cons_succ]
  refine heldTake 3 (some 30) (v := ?_) rfl rfl (by kernel_rfl) (by kernel_rfl) (by kernel_rfl) (by rfl) hHeld (fun _ _ _ h => h) ?_ ?_
  rotate_left
  · intro w' hSw; (try dsimp only at hSw); go_simp <;> with_reducible rfl
  simp only [Act.put, List.setIfInBounds_toArray, List.set_cons_zero, List.set_cons_succ]
  refine heldTake 5 (some 32) (v := ?_) rfl rfl (by kernel_rfl) (by kernel_rfl) (by kernel_rfl) (by rfl) hHeld (fun _ _ _ h => h) ?_ ?_
  rotate_left
  · intro w' hSw; (try dsimp only at hSw); go_simp <;> with_reducible rfl
  simp only [Act.put, List.setIfInBounds_toArray, List.set_cons_zero, List.set_cons_succ]
  refine heldTake 6 (some 33) (v := ?_) rfl rfl (by kernel_rfl) (by kernel_rfl) (by kernel_rfl) (by rfl) hHeld (fun _ _ _ h => h) ?_ ?_
  rotate_left
  · intro w' hSw; (try dsimp only at hSw); go_simp <;> with_reducible rfl
  simp only [Act.put, List.setIfInBounds_toArray, List.set_cons_zero, List.set_cons_succ]
  refine heldTake 7 (some 34) (v := ?_) rfl rfl (by kernel_rfl) (by kernel_rfl) (by kernel_rfl) (by rfl) hHeld (fun _ _ _ h => h) ?_ ?_
  rotate_left
  · intro w' hSw; (try dsimp only at hSw); go_simp <;> with_reducible rfl
  simp only [Act.put, List.setIfInBounds_toArray, List.set_cons_zero, List.set_cons_succ]
  refine heldTake 9 (some 36) (v := ?_) rfl rfl (by kernel_rfl) (by kernel_rfl) (by kernel_rfl) (by rfl) hHeld (fun _ _ _ h => h) ?_ ?_
  rotate_left
  · intro w' hSw; (try dsimp only at hSw); go_simp <;> with_reducible rfl
  simp only [Act.put, List.setIfInBounds_toArray, List.set_cons_zero, List.set_cons_succ]
  refine heldTake 10 (some 37) (v := ?_) rfl rfl (by kernel_rfl) (by kernel_rfl) (by kernel_rfl) (by rfl) hHeld (fun _ _ _ h => h) ?_ ?_
  rotate_left
  · intro w' hSw; (try dsimp only at hSw); go_simp <;> with_reducible rfl
  simp only [Act.put, List.setIfInBounds_toArray, List.set_cons_zero, List.set_cons_succ]
  refine heldTake 11 (some 38) (v := ?_) rfl rfl (by kernel_rfl) (by kernel_rfl) (by kernel_rfl) (by rfl) hHeld (fun _ _ _ h => h) ?_ ?_
  rotate_left
  · intro w' hSw; (try dsimp only at hSw); go_simp <;> with_reducible rfl
  simp only [Act.put, List.setIfInBounds_toArray, List.set_cons_zero, List.set_cons_succ]
  refine heldTake 12 (some 39) (v := ?_) rfl rfl (by kernel_rfl) (by kernel_rfl) (by kernel_rfl) (by rfl) hHeld (fun _ _ _ h => h) ?_ ?_
  rotate_left
  · intro w' hSw; (try dsimp only at hSw); go_simp <;> with_reducible rfl
  simp only [Act.put, List.setIfInBounds_toArray, List.set_cons_zero, List.set_cons_succ]
  refine heldTake 14 (some 41) (v := ?_) rfl rfl (by kernel_rfl) (by kernel_rfl) (by kernel_rfl) (by rfl) hHeld (fun _ _ _ h => h) ?_ ?_
  rotate_left
  · intro w' hSw; (try dsimp only at hSw); go_simp <;> with_reducible rfl
  simp only [Act.put, List.setIfInBounds_toArray, List.set_cons_zero, List.set_cons_succ]
  refine heldTake 15 (some 42) (v := ?_) rfl rfl (by kernel_rfl) (by kernel_rfl) (by kernel_rfl) (by rfl) hHeld (fun _ _ _ h => h) ?_ ?_
  rotate_left
  · intro w' hSw; (try dsimp only at hSw); go_simp <;> with_reducible rfl
  simp only [Act.put, List.setIfInBounds_toArray, List.set_cons_zero, List.set_cons_succ]
  refine heldTake 16 (some 43) (v := ?_) rfl rfl (by kernel_rfl) (by kernel_rfl) (by kernel_rfl) (by rfl) hHeld (fun _ _ _ h => h) ?_ ?_
  rotate_left
  · intro w' hSw; (try dsimp only at hSw); go_simp <;> with_reducible rfl
  simp only [Act.put, List.setIfInBounds_toArray, List.set_cons_zero, List.set_cons_succ]
  refine heldTake 17 (some 44) (v := ?_) rfl rfl (by kernel_rfl) (by kernel_rfl) (by kernel_rfl) (by rfl) hHeld (fun _ _ _ h => h) ?_ ?_
  rotate_left
  · intro w' hSw; (try dsimp only at hSw); go_simp <;> with_reducible rfl
  simp only [Act.put, List.setIfInBounds_toArray, List.set_cons_zero, List.set_cons_succ]
  refine heldTake 19 (some 46) (v := ?_) rfl rfl (by kernel_rfl) (by kernel_rfl) (by kernel_rfl) (by rfl) hHeld (fun _ _ _ h => h) ?_ ?_
  rotate_left
  · intro w' hSw; (try dsimp only at hSw); go_simp <;> with_reducible rfl
  simp only [Act.put, List.setIfInBounds_toArray, List.set_cons_zero, List.set_cons_succ]
  refine heldTake 20 (some 47) (v := ?_) rfl rfl (by kernel_rfl) (by kernel_rfl) (by kernel_rfl) (by rfl) hHeld (fun _ _ _ h => h) ?_ ?_
  rotate_left
  · intro w' hSw; (try dsimp only at hSw); go_simp <;> with_reducible rfl
  simp only [Act.put, List.setIfInBounds_toArray, List.set_cons_zero, List.set_cons_succ]
  refine heldTake 21 (some 48) (v := ?_) rfl rfl (by kernel_rfl) (by kernel_rfl) (by kernel_rfl) (by rfl) hHeld (fun _ _ _ h => h) ?_ ?_
  rotate_left
  · intro w' hSw; (try dsimp only at hSw); go_simp <;> with_reducible rfl
  simp only [Act.put, List.setIfInBounds_toArray, List.set_cons_zero, List.set_cons_succ]
  refine heldTake 22 (some 49) (v := ?_) rfl rfl (by kernel_rfl) (by kernel_rfl) (by kernel_rfl) (by rfl) hHeld (fun _ _ _ h => h) ?_ ?_
  rotate_left
  · intro w' hSw; (try dsimp only at hSw); go_simp <;> with_reducible rfl
  simp only [Act.put, List.setIfInBounds_toArray, List.set_cons_zero, List.set_cons_succ]
  refine heldTake 23 (some 50) (v := ?_) rfl rfl (by kernel_rfl) (by kernel_rfl) (by kernel_rfl) (by rfl) hHeld (fun _ _ _ h => h) ?_ ?_
  rotate_left
  · intro w' hSw; (try dsimp only at hSw); go_simp <;> with_reducible rfl
  simp only [Act.put, List.setIfInBounds_toArray, List.set_cons_zero, List.set_cons_succ]
  refine heldTake 24 (some 51) (v := ?_) rfl rfl (by kernel_rfl) (by kernel_rfl) (by kernel_rfl) (by rfl) hHeld (fun _ _ _ h => h) ?_ ?_
  rotate_left
  · intro w' hSw; (try dsimp only at hSw); go_simp <;> with_reducible rfl
  simp only [Act.put, List.setIfInBounds_toArray, List.set_cons_zero, List.set_cons_succ]
  refine heldCall 4 (some 31) (f := ?_) (args := ?_) rfl rfl (by kernel_rfl) (by rfl) ?_ ?_
  rotate_left 2
  · go_simp <;> first | (constructor <;> with_reducible rfl) | with_reducible rfl
  (with_reducible refine (putInt_any (.slice A l.length c) (l.take l.length) n _ n1 n2 ?_ ?_).mono ?_)
  · exact (hv.below hB2.drew).take hka hkc (Nat.le_refl _)
  · omega
  rintro e w3 ⟨v3, rfl, ho3, hb3⟩
  have hB3 := hB2.drew.trans (hb3.mono hB2.drew.size)
  have hz3 : w.heap.size < w3.heap.size := Nat.lt_of_lt_of_le hz2 hb3.size
  have c0 := (hb3.cell (p := ⟨w.heap.size, 0, none⟩) hz2).trans c0
  have c1 := (hb3.cell (p := ⟨w.heap.size, 1, none⟩) hz2).trans c1
  have c2 := (hb3.cell (p := ⟨w.heap.size, 2, none⟩) hz2).trans c2
  obtain ⟨L3, hN3, hO3⟩ : ∃ L, (∃ r, L = l.take l.length ++ r ∧ 0 < r.length) ∧ RdB w3 (· < w3.heap.size) v3 L := ⟨_, ⟨_, rfl, encI_pos _⟩, ho3.rd⟩
  clear ho3
  obtain ⟨A3, c3, rfl, _, _, _⟩ := hO3.open_
  refine ⟨_, rfl, keepAnd ?_ (fun hNew => ?_)⟩
  · exact ⟨c0, c1, c2⟩
  clear hHeld
  have hHeld := hNew
  clear hNew
  simp only [Act.put, List.setIfInBounds_toArray, List.set_cons_zero, List.set_cons_succ]
  refine heldCall 8 (some 35) (f := ?_) (args := ?_) rfl rfl (by kernel_rfl) (by rfl) ?_ ?_
  rotate_left 2
  · go_simp <;> first | (constructor <;> with_reducible rfl) | with_reducible rfl
  (with_reducible refine (putText_any (.slice A l.length c) (l.take l.length) ⟨#[116, 101, 120, 116]⟩ _ ?_ ?_).mono ?_)
  · exact (hv.below hB3).take hka hkc (Nat.le_refl _)
  · rw [text4]; omega
  rintro e w4 ⟨v4, rfl, ho4, hb4⟩
  have hB4 := hB3.trans (hb4.mono hB3.size)
  have hz4 : w.heap.size < w4.heap.size := Nat.lt_of_lt_of_le hz3 hb4.size
  have c0 := (hb4.cell (p := ⟨w.heap.size, 0, none⟩) hz3).trans c0
  have c1 := (hb4.cell (p := ⟨w.heap.size, 1, none⟩) hz3).trans c1
  have c2 := (hb4.cell (p := ⟨w.heap.size, 2, none⟩) hz3).trans c2
  obtain ⟨L4, hN4, hO4⟩ : ∃ L, (∃ r, L = l.take l.length ++ r ∧ 0 < r.length) ∧ RdB w4 (· < w4.heap.size) v4 L := ⟨_, ⟨_, rfl, text_pos⟩, ho4.rd⟩
  clear ho4
  obtain ⟨A4, c4, rfl, _, _, _⟩ := hO4.open_
  refine ⟨_, rfl, keepAnd ?_ (fun hNew => ?_)⟩
  · exact ⟨c0, c1, c2⟩
  clear hHeld
  have hHeld := hNew
  clear hNew
  simp only [Act.put, List.setIfInBounds_toArray, List.set_cons_zero, List.set_cons_succ]
  refine heldCall 13 (some 40) (f := ?_) (args := ?_) rfl rfl (by kernel_rfl) (by rfl) ?_ ?_
  rotate_left 2
  · go_simp <;> first | (constructor <;> with_reducible rfl) | with_reducible rfl
  (with_reducible refine (putValue_any (.slice A l.length c) (l.take l.length) ⟨kd, i, s⟩ _ i1 i2 ?_ ?_).mono ?_)
  · exact (hv.below hB4).take hka hkc (Nat.le_refl _)
  · simp only; omega
  rintro e w5 ⟨v5, rfl, ho5, hb5⟩
  have hB5 := hB4.trans (hb5.mono hB4.size)
  have hz5 : w.heap.size < w5.heap.size := Nat.lt_of_lt_of_le hz4 hb5.size
  have c0 := (hb5.cell (p := ⟨w.heap.size, 0, none⟩) hz4).trans c0
  have c1 := (hb5.cell (p := ⟨w.heap.size, 1, none⟩) hz4).trans c1
  have c2 := (hb5.cell (p := ⟨w.heap.size, 2, none⟩) hz4).trans c2
  obtain ⟨L5, hN5, hO5⟩ : ∃ L, (∃ r, L = l.take l.length ++ r ∧ 0 < r.length) ∧ RdB w5 (· < w5.heap.size) v5 L := ⟨_, ⟨_, rfl, encV_pos _⟩, ho5.rd⟩
  clear ho5
  obtain ⟨A5, c5, rfl, _, _, _⟩ := hO5.open_
  refine ⟨_, rfl, keepAnd ?_ (fun hNew => ?_)⟩
  · exact ⟨c0, c1, c2⟩
  clear hHeld
  have hHeld := hNew
  clear hNew
  simp only [Act.put, List.setIfInBounds_toArray, List.set_cons_zero, List.set_cons_succ]
  refine heldCall 18 (some 45) (f := ?_) (args := ?_) rfl rfl (by kernel_rfl) (by rfl) ?_ ?_
  rotate_left 2
  · go_simp <;> first | (constructor <;> with_reducible rfl) | with_reducible rfl
  (with_reducible refine (putRow_any (.slice A l.length c) _ (l.take l.length) [⟨kd, i, s⟩] _ ?_ ?_ hput ?_).mono ?_)
  · exact (hv.below hB5).take hka hkc (Nat.le_refl _)
  · exact (hu.below hbu.drew).below (hb3.trans ((hb4.trans (hb5.mono hb4.size)).mono hb3.size))
  · omega
  rintro e w6 ⟨v6, rfl, ho6, hb6⟩
  have hB6 := hB5.trans (hb6.mono hB5.size)
  have hz6 : w.heap.size < w6.heap.size := Nat.lt_of_lt_of_le hz5 hb6.size
  have c0 := (hb6.cell (p := ⟨w.heap.size, 0, none⟩) hz5).trans c0
  have c1 := (hb6.cell (p := ⟨w.heap.size, 1, none⟩) hz5).trans c1
  have c2 := (hb6.cell (p := ⟨w.heap.size, 2, none⟩) hz5).trans c2
  obtain ⟨L6, hN6, hO6⟩ : ∃ L, (∃ r, L = l.take l.length ++ r ∧ 0 < r.length) ∧ RdB w6 (· < w6.heap.size) v6 L := ⟨_, ⟨_, rfl, encR_pos _⟩, ho6.rd⟩
  clear ho6
  obtain ⟨A6, c6, rfl, _, _, _⟩ := hO6.open_
  refine ⟨_, rfl, keepAnd ?_ (fun hNew => ?_)⟩
  · exact ⟨c0, c1, c2⟩
  clear hHeld
  have hHeld := hNew
  clear hNew
  simp only [Act.put, List.setIfInBounds_toArray, List.set_cons_zero, List.set_cons_succ]
  refine heldCall 25 (some 52) (f := ?_) (args := ?_) rfl rfl (by kernel_rfl) (by rfl) ?_ ?_
  rotate_left 2
  · go_simp <;> first | (constructor <;> with_reducible rfl) | with_reducible rfl
  (with_reducible refine (putPeriod_any (.slice A l.length c) (l.take l.length) n n _ n1 n2 n1 n2 ?_ ?_).mono ?_)
  · exact (hv.below hB6).take hka hkc (Nat.le_refl _)
  · omega
  rintro e w7 ⟨v7, rfl, ho7, hb7⟩
  have hB7 := hB6.trans (hb7.mono hB6.size)
  have hz7 : w.heap.size < w7.heap.size := Nat.lt_of_lt_of_le hz6 hb7.size
  have c0 := (hb7.cell (p := ⟨w.heap.size, 0, none⟩) hz6).trans c0
  have c1 := (hb7.cell (p := ⟨w.heap.size, 1, none⟩) hz6).trans c1
  have c2 := (hb7.cell (p := ⟨w.heap.size, 2, none⟩) hz6).trans c2
  obtain ⟨L7, hN7, hO7⟩ : ∃ L, (∃ r, L = l.take l.length ++ r ∧ 0 < r.length) ∧ RdB w7 (· < w7.heap.size) v7 L := ⟨_, ⟨_, rfl, two_pos _ _⟩, ho7.rd⟩
  clear ho7
  obtain ⟨A7, c7, rfl, _, _, _⟩ := hO7.open_
  refine ⟨_, rfl, keepAnd ?_ (fun hNew => ?_)⟩
  · exact ⟨c0, c1, c2⟩
  clear hHeld
  have hHeld := hNew
  clear hNew
  simp only [Act.put, List.setIfInBounds_toArray, List.set_cons_zero, List.set_cons_succ]
  have hNew : (fun w' => w'.cell? ⟨w.heap.size, 0, none⟩ = some (.int .i64 kd) ∧ w'.cell? ⟨w.heap.size, 1, none⟩ = some (.int .i64 i) ∧ w'.cell? ⟨w.heap.size, 2, none⟩ = some (.string s)) (w7.alloc (.cells #[.slice A3 L3.length c3, .slice A4 L4.length c4, .slice A5 L5.length c5, .slice A6 L6.length c6, .slice A7 L7.length c7] 22)) := by exact ⟨((Below.of_alloc (w := w7) (.cells #[.slice A3 L3.length c3, .slice A4 L4.length c4, .slice A5 L5.length c5, .slice A6 L6.length c6, .slice A7 L7.length c7] 22)).cell (p := ⟨w.heap.size, 0, none⟩) hz7).trans c0, ((Below.of_alloc (w := w7) (.cells #[.slice A3 L3.length c3, .slice A4 L4.length c4, .slice A5 L5.length c5, .slice A6 L6.length c6, .slice A7 L7.length c7] 22)).cell (p := ⟨w.heap.size, 1, none⟩) hz7).trans c1, ((Below.of_alloc (w := w7) (.cells #[.slice A3 L3.length c3, .slice A4 L4.length c4, .slice A5 L5.length c5, .slice A6 L6.length c6, .slice A7 L7.length c7] 22)).cell (p := ⟨w.heap.size, 2, none⟩) hz7).trans c2⟩
  refine heldRun 26 (some 53) (v := .slice (some ⟨w7.heap.size, 0, none⟩) 5 5) (w' := w7.alloc (.cells #[.slice A3 L3.length c3, .slice A4 L4.length c4, .slice A5 L5.length c5, .slice A6 L6.length c6, .slice A7 L7.length c7] 22)) rfl rfl (by kernel_rfl) (by rfl) ?_ hNew ?_
  · go_simp
  clear hHeld
  have hHeld := hNew
  clear hNew
  simp only [Act.put, List.setIfInBounds_toArray, List.set_cons_zero, List.set_cons_succ]
  refine heldTake 27 (some 12) (v := ?_) rfl rfl (by kernel_rfl) (by kernel_rfl) (by kernel_rfl) (by rfl) hHeld (fun _ _ _ h => h) ?_ ?_
  rotate_left
  · intro w' hSw; (try dsimp only at hSw); go_simp <;> with_reducible rfl
  simp only [Act.put, List.setIfInBounds_toArray, List.set_cons_zero, List.set_cons_succ]
  refine wpAnyH_done (by kernel_rfl) ?_ _
  refine NoPanic.normal ?_
  have hB8 := hB7.alloc hB7.size (.cells #[.slice A3 L3.length c3, .slice A4 L4.length c4, .slice A5 L5.length c5, .slice A6 L6.length c6, .slice A7 L7.length c7] 22)
  have hb8 := Below.of_alloc (w := w7) (.cells #[.slice A3 L3.length c3, .slice A4 L4.length c4, .slice A5 L5.length c5, .slice A6 L6.length c6, .slice A7 L7.length c7] 22)
  have hcell : ∀ k : Nat, k < 5 → ∃ A' c' L', (w7.alloc (.cells #[.slice A3 L3.length c3, .slice A4 L4.length c4, .slice A5 L5.length c5, .slice A6 L6.length c6, .slice A7 L7.length c7] 22)).cell? ⟨w7.heap.size, k, none⟩ = some (.slice A' (List.length L') c') ∧ RdB (w7.alloc (.cells #[.slice A3 L3.length c3, .slice A4 L4.length c4, .slice A5 L5.length c5, .slice A6 L6.length c6, .slice A7 L7.length c7] 22)) (· < (w7.alloc (.cells #[.slice A3 L3.length c3, .slice A4 L4.length c4, .slice A5 L5.length c5, .slice A6 L6.length c6, .slice A7 L7.length c7] 22)).heap.size) (.slice A' (List.length L') c') L' ∧ ∃ r, L' = l.take l.length ++ r ∧ 0 < r.length := by
    intro k hk
    have h67 := hb7.trans (hb8.mono hb7.size)
    have h57 := hb6.trans (h67.mono hb6.size)
    have h47 := hb5.trans (h57.mono hb5.size)
    have h37 := hb4.trans (h47.mono hb4.size)
    obtain rfl | rfl | rfl | rfl | rfl : k = 0 ∨ k = 1 ∨ k = 2 ∨ k = 3 ∨ k = 4 := by omega
    · exact ⟨_, _, _, box_cell w7 _ _ 0 rfl, hO3.below h37, hN3⟩
    · exact ⟨_, _, _, box_cell w7 _ _ 1 rfl, hO4.below h47, hN4⟩
    · exact ⟨_, _, _, box_cell w7 _ _ 2 rfl, hO5.below h57, hN5⟩
    · exact ⟨_, _, _, box_cell w7 _ _ 3 rfl, hO6.below h67, hN6⟩
    · exact ⟨_, _, _, box_cell w7 _ _ 4 rfl, hO7.below hb8, hN7⟩
  have hz8 : w7.heap.size < (w7.alloc (.cells #[.slice A3 L3.length c3, .slice A4 L4.length c4, .slice A5 L5.length c5, .slice A6 L6.length c6, .slice A7 L7.length c7] 22)).heap.size := by simp
  generalize w7.alloc (.cells #[.slice A3 L3.length c3, .slice A4 L4.length c4, .slice A5 L5.length c5, .slice A6 L6.length c6, .slice A7 L7.length c7] 22) = w8 at *
  go_wp2_with fail
  go_loopw [56] (fun i wr => SameRel w8 5 i wr) (fun i _ => 5 - (intOf i).toNat)
  case atStart => exact ⟨0, Nat.zero_le _, rfl, Below.refl _ _⟩
  case round =>
    obtain ⟨k, hk, rfl, hB⟩ := hrel
    obtain ⟨wo, rfl⟩ : ∃ wo : World, wo = wr := ⟨_, rfl⟩
    have hBo := hB8.trans (hB.mono hB8.size)
    by_cases hlt : k < 5
    · obtain ⟨A', c', L', g0, hO', r, hL', hr⟩ := hcell k hlt
      have g0 := (hB.cell (p := ⟨w7.heap.size, k, none⟩) hz8).trans g0
      have hO' := hO'.below hB
      have hF' : w7.heap.size < wo.heap.size := Nat.lt_of_lt_of_le hz8 hB.size
      have i1 : (0 : Int) ≤ (k : Int) := by omega
      have i2 : (k : Int) < 5 := by omega
      have hgt : (l.length : Int) < (L'.length : Int) := by rw [hL', List.length_append, List.length_take]; omega
      have hne : ¬ L' = [] := fun h => by rw [h] at hgt; simp only [List.length_nil] at hgt; omega
      have HL' := Lib.hid hL'
      clear hL' hr
      go_wp2_with fail
      refine wp_region_noPanic ?_
      refine wp_region_held_drew (S := (fun w' => w'.cell? ⟨w7.heap.size, k, none⟩ = some (.slice A' L'.length c'))) (by kernel_rfl) ?_ (fun hHeld => ?_)
      · exact g0
      refine heldTake 0 (some 59) (v := ?_) rfl rfl (by kernel_rfl) (by kernel_rfl) (by kernel_rfl) (by rfl) hHeld (fun _ _ _ h => h) ?_ ?_
      rotate_left
      · intro w' hSw; (try dsimp only at hSw); go_simp <;> with_reducible rfl
      simp only [Act.put, List.setIfInBounds_toArray, List.set_cons_zero, List.set_cons_succ]
      refine heldTake 1 (some 60) (v := ?_) rfl rfl (by kernel_rfl) (by kernel_rfl) (by kernel_rfl) (by rfl) hHeld (fun _ _ _ h => h) ?_ ?_
      rotate_left
      · intro w' hSw; (try dsimp only at hSw); go_simp <;> with_reducible rfl
      simp only [Act.put, List.setIfInBounds_toArray, List.set_cons_zero, List.set_cons_succ]
      refine heldTake 2 (some 61) (v := ?_) rfl rfl (by kernel_rfl) (by kernel_rfl) (by kernel_rfl) (by rfl) hHeld (fun _ _ _ h => h) ?_ ?_
      rotate_left
      · intro w' hSw; (try dsimp only at hSw); go_simp <;> with_reducible rfl
      simp only [Act.put, List.setIfInBounds_toArray, List.set_cons_zero, List.set_cons_succ]
      refine heldTake 3 (some 62) (v := ?_) rfl rfl (by kernel_rfl) (by kernel_rfl) (by kernel_rfl) (by rfl) hHeld (fun _ _ _ h => h) ?_ ?_
      rotate_left
      · intro w' hSw; (try dsimp only at hSw); go_simp <;> with_reducible rfl
      simp only [Act.put, List.setIfInBounds_toArray, List.set_cons_zero, List.set_cons_succ]
      refine heldTake 4 (some 63) (v := ?_) rfl rfl (by kernel_rfl) (by kernel_rfl) (by kernel_rfl) (by rfl) hHeld (fun _ _ _ h => h) ?_ ?_
      rotate_left
      · intro w' hSw; (try dsimp only at hSw); go_simp <;> with_reducible rfl
      simp only [Act.put, List.setIfInBounds_toArray, List.set_cons_zero, List.set_cons_succ]
      refine heldTake 5 (some 64) (v := ?_) rfl rfl (by kernel_rfl) (by kernel_rfl) (by kernel_rfl) (by rfl) hHeld (fun _ _ _ h => h) ?_ ?_
      rotate_left
      · intro w' hSw; (try dsimp only at hSw); go_simp <;> with_reducible rfl
      simp only [Act.put, List.setIfInBounds_toArray, List.set_cons_zero, List.set_cons_succ]
      refine heldTake 6 (some 65) (v := ?_) rfl rfl (by kernel_rfl) (by kernel_rfl) (by kernel_rfl) (by rfl) hHeld (fun _ _ _ h => h) ?_ ?_
      rotate_left
      · intro w' hSw; (try dsimp only at hSw); go_simp <;> with_reducible rfl
      simp only [Act.put, List.setIfInBounds_toArray, List.set_cons_zero, List.set_cons_succ]
      refine heldCall 7 (some 66) (f := ?_) (args := ?_) rfl rfl (by kernel_rfl) (by rfl) ?_ ?_
      rotate_left 2
      · go_simp <;> first | (constructor <;> with_reducible rfl) | with_reducible rfl
      (with_reducible refine (begins_same _ _ L' (l.take l.length) r _ (· < wo.heap.size) HL'.out ?_ ?_).mono ?_)
      · exact hO'
      · exact (hv.below hBo).take hka hkc (Nat.le_refl _)
      rintro e w9 ⟨rfl, hb9⟩
      refine ⟨_, rfl, keepAnd ?_ (fun hNew => ?_)⟩
      · exact (hb9.cell (p := ⟨w7.heap.size, k, none⟩) hF').trans g0
      clear hHeld
      have hHeld := hNew
      clear hNew
      simp only [Act.put, List.setIfInBounds_toArray, List.set_cons_zero, List.set_cons_succ]
      refine heldTake 8 (some 67) (v := ?_) rfl rfl (by kernel_rfl) (by kernel_rfl) (by kernel_rfl) (by rfl) hHeld (fun _ _ _ h => h) ?_ ?_
      rotate_left
      · intro w' hSw; (try dsimp only at hSw); go_simp <;> with_reducible rfl
      simp only [Act.put, List.setIfInBounds_toArray, List.set_cons_zero, List.set_cons_succ]
      refine heldTake 9 (some 68) (v := ?_) rfl rfl (by kernel_rfl) (by kernel_rfl) (by kernel_rfl) (by rfl) hHeld (fun _ _ _ h => h) ?_ ?_
      rotate_left
      · intro w' hSw; (try dsimp only at hSw); go_simp <;> with_reducible rfl
      simp only [Act.put, List.setIfInBounds_toArray, List.set_cons_zero, List.set_cons_succ]
      refine heldTake 10 (some 69) (v := ?_) rfl rfl (by kernel_rfl) (by kernel_rfl) (by kernel_rfl) (by rfl) hHeld (fun _ _ _ h => h) ?_ ?_
      rotate_left
      · intro w' hSw; (try dsimp only at hSw); go_simp <;> with_reducible rfl
      simp only [Act.put, List.setIfInBounds_toArray, List.set_cons_zero, List.set_cons_succ]
      refine heldTake 11 (some 70) (v := ?_) rfl rfl (by kernel_rfl) (by kernel_rfl) (by kernel_rfl) (by rfl) hHeld (fun _ _ _ h => h) ?_ ?_
      rotate_left
      · intro w' hSw; (try dsimp only at hSw); go_simp <;> with_reducible rfl
      simp only [Act.put, List.setIfInBounds_toArray, List.set_cons_zero, List.set_cons_succ]
      refine heldTake 12 (some 71) (v := ?_) rfl rfl (by kernel_rfl) (by kernel_rfl) (by kernel_rfl) (by rfl) hHeld (fun _ _ _ h => h) ?_ ?_
      rotate_left
      · intro w' hSw; (try dsimp only at hSw); go_simp <;> with_reducible rfl
      simp only [Act.put, List.setIfInBounds_toArray, List.set_cons_zero, List.set_cons_succ]
      refine heldTake 13 (some 72) (v := ?_) rfl rfl (by kernel_rfl) (by kernel_rfl) (by kernel_rfl) (by rfl) hHeld (fun _ _ _ h => h) ?_ ?_
      rotate_left
      · intro w' hSw; (try dsimp only at hSw); go_simp <;> with_reducible rfl
      simp only [Act.put, List.setIfInBounds_toArray, List.set_cons_zero, List.set_cons_succ]
      refine heldTake 14 (some 73) (v := ?_) rfl rfl (by kernel_rfl) (by kernel_rfl) (by kernel_rfl) (by rfl) hHeld (fun _ _ _ h => h) ?_ ?_
      rotate_left
      · intro w' hSw; (try dsimp only at hSw); go_simp <;> with_reducible rfl
      simp only [Act.put, List.setIfInBounds_toArray, List.set_cons_zero, List.set_cons_succ]
      refine heldTake 15 (some 74) (v := ?_) rfl rfl (by kernel_rfl) (by kernel_rfl) (by kernel_rfl) (by rfl) hHeld (fun _ _ _ h => h) ?_ ?_
      rotate_left
      · intro w' hSw; (try dsimp only at hSw); go_simp <;> with_reducible rfl
      simp only [Act.put, List.setIfInBounds_toArray, List.set_cons_zero, List.set_cons_succ]
      refine heldTake 16 (some 75) (v := ?_) rfl rfl (by kernel_rfl) (by kernel_rfl) (by kernel_rfl) (by rfl) hHeld (fun _ _ _ h => h) ?_ ?_
      rotate_left
      · intro w' hSw; (try dsimp only at hSw); go_simp <;> with_reducible rfl
      simp only [Act.put, List.setIfInBounds_toArray, List.set_cons_zero, List.set_cons_succ]
      refine heldTake 17 (some 76) (v := ?_) rfl rfl (by kernel_rfl) (by kernel_rfl) (by kernel_rfl) (by rfl) hHeld (fun _ _ _ h => h) ?_ ?_
      rotate_left
      · intro w' hSw; (try dsimp only at hSw); go_simp <;> with_reducible rfl
      simp only [Act.put, List.setIfInBounds_toArray, List.set_cons_zero, List.set_cons_succ]
      refine wpAnyH_done (by kernel_rfl) ?_ _
      refine NoPanic.normal ?_
      go_wp2_with fail
      go_roundw
      case rel => exact ⟨k + 1, by omega, by go_num, hB.drew.trans (hb9.mono hB.drew.size)⟩
      case measure => simp [intOf]; omega
    · have hk5 : k = 5 := by omega
      subst hk5
      go_wp2_with fail
      rw [run_bytes_str (hv.below hBo)]
      go_wp2_with fail
      (with_reducible refine (works_any _).mono ?_)
      rintro e w9 ⟨rfl, hb9⟩
      go_wp2_with fail
      go_ret
      exact ⟨rfl, hBo.trans (hb9.mono hBo.size)⟩

set_option maxRecDepth 100000 in
set_option maxHeartbeats 4000000 in
theorem lawSpare_none (A : Option Addr) (c : Nat) (l : List UInt8) (cut n kd i : Int) (s : ByteArray) (w : World) (hc : l.length ≤ c) (hv : RdB w (· < w.heap.size) (.slice A l.length c) l)
    (hs : s.size ≤ maxLen) (hs2 : s.size ≤ 200) (hput : ∀ x ∈ [(⟨kd, i, s⟩ : Val)], putV x) (hR : (encR [(⟨kd, i, s⟩ : Val)]).length ≤ 2446) (hl : l.length ≤ 140737488351232) (n1 : -9223372036854775808 ≤ n) (n2 : n ≤ 9223372036854775807) (i1 : -9223372036854775808 ≤ i) (i2 : i ≤ 9223372036854775807)
    (hval : validV ⟨kd, i, s⟩ = true) (hcut : (l.length : Int) < cut) (hpos : ¬ (0 : Int) < (l.length : Int)) :
    Calls Try.prog 5 #[.slice A l.length c, .int .i64 cut, .agg #[.int .i64 kd, .int .i64 i, .string s], .int .i64 n] w fun e w' => e = .returned (.bool true) ∧ Below w.heap.size w w' := by
  have hka : 0 ≤ l.length := Nat.zero_le _
  have hkc : 0 ≤ c := Nat.le_trans hka hc
  have hlt : (l.take 0).length ≤ l.length := by rw [List.length_take]; omega
  have HV := Lib.hid hval
  clear hval
  go_enter Try.func5, Try.ntmps5
  go_wp2_with fail
  (with_reducible refine (refValidValue_any kd i s _ hs).mono ?_)
  rw [HV.out]
  rintro e w1 ⟨rfl, rfl⟩
  have hB1 := below2 (w := w) (.cells #[.int .i64 kd, .int .i64 i, .string s] 37) (.cells #[.int .i64 kd, .int .i64 i, .string s] 37)
  have c0 := (((Below.of_alloc (w := w.alloc (.cells #[.int .i64 kd, .int .i64 i, .string s] 37)) (.cells #[.int .i64 kd, .int .i64 i, .string s] 37))).cell (p := ⟨w.heap.size, 0, none⟩) (by simp)).trans (box_cell w _ _ 0 rfl)
  have c1 := (((Below.of_alloc (w := w.alloc (.cells #[.int .i64 kd, .int .i64 i, .string s] 37)) (.cells #[.int .i64 kd, .int .i64 i, .string s] 37))).cell (p := ⟨w.heap.size, 1, none⟩) (by simp)).trans (box_cell w _ _ 1 rfl)
  have c2 := (((Below.of_alloc (w := w.alloc (.cells #[.int .i64 kd, .int .i64 i, .string s] 37)) (.cells #[.int .i64 kd, .int .i64 i, .string s] 37))).cell (p := ⟨w.heap.size, 2, none⟩) (by simp)).trans (box_cell w _ _ 2 rfl)
  have hz1 : w.heap.size < ((w.alloc (.cells #[.int .i64 kd, .int .i64 i, .string s] 37)).alloc (.cells #[.int .i64 kd, .int .i64 i, .string s] 37)).heap.size := by simp; omega
  generalize (w.alloc (.cells #[.int .i64 kd, .int .i64 i, .string s] 37)).alloc (.cells #[.int .i64 kd, .int .i64 i, .string s] 37) = w1 at *
  go_wp2_with fail
  rw [run_bytes_str (hv.below hB1)]
  go_wp2_with fail
  have hB2 := hB1.alloc hB1.size (.cells #[.int .i64 kd, .int .i64 i, .string s] 37)
  have hz2 : w.heap.size < (w1.alloc (.cells #[.int .i64 kd, .int .i64 i, .string s] 37)).heap.size := by simp; omega
  have hu : RdV (w1.alloc (.cells #[.int .i64 kd, .int .i64 i, .string s] 37)) (· < (w1.alloc (.cells #[.int .i64 kd, .int .i64 i, .string s] 37)).heap.size) (.slice (some ⟨w1.heap.size, 0, none⟩) 1 1) [⟨kd, i, s⟩] := (Rd.new w1 (cv [⟨kd, i, s⟩]) 37 3 1 rfl (by unfold maxLen; omega)).wide fun b hb => by simp; omega
  have c0 := ((Below.of_alloc (w := w1) (.cells #[.int .i64 kd, .int .i64 i, .string s] 37)).cell (p := ⟨w.heap.size, 0, none⟩) hz1).trans c0
  have c1 := ((Below.of_alloc (w := w1) (.cells #[.int .i64 kd, .int .i64 i, .string s] 37)).cell (p := ⟨w.heap.size, 1, none⟩) hz1).trans c1
  have c2 := ((Below.of_alloc (w := w1) (.cells #[.int .i64 kd, .int .i64 i, .string s] 37)).cell (p := ⟨w.heap.size, 2, none⟩) hz1).trans c2
  generalize w1.alloc (.cells #[.int .i64 kd, .int .i64 i, .string s] 37) = w2 at *
  have hbu := Below.refl w2.heap.size w2
  refine wp_region_noPanic ?_
  refine wp_region_held_drew (S := (fun w' => w'.cell? ⟨w.heap.size, 0, none⟩ = some (.int .i64 kd) ∧ w'.cell? ⟨w.heap.size, 1, none⟩ = some (.int .i64 i) ∧ w'.cell? ⟨w.heap.size, 2, none⟩ = some (.string s))) (by kernel_rfl) ?_ (fun hHeld => ?_)
  · exact ⟨c0, c1, c2⟩
  refine heldTake 0 (some 27) (v := ?_) rfl rfl (by kernel_rfl) (by kernel_rfl) (by kernel_rfl) (by rfl) hHeld (fun _ _ _ h => h) ?_ ?_
  rotate_left
  · intro w' hSw; (try dsimp only at hSw); go_simp <;> with_reducible rfl
  simp only [Act.put, List.setIfInBounds_toArray, List.set_cons_zero, List.set_cons_succ]
  refine heldTake 1 (some 28) (v := ?_) rfl rfl (by kernel_rfl) (by kernel_rfl) (by kernel_rfl) (by rfl) hHeld (fun _ _ _ h => h) ?_ ?_
  rotate_left
  · intro w' hSw; (try dsimp only at hSw); go_simp <;> with_reducible rfl
  simp only [Act.put, List.setIfInBounds_toArray, List.set_cons_zero, List.set_cons_succ]
  refine heldTake 2 (some 29) (v := ?_) rfl rfl (by kernel_rfl) (by kernel_rfl) (by kernel_rfl) (by rfl) hHeld (fun _ _ _ h => h) ?_ ?_
  rotate_left
  · intro w' hSw; (try dsimp only at hSw); go_simp <;> with_reducible rfl
  simp only [Act.put, List.setIfInBounds_toArray, List.set_cons_zero, List.set_cons_succ]
  refine heldTake 3 (some 30) (v := ?_) rfl rfl (by kernel_rfl) (by kernel_rfl) (by kernel_rfl) (by rfl) hHeld (fun _ _ _ h => h) ?_ ?_
  rotate_left
  · intro w' hSw; (try dsimp only at hSw); go_simp <;> with_reducible rfl
  simp only [Act.put, List.setIfInBounds_toArray, List.set_cons_zero, List.set_cons_succ]
  refine heldTake 5 (some 32) (v := ?_) rfl rfl (by kernel_rfl) (by kernel_rfl) (by kernel_rfl) (by rfl) hHeld (fun _ _ _ h => h) ?_ ?_
  rotate_left
  · intro w' hSw; (try dsimp only at hSw); go_simp <;> with_reducible rfl
  simp only [Act.put, List.setIfInBounds_toArray, List.set_cons_zero, List.set_cons_succ]
  refine heldTake 6 (some 33) (v := ?_) rfl rfl (by kernel_rfl) (by kernel_rfl) (by kernel_rfl) (by rfl) hHeld (fun _ _ _ h => h) ?_ ?_
  rotate_left
  · intro w' hSw; (try dsimp only at hSw); go_simp <;> with_reducible rfl
  simp only [Act.put, List.setIfInBounds_toArray, List.set_cons_zero, List.set_cons_succ]
  refine heldTake 7 (some 34) (v := ?_) rfl rfl (by kernel_rfl) (by kernel_rfl) (by kernel_rfl) (by rfl) hHeld (fun _ _ _ h => h) ?_ ?_
  rotate_left
  · intro w' hSw; (try dsimp only at hSw); go_simp <;> with_reducible rfl
  simp only [Act.put, List.setIfInBounds_toArray, List.set_cons_zero, List.set_cons_succ]
  refine heldTake 9 (some 36) (v := ?_) rfl rfl (by kernel_rfl) (by kernel_rfl) (by kernel_rfl) (by rfl) hHeld (fun _ _ _ h => h) ?_ ?_
  rotate_left
  · intro w' hSw; (try dsimp only at hSw); go_simp <;> with_reducible rfl
  simp only [Act.put, List.setIfInBounds_toArray, List.set_cons_zero, List.set_cons_succ]
  refine heldTake 10 (some 37) (v := ?_) rfl rfl (by kernel_rfl) (by kernel_rfl) (by kernel_rfl) (by rfl) hHeld (fun _ _ _ h => h) ?_ ?_
  rotate_left
  · intro w' hSw; (try dsimp only at hSw); go_simp <;> with_reducible rfl
  simp only [Act.put, List.setIfInBounds_toArray, List.set_cons_zero, List.set_cons_succ]
  refine heldTake 11 (some 38) (v := ?_) rfl rfl (by kernel_rfl) (by kernel_rfl) (by kernel_rfl) (by rfl) hHeld (fun _ _ _ h => h) ?_ ?_
  rotate_left
  · intro w' hSw; (try dsimp only at hSw); go_simp <;> with_reducible rfl
  simp only [Act.put, List.setIfInBounds_toArray, List.set_cons_zero, List.set_cons_succ]
  refine heldTake 12 (some 39) (v := ?_) rfl rfl (by kernel_rfl) (by kernel_rfl) (by kernel_rfl) (by rfl) hHeld (fun _ _ _ h => h) ?_ ?_
  rotate_left
  · intro w' hSw; (try dsimp only at hSw); go_simp <;> with_reducible rfl
  simp only [Act.put, List.setIfInBounds_toArray, List.set_cons_zero, List.set_cons_succ]
  refine heldTake 14 (some 41) (v := ?_) rfl rfl (by kernel_rfl) (by kernel_rfl) (by kernel_rfl) (by rfl) hHeld (fun _ _ _ h => h) ?_ ?_
  rotate_left
  · intro w' hSw; (try dsimp only at hSw); go_simp <;> with_reducible rfl
  simp only [Act.put, List.setIfInBounds_toArray, List.set_cons_zero, List.set_cons_succ]
  refine heldTake 15 (some 42) (v := ?_) rfl rfl (by kernel_rfl) (by kernel_rfl) (by kernel_rfl) (by rfl) hHeld (fun _ _ _ h => h) ?_ ?_
  rotate_left
  · intro w' hSw; (try dsimp only at hSw); go_simp <;> with_reducible rfl
  simp only [Act.put, List.setIfInBounds_toArray, List.set_cons_zero, List.set_cons_succ]
  refine heldTake 16 (some 43) (v := ?_) rfl rfl (by kernel_rfl) (by kernel_rfl) (by kernel_rfl) (by rfl) hHeld (fun _ _ _ h => h) ?_ ?_
  rotate_left
  · intro w' hSw; (try dsimp only at hSw); go_simp <;> with_reducible rfl
  simp only [Act.put, List.setIfInBounds_toArray, List.set_cons_zero, List.set_cons_succ]
  refine heldTake 17 (some 44) (v := ?_) rfl rfl (by kernel_rfl) (by kernel_rfl) (by kernel_rfl) (by rfl) hHeld (fun _ _ _ h => h) ?_ ?_
  rotate_left
  · intro w' hSw; (try dsimp only at hSw); go_simp <;> with_reducible rfl
  simp only [Act.put, List.setIfInBounds_toArray, List.set_cons_zero, List.set_cons_succ]
  refine heldTake 19 (some 46) (v := ?_) rfl rfl (by kernel_rfl) (by kernel_rfl) (by kernel_rfl) (by rfl) hHeld (fun _ _ _ h => h) ?_ ?_
  rotate_left
  · intro w' hSw; (try dsimp only at hSw); go_simp <;> with_reducible rfl
  simp only [Act.put, List.setIfInBounds_toArray, List.set_cons_zero, List.set_cons_succ]
  refine heldTake 20 (some 47) (v := ?_) rfl rfl (by kernel_rfl) (by kernel_rfl) (by kernel_rfl) (by rfl) hHeld (fun _ _ _ h => h) ?_ ?_
  rotate_left
  · intro w' hSw; (try dsimp only at hSw); go_simp <;> with_reducible rfl
  simp only [Act.put, List.setIfInBounds_toArray, List.set_cons_zero, List.set_cons_succ]
  refine heldTake 21 (some 48) (v := ?_) rfl rfl (by kernel_rfl) (by kernel_rfl) (by kernel_rfl) (by rfl) hHeld (fun _ _ _ h => h) ?_ ?_
  rotate_left
  · intro w' hSw; (try dsimp only at hSw); go_simp <;> with_reducible rfl
  simp only [Act.put, List.setIfInBounds_toArray, List.set_cons_zero, List.set_cons_succ]
  refine heldTake 22 (some 49) (v := ?_) rfl rfl (by kernel_rfl) (by kernel_rfl) (by kernel_rfl) (by rfl) hHeld (fun _ _ _ h => h) ?_ ?_
  rotate_left
  · intro w' hSw; (try dsimp only at hSw); go_simp <;> with_reducible rfl
  simp only [Act.put, List.setIfInBounds_toArray, List.set_cons_zero, List.set_cons_succ]
  refine heldTake 23 (some 50) (v := ?_) rfl rfl (by kernel_rfl) (by kernel_rfl) (by kernel_rfl) (by rfl) hHeld (fun _ _ _ h => h) ?_ ?_
  rotate_left
  · intro w' hSw; (try dsimp only at hSw); go_simp <;> with_reducible rfl
  simp only [Act.put, List.setIfInBounds_toArray, List.set_cons_zero, List.set_cons_succ]
  refine heldTake 24 (some 51) (v := ?_) rfl rfl (by kernel_rfl) (by kernel_rfl) (by kernel_rfl) (by rfl) hHeld (fun _ _ _ h => h) ?_ ?_
  rotate_left
  · intro w' hSw; (try dsimp only at hSw); go_simp <;> with_reducible rfl
  simp only [Act.put, List.setIfInBounds_toArray, List.set_cons_zero, List.set_cons_succ]
  refine heldCall 4 (some 31) (f := ?_) (args := ?_) rfl rfl (by kernel_rfl) (by rfl) ?_ ?_
  rotate_left 2
  · go_simp <;> first | (constructor <;> with_reducible rfl) | with_reducible rfl
  (with_reducible refine (putInt_any (.slice A 0 c) (l.take 0) n _ n1 n2 ?_ ?_).mono ?_)
  · exact (hv.below hB2.drew).take hka hkc (Nat.le_refl _)
  · omega
  rintro e w3 ⟨v3, rfl, ho3, hb3⟩
  have hB3 := hB2.drew.trans (hb3.mono hB2.drew.size)
  have hz3 : w.heap.size < w3.heap.size := Nat.lt_of_lt_of_le hz2 hb3.size
  have c0 := (hb3.cell (p := ⟨w.heap.size, 0, none⟩) hz2).trans c0
  have c1 := (hb3.cell (p := ⟨w.heap.size, 1, none⟩) hz2).trans c1
  have c2 := (hb3.cell (p := ⟨w.heap.size, 2, none⟩) hz2).trans c2
  obtain ⟨L3, hN3, hO3⟩ : ∃ L, (∃ r, L = l.take 0 ++ r ∧ 0 < r.length) ∧ RdB w3 (· < w3.heap.size) v3 L := ⟨_, ⟨_, rfl, encI_pos _⟩, ho3.rd⟩
  clear ho3
  obtain ⟨A3, c3, rfl, _, _, _⟩ := hO3.open_
  refine ⟨_, rfl, keepAnd ?_ (fun hNew => ?_)⟩
  · exact ⟨c0, c1, c2⟩
  clear hHeld
  have hHeld := hNew
  clear hNew
  simp only [Act.put, List.setIfInBounds_toArray, List.set_cons_zero, List.set_cons_succ]
  refine heldCall 8 (some 35) (f := ?_) (args := ?_) rfl rfl (by kernel_rfl) (by rfl) ?_ ?_
  rotate_left 2
  · go_simp <;> first | (constructor <;> with_reducible rfl) | with_reducible rfl
  (with_reducible refine (putText_any (.slice A 0 c) (l.take 0) ⟨#[116, 101, 120, 116]⟩ _ ?_ ?_).mono ?_)
  · exact (hv.below hB3).take hka hkc (Nat.le_refl _)
  · rw [text4]; omega
  rintro e w4 ⟨v4, rfl, ho4, hb4⟩
  have hB4 := hB3.trans (hb4.mono hB3.size)
  have hz4 : w.heap.size < w4.heap.size := Nat.lt_of_lt_of_le hz3 hb4.size
  have c0 := (hb4.cell (p := ⟨w.heap.size, 0, none⟩) hz3).trans c0
  have c1 := (hb4.cell (p := ⟨w.heap.size, 1, none⟩) hz3).trans c1
  have c2 := (hb4.cell (p := ⟨w.heap.size, 2, none⟩) hz3).trans c2
  obtain ⟨L4, hN4, hO4⟩ : ∃ L, (∃ r, L = l.take 0 ++ r ∧ 0 < r.length) ∧ RdB w4 (· < w4.heap.size) v4 L := ⟨_, ⟨_, rfl, text_pos⟩, ho4.rd⟩
  clear ho4
  obtain ⟨A4, c4, rfl, _, _, _⟩ := hO4.open_
  refine ⟨_, rfl, keepAnd ?_ (fun hNew => ?_)⟩
  · exact ⟨c0, c1, c2⟩
  clear hHeld
  have hHeld := hNew
  clear hNew
  simp only [Act.put, List.setIfInBounds_toArray, List.set_cons_zero, List.set_cons_succ]
  refine heldCall 13 (some 40) (f := ?_) (args := ?_) rfl rfl (by kernel_rfl) (by rfl) ?_ ?_
  rotate_left 2
  · go_simp <;> first | (constructor <;> with_reducible rfl) | with_reducible rfl
  (with_reducible refine (putValue_any (.slice A 0 c) (l.take 0) ⟨kd, i, s⟩ _ i1 i2 ?_ ?_).mono ?_)
  · exact (hv.below hB4).take hka hkc (Nat.le_refl _)
  · simp only; omega
  rintro e w5 ⟨v5, rfl, ho5, hb5⟩
  have hB5 := hB4.trans (hb5.mono hB4.size)
  have hz5 : w.heap.size < w5.heap.size := Nat.lt_of_lt_of_le hz4 hb5.size
  have c0 := (hb5.cell (p := ⟨w.heap.size, 0, none⟩) hz4).trans c0
  have c1 := (hb5.cell (p := ⟨w.heap.size, 1, none⟩) hz4).trans c1
  have c2 := (hb5.cell (p := ⟨w.heap.size, 2, none⟩) hz4).trans c2
  obtain ⟨L5, hN5, hO5⟩ : ∃ L, (∃ r, L = l.take 0 ++ r ∧ 0 < r.length) ∧ RdB w5 (· < w5.heap.size) v5 L := ⟨_, ⟨_, rfl, encV_pos _⟩, ho5.rd⟩
  clear ho5
  obtain ⟨A5, c5, rfl, _, _, _⟩ := hO5.open_
  refine ⟨_, rfl, keepAnd ?_ (fun hNew => ?_)⟩
  · exact ⟨c0, c1, c2⟩
  clear hHeld
  have hHeld := hNew
  clear hNew
  simp only [Act.put, List.setIfInBounds_toArray, List.set_cons_zero, List.set_cons_succ]
  refine heldCall 18 (some 45) (f := ?_) (args := ?_) rfl rfl (by kernel_rfl) (by rfl) ?_ ?_
  rotate_left 2
  · go_simp <;> first | (constructor <;> with_reducible rfl) | with_reducible rfl
  (with_reducible refine (putRow_any (.slice A 0 c) _ (l.take 0) [⟨kd, i, s⟩] _ ?_ ?_ hput ?_).mono ?_)
  · exact (hv.below hB5).take hka hkc (Nat.le_refl _)
  · exact (hu.below hbu.drew).below (hb3.trans ((hb4.trans (hb5.mono hb4.size)).mono hb3.size))
  · omega
  rintro e w6 ⟨v6, rfl, ho6, hb6⟩
  have hB6 := hB5.trans (hb6.mono hB5.size)
  have hz6 : w.heap.size < w6.heap.size := Nat.lt_of_lt_of_le hz5 hb6.size
  have c0 := (hb6.cell (p := ⟨w.heap.size, 0, none⟩) hz5).trans c0
  have c1 := (hb6.cell (p := ⟨w.heap.size, 1, none⟩) hz5).trans c1
  have c2 := (hb6.cell (p := ⟨w.heap.size, 2, none⟩) hz5).trans c2
  obtain ⟨L6, hN6, hO6⟩ : ∃ L, (∃ r, L = l.take 0 ++ r ∧ 0 < r.length) ∧ RdB w6 (· < w6.heap.size) v6 L := ⟨_, ⟨_, rfl, encR_pos _⟩, ho6.rd⟩
  clear ho6
  obtain ⟨A6, c6, rfl, _, _, _⟩ := hO6.open_
  refine ⟨_, rfl, keepAnd ?_ (fun hNew => ?_)⟩
  · exact ⟨c0, c1, c2⟩
  clear hHeld
  have hHeld := hNew
  clear hNew
  simp only [Act.put, List.setIfInBounds_toArray, List.set_cons_zero, List.set_cons_succ]
  refine heldCall 25 (some 52) (f := ?_) (args := ?_) rfl rfl (by kernel_rfl) (by rfl) ?_ ?_
  rotate_left 2
  · go_simp <;> first | (constructor <;> with_reducible rfl) | with_reducible rfl
  (with_reducible refine (putPeriod_any (.slice A 0 c) (l.take 0) n n _ n1 n2 n1 n2 ?_ ?_).mono ?_)
  · exact (hv.below hB6).take hka hkc (Nat.le_refl _)
  · omega
  rintro e w7 ⟨v7, rfl, ho7, hb7⟩
  have hB7 := hB6.trans (hb7.mono hB6.size)
  have hz7 : w.heap.size < w7.heap.size := Nat.lt_of_lt_of_le hz6 hb7.size
  have c0 := (hb7.cell (p := ⟨w.heap.size, 0, none⟩) hz6).trans c0
  have c1 := (hb7.cell (p := ⟨w.heap.size, 1, none⟩) hz6).trans c1
  have c2 := (hb7.cell (p := ⟨w.heap.size, 2, none⟩) hz6).trans c2
  obtain ⟨L7, hN7, hO7⟩ : ∃ L, (∃ r, L = l.take 0 ++ r ∧ 0 < r.length) ∧ RdB w7 (· < w7.heap.size) v7 L := ⟨_, ⟨_, rfl, two_pos _ _⟩, ho7.rd⟩
  clear ho7
  obtain ⟨A7, c7, rfl, _, _, _⟩ := hO7.open_
  refine ⟨_, rfl, keepAnd ?_ (fun hNew => ?_)⟩
  · exact ⟨c0, c1, c2⟩
  clear hHeld
  have hHeld := hNew
  clear hNew
  simp only [Act.put, List.setIfInBounds_toArray, List.set_cons_zero, List.set_cons_succ]
  have hNew : (fun w' => w'.cell? ⟨w.heap.size, 0, none⟩ = some (.int .i64 kd) ∧ w'.cell? ⟨w.heap.size, 1, none⟩ = some (.int .i64 i) ∧ w'.cell? ⟨w.heap.size, 2, none⟩ = some (.string s)) (w7.alloc (.cells #[.slice A3 L3.length c3, .slice A4 L4.length c4, .slice A5 L5.length c5, .slice A6 L6.length c6, .slice A7 L7.length c7] 22)) := by exact ⟨((Below.of_alloc (w := w7) (.cells #[.slice A3 L3.length c3, .slice A4 L4.length c4, .slice A5 L5.length c5, .slice A6 L6.length c6, .slice A7 L7.length c7] 22)).cell (p := ⟨w.heap.size, 0, none⟩) hz7).trans c0, ((Below.of_alloc (w := w7) (.cells #[.slice A3 L3.length c3, .slice A4 L4.length c4, .slice A5 L5.length c5, .slice A6 L6.length c6, .slice A7 L7.length c7] 22)).cell (p := ⟨w.heap.size, 1, none⟩) hz7).trans c1, ((Below.of_alloc (w := w7) (.cells #[.slice A3 L3.length c3, .slice A4 L4.length c4, .slice A5 L5.length c5, .slice A6 L6.length c6, .slice A7 L7.length c7] 22)).cell (p := ⟨w.heap.size, 2, none⟩) hz7).trans c2⟩
  refine heldRun 26 (some 53) (v := .slice (some ⟨w7.heap.size, 0, none⟩) 5 5) (w' := w7.alloc (.cells #[.slice A3 L3.length c3, .slice A4 L4.length c4, .slice A5 L5.length c5, .slice A6 L6.length c6, .slice A7 L7.length c7] 22)) rfl rfl (by kernel_rfl) (by rfl) ?_ hNew ?_
  · go_simp
  clear hHeld
  have hHeld := hNew
  clear hNew
  simp only [Act.put, List.setIfInBounds_toArray, List.set_cons_zero, List.set_cons_succ]
  refine heldTake 27 (some 12) (v := ?_) rfl rfl (by kernel_rfl) (by kernel_rfl) (by kernel_rfl) (by rfl) hHeld (fun _ _ _ h => h) ?_ ?_
  rotate_left
  · intro w' hSw; (try dsimp only at hSw); go_simp <;> with_reducible rfl
  simp only [Act.put, List.setIfInBounds_toArray, List.set_cons_zero, List.set_cons_succ]
  refine wpAnyH_done (by kernel_rfl) ?_ _
  refine NoPanic.normal ?_
  have hB8 := hB7.alloc hB7.size (.cells #[.slice A3 L3.length c3, .slice A4 L4.length c4, .slice A5 L5.length c5, .slice A6 L6.length c6, .slice A7 L7.length c7] 22)
  have hb8 := Below.of_alloc (w := w7) (.cells #[.slice A3 L3.length c3, .slice A4 L4.length c4, .slice A5 L5.length c5, .slice A6 L6.length c6, .slice A7 L7.length c7] 22)
  have hcell : ∀ k : Nat, k < 5 → ∃ A' c' L', (w7.alloc (.cells #[.slice A3 L3.length c3, .slice A4 L4.length c4, .slice A5 L5.length c5, .slice A6 L6.length c6, .slice A7 L7.length c7] 22)).cell? ⟨w7.heap.size, k, none⟩ = some (.slice A' (List.length L') c') ∧ RdB (w7.alloc (.cells #[.slice A3 L3.length c3, .slice A4 L4.length c4, .slice A5 L5.length c5, .slice A6 L6.length c6, .slice A7 L7.length c7] 22)) (· < (w7.alloc (.cells #[.slice A3 L3.length c3, .slice A4 L4.length c4, .slice A5 L5.length c5, .slice A6 L6.length c6, .slice A7 L7.length c7] 22)).heap.size) (.slice A' (List.length L') c') L' ∧ ∃ r, L' = l.take 0 ++ r ∧ 0 < r.length := by
    intro k hk
    have h67 := hb7.trans (hb8.mono hb7.size)
    have h57 := hb6.trans (h67.mono hb6.size)
    have h47 := hb5.trans (h57.mono hb5.size)
    have h37 := hb4.trans (h47.mono hb4.size)
    obtain rfl | rfl | rfl | rfl | rfl : k = 0 ∨ k = 1 ∨ k = 2 ∨ k = 3 ∨ k = 4 := by omega
    · exact ⟨_, _, _, box_cell w7 _ _ 0 rfl, hO3.below h37, hN3⟩
    · exact ⟨_, _, _, box_cell w7 _ _ 1 rfl, hO4.below h47, hN4⟩
    · exact ⟨_, _, _, box_cell w7 _ _ 2 rfl, hO5.below h57, hN5⟩
    · exact ⟨_, _, _, box_cell w7 _ _ 3 rfl, hO6.below h67, hN6⟩
    · exact ⟨_, _, _, box_cell w7 _ _ 4 rfl, hO7.below hb8, hN7⟩
  have hz8 : w7.heap.size < (w7.alloc (.cells #[.slice A3 L3.length c3, .slice A4 L4.length c4, .slice A5 L5.length c5, .slice A6 L6.length c6, .slice A7 L7.length c7] 22)).heap.size := by simp
  generalize w7.alloc (.cells #[.slice A3 L3.length c3, .slice A4 L4.length c4, .slice A5 L5.length c5, .slice A6 L6.length c6, .slice A7 L7.length c7] 22) = w8 at *
  go_wp2_with fail
  go_loopw [56] (fun i wr => SameRel w8 5 i wr) (fun i _ => 5 - (intOf i).toNat)
  case atStart => exact ⟨0, Nat.zero_le _, rfl, Below.refl _ _⟩
  case round =>
    obtain ⟨k, hk, rfl, hB⟩ := hrel
    obtain ⟨wo, rfl⟩ : ∃ wo : World, wo = wr := ⟨_, rfl⟩
    have hBo := hB8.trans (hB.mono hB8.size)
    by_cases hlt : k < 5
    · obtain ⟨A', c', L', g0, hO', r, hL', hr⟩ := hcell k hlt
      have g0 := (hB.cell (p := ⟨w7.heap.size, k, none⟩) hz8).trans g0
      have hO' := hO'.below hB
      have hF' : w7.heap.size < wo.heap.size := Nat.lt_of_lt_of_le hz8 hB.size
      have i1 : (0 : Int) ≤ (k : Int) := by omega
      have i2 : (k : Int) < 5 := by omega
      have hgt : (0 : Int) < (L'.length : Int) := by rw [hL', List.length_append, List.length_take]; omega
      have hne : ¬ L' = [] := fun h => by rw [h] at hgt; simp only [List.length_nil] at hgt; omega
      have HL' := Lib.hid hL'
      clear hL' hr
      go_wp2_with fail
      refine wp_region_noPanic ?_
      refine wp_region_held_drew (S := (fun w' => w'.cell? ⟨w7.heap.size, k, none⟩ = some (.slice A' L'.length c'))) (by kernel_rfl) ?_ (fun hHeld => ?_)
      · exact g0
      refine heldTake 0 (some 59) (v := ?_) rfl rfl (by kernel_rfl) (by kernel_rfl) (by kernel_rfl) (by rfl) hHeld (fun _ _ _ h => h) ?_ ?_
      rotate_left
      · intro w' hSw; (try dsimp only at hSw); go_simp <;> with_reducible rfl
      simp only [Act.put, List.setIfInBounds_toArray, List.set_cons_zero, List.set_cons_succ]
      refine heldTake 1 (some 60) (v := ?_) rfl rfl (by kernel_rfl) (by kernel_rfl) (by kernel_rfl) (by rfl) hHeld (fun _ _ _ h => h) ?_ ?_
      rotate_left
      · intro w' hSw; (try dsimp only at hSw); go_simp <;> with_reducible rfl
      simp only [Act.put, List.setIfInBounds_toArray, List.set_cons_zero, List.set_cons_succ]
      refine heldTake 2 (some 61) (v := ?_) rfl rfl (by kernel_rfl) (by kernel_rfl) (by kernel_rfl) (by rfl) hHeld (fun _ _ _ h => h) ?_ ?_
      rotate_left
      · intro w' hSw; (try dsimp only at hSw); go_simp <;> with_reducible rfl
      simp only [Act.put, List.setIfInBounds_toArray, List.set_cons_zero, List.set_cons_succ]
      refine heldTake 3 (some 62) (v := ?_) rfl rfl (by kernel_rfl) (by kernel_rfl) (by kernel_rfl) (by rfl) hHeld (fun _ _ _ h => h) ?_ ?_
      rotate_left
      · intro w' hSw; (try dsimp only at hSw); go_simp <;> with_reducible rfl
      simp only [Act.put, List.setIfInBounds_toArray, List.set_cons_zero, List.set_cons_succ]
      refine heldTake 4 (some 63) (v := ?_) rfl rfl (by kernel_rfl) (by kernel_rfl) (by kernel_rfl) (by rfl) hHeld (fun _ _ _ h => h) ?_ ?_
      rotate_left
      · intro w' hSw; (try dsimp only at hSw); go_simp <;> with_reducible rfl
      simp only [Act.put, List.setIfInBounds_toArray, List.set_cons_zero, List.set_cons_succ]
      refine heldTake 5 (some 64) (v := ?_) rfl rfl (by kernel_rfl) (by kernel_rfl) (by kernel_rfl) (by rfl) hHeld (fun _ _ _ h => h) ?_ ?_
      rotate_left
      · intro w' hSw; (try dsimp only at hSw); go_simp <;> with_reducible rfl
      simp only [Act.put, List.setIfInBounds_toArray, List.set_cons_zero, List.set_cons_succ]
      refine heldTake 6 (some 65) (v := ?_) rfl rfl (by kernel_rfl) (by kernel_rfl) (by kernel_rfl) (by rfl) hHeld (fun _ _ _ h => h) ?_ ?_
      rotate_left
      · intro w' hSw; (try dsimp only at hSw); go_simp <;> with_reducible rfl
      simp only [Act.put, List.setIfInBounds_toArray, List.set_cons_zero, List.set_cons_succ]
      refine heldCall 7 (some 66) (f := ?_) (args := ?_) rfl rfl (by kernel_rfl) (by rfl) ?_ ?_
      rotate_left 2
      · go_simp <;> first | (constructor <;> with_reducible rfl) | with_reducible rfl
      (with_reducible refine (begins_same _ _ L' (l.take 0) r _ (· < wo.heap.size) HL'.out ?_ ?_).mono ?_)
      · exact hO'
      · exact (hv.below hBo).take hka hkc (Nat.le_refl _)
      rintro e w9 ⟨rfl, hb9⟩
      refine ⟨_, rfl, keepAnd ?_ (fun hNew => ?_)⟩
      · exact (hb9.cell (p := ⟨w7.heap.size, k, none⟩) hF').trans g0
      clear hHeld
      have hHeld := hNew
      clear hNew
      simp only [Act.put, List.setIfInBounds_toArray, List.set_cons_zero, List.set_cons_succ]
      refine heldTake 8 (some 67) (v := ?_) rfl rfl (by kernel_rfl) (by kernel_rfl) (by kernel_rfl) (by rfl) hHeld (fun _ _ _ h => h) ?_ ?_
      rotate_left
      · intro w' hSw; (try dsimp only at hSw); go_simp <;> with_reducible rfl
      simp only [Act.put, List.setIfInBounds_toArray, List.set_cons_zero, List.set_cons_succ]
      refine heldTake 9 (some 68) (v := ?_) rfl rfl (by kernel_rfl) (by kernel_rfl) (by kernel_rfl) (by rfl) hHeld (fun _ _ _ h => h) ?_ ?_
      rotate_left
      · intro w' hSw; (try dsimp only at hSw); go_simp <;> with_reducible rfl
      simp only [Act.put, List.setIfInBounds_toArray, List.set_cons_zero, List.set_cons_succ]
      refine heldTake 10 (some 69) (v := ?_) rfl rfl (by kernel_rfl) (by kernel_rfl) (by kernel_rfl) (by rfl) hHeld (fun _ _ _ h => h) ?_ ?_
      rotate_left
      · intro w' hSw; (try dsimp only at hSw); go_simp <;> with_reducible rfl
      simp only [Act.put, List.setIfInBounds_toArray, List.set_cons_zero, List.set_cons_succ]
      refine heldTake 11 (some 70) (v := ?_) rfl rfl (by kernel_rfl) (by kernel_rfl) (by kernel_rfl) (by rfl) hHeld (fun _ _ _ h => h) ?_ ?_
      rotate_left
      · intro w' hSw; (try dsimp only at hSw); go_simp <;> with_reducible rfl
      simp only [Act.put, List.setIfInBounds_toArray, List.set_cons_zero, List.set_cons_succ]
      refine heldTake 12 (some 71) (v := ?_) rfl rfl (by kernel_rfl) (by kernel_rfl) (by kernel_rfl) (by rfl) hHeld (fun _ _ _ h => h) ?_ ?_
      rotate_left
      · intro w' hSw; (try dsimp only at hSw); go_simp <;> with_reducible rfl
      simp only [Act.put, List.setIfInBounds_toArray, List.set_cons_zero, List.set_cons_succ]
      refine heldTake 13 (some 72) (v := ?_) rfl rfl (by kernel_rfl) (by kernel_rfl) (by kernel_rfl) (by rfl) hHeld (fun _ _ _ h => h) ?_ ?_
      rotate_left
      · intro w' hSw; (try dsimp only at hSw); go_simp <;> with_reducible rfl
      simp only [Act.put, List.setIfInBounds_toArray, List.set_cons_zero, List.set_cons_succ]
      refine heldTake 14 (some 73) (v := ?_) rfl rfl (by kernel_rfl) (by kernel_rfl) (by kernel_rfl) (by rfl) hHeld (fun _ _ _ h => h) ?_ ?_
      rotate_left
      · intro w' hSw; (try dsimp only at hSw); go_simp <;> with_reducible rfl
      simp only [Act.put, List.setIfInBounds_toArray, List.set_cons_zero, List.set_cons_succ]
      refine heldTake 15 (some 74) (v := ?_) rfl rfl (by kernel_rfl) (by kernel_rfl) (by kernel_rfl) (by rfl) hHeld (fun _ _ _ h => h) ?_ ?_
      rotate_left
      · intro w' hSw; (try dsimp only at hSw); go_simp <;> with_reducible rfl
      simp only [Act.put, List.setIfInBounds_toArray, List.set_cons_zero, List.set_cons_succ]
      refine heldTake 16 (some 75) (v := ?_) rfl rfl (by kernel_rfl) (by kernel_rfl) (by kernel_rfl) (by rfl) hHeld (fun _ _ _ h => h) ?_ ?_
      rotate_left
      · intro w' hSw; (try dsimp only at hSw); go_simp <;> with_reducible rfl
      simp only [Act.put, List.setIfInBounds_toArray, List.set_cons_zero, List.set_cons_succ]
      refine heldTake 17 (some 76) (v := ?_) rfl rfl (by kernel_rfl) (by kernel_rfl) (by kernel_rfl) (by rfl) hHeld (fun _ _ _ h => h) ?_ ?_
      rotate_left
      · intro w' hSw; (try dsimp only at hSw); go_simp <;> with_reducible rfl
      simp only [Act.put, List.setIfInBounds_toArray, List.set_cons_zero, List.set_cons_succ]
      refine wpAnyH_done (by kernel_rfl) ?_ _
      refine NoPanic.normal ?_
      go_wp2_with fail
      go_roundw
      case rel => exact ⟨k + 1, by omega, by go_num, hB.drew.trans (hb9.mono hB.drew.size)⟩
      case measure => simp [intOf]; omega
    · have hk5 : k = 5 := by omega
      subst hk5
      go_wp2_with fail
      rw [run_bytes_str (hv.below hBo)]
      go_wp2_with fail
      (with_reducible refine (works_any _).mono ?_)
      rintro e w9 ⟨rfl, hb9⟩
      go_wp2_with fail
      go_ret
      exact ⟨rfl, hBo.trans (hb9.mono hBo.size)⟩

end Go.Proofs.Ythfclmkeadpcbaa
