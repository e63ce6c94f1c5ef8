/-
 RpB
-/
import Derived.Test.YtbfdegkickjbpaaGreatRRpA
namespace Go.Proofs.YtbfdegkickjbpaaGreat
open Go.RowKit Go.Lib Go.IntWalk Go.Sort Go.Shelf
set_option maxRecDepth 1000000 in
set_option maxHeartbeats 16000000 in
theorem refPutTable_any (v : Value) (l : List UInt8) (t : RTab) (w : World) (hu : RdB w (· < w.heap.size) v l) (hi : t.is w (· < w.heap.size)) (hok : t.ok = true) (hl : (l ++ encTab t).length ≤ 100000000000) :
  Calls Tryz.prog 187 #[v, .agg t.enc.toArray] w (NewB w (l ++ encTab t)) := by
 obtain ⟨nm, cA, cC, cols, kA, kC, key, fA, fC, fors, hA, hC, chks⟩ := t
 show Calls Tryz.prog 187 #[v, .agg #[.string nm, .slice cA cols.length cC, .slice kA key.length kC, .slice fA fors.length fC, .slice hA chks.length hC]] w (NewB w (l ++ encTab ⟨nm, cA, cC, cols, kA, kC, key, fA, fC, fors, hA, hC, chks⟩))
 obtain ⟨z1, z2⟩ := hi.cols.bd
 obtain ⟨z3, z4⟩ := hi.key.bd
 obtain ⟨z5, z6⟩ := hi.fors.bd
 obtain ⟨z7, z8⟩ := hi.chks.bd
 simp only at z1 z2 z3 z4 z5 z6 z7 z8
 obtain ⟨W0, hW0⟩ : ∃ W, W = w.alloc (.cells #[.string nm, .slice cA cols.length cC, .slice kA key.length kC, .slice fA fors.length fC, .slice hA chks.length hC] 75) := ⟨_, rfl⟩
 have hbW : Below w.heap.size w W0 := by rw [hW0]; exact Below.of_alloc _
 have HBW := Lib.hid hbW
 have HBL : Hid (w.heap.size < W0.heap.size) := Lib.hid (by rw [hW0]; simp)
 have HT : Hid (W0.heap[w.heap.size]? = some (.cells #[.string nm, .slice cA cols.length cC, .slice kA key.length kC, .slice fA fors.length fC, .slice hA chks.length hC] 75 (0, 0))) := Lib.hid (by rw [hW0]; exact heap_alloc_new _ _)
 have hR0 := hu.below hbW
 unfold RTab.ok at hok
 simp only [Bool.and_eq_true, decide_eq_true_eq, List.all_eq_true] at hok
 obtain ⟨o1, o2, o3, o4, o5, o6, o7, o8⟩ := hok
 have hi0 := hi.below hbW
 have HNM : Hid (nm.size ≤ 300) := Lib.hid (by have := nmB_le o1; omega)
 have HCO : Hid (∀ x ∈ cols, x.name.size ≤ 300 ∧ (-9223372036854775808 ≤ x.kind ∧ x.kind ≤ 9223372036854775807)) := Lib.hid (fun x hx => by have := col_le (o6 x hx); omega)
 have HKB : Hid (∀ n ∈ key, (-9223372036854775808 ≤ n ∧ n ≤ 9223372036854775807)) := Lib.hid (fun n hn => by have := (ix_le o3).2.1 n hn; omega)
 have HFO : Hid (∀ x ∈ fors, x.table.size ≤ 300 ∧ ∀ n ∈ x.cols, (-9223372036854775808 ≤ n ∧ n ≤ 9223372036854775807)) := Lib.hid (fun x hx => ⟨by have := (for_le (o7 x hx)).1; omega, fun n hn => by have := (for_le (o7 x hx)).2.1 n hn; omega⟩)
 have HCH : Hid (∀ e ∈ chks, okX 24 e = true ∧ exIs 24 W0 (· < W0.heap.size) e) := Lib.hid (fun e he => ⟨o8 e he, hi0.chkI e he⟩)
 have HKEY : Hid (RdE 1 intE W0 (· < W0.heap.size) (.slice kA key.length kC) key) := Lib.hid hi0.key
 have HVC : Hid (RdE 3 RCol.enc W0 (· < W0.heap.size) (.slice cA cols.length cC) cols) := Lib.hid hi0.cols
 have HVF : Hid (RdE 2 RFor.enc W0 (· < W0.heap.size) (.slice fA fors.length fC) fors) := Lib.hid hi0.fors
 have HFI : Hid (∀ x ∈ fors, RFor.is W0 (· < W0.heap.size) x) := Lib.hid hi0.forI
 have HVH : Hid (RdE 7 RE.enc W0 (· < W0.heap.size) (.slice hA chks.length hC) chks) := Lib.hid hi0.chks
 obtain ⟨sL1, hsL1⟩ : ∃ L, L = l ++ (encI nm.size ++ nm.data.toList) := ⟨_, rfl⟩
 obtain ⟨sL2, hsL2⟩ : ∃ L, L = sL1 ++ encI cols.length := ⟨_, rfl⟩
 obtain ⟨sL3, hsL3⟩ : ∃ L, L = sL2 ++ cols.flatMap encCol := ⟨_, rfl⟩
 obtain ⟨sL4, hsL4⟩ : ∃ L, L = sL3 ++ (encI key.length ++ key.flatMap encI) := ⟨_, rfl⟩
 obtain ⟨sL5, hsL5⟩ : ∃ L, L = sL4 ++ encI fors.length := ⟨_, rfl⟩
 obtain ⟨sL6, hsL6⟩ : ∃ L, L = sL5 ++ fors.flatMap encFor := ⟨_, rfl⟩
 obtain ⟨sL7, hsL7⟩ : ∃ L, L = sL6 ++ encI chks.length := ⟨_, rfl⟩
 obtain ⟨sL8, hsL8⟩ : ∃ L, L = sL7 ++ chks.flatMap encX := ⟨_, rfl⟩
 have sE : sL8 = l ++ encTab ⟨nm, cA, cC, cols, kA, kC, key, fA, fC, fors, hA, hC, chks⟩ := by rw [hsL8, hsL7, hsL6, hsL5, hsL4, hsL3, hsL2, hsL1]; simp only [encTab, List.append_assoc]
 have sn8 : sL8.length ≤ 100000000000 := by rw [sE]; exact hl
 have sn7 : sL7.length ≤ 100000000000 := by have q := sn8; rw [hsL8, List.length_append] at q; omega
 have sn6 : sL6.length ≤ 100000000000 := by have q := sn7; rw [hsL7, List.length_append] at q; omega
 have sn5 : sL5.length ≤ 100000000000 := by have q := sn6; rw [hsL6, List.length_append] at q; omega
 have sn4 : sL4.length ≤ 100000000000 := by have q := sn5; rw [hsL5, List.length_append] at q; omega
 have sn3 : sL3.length ≤ 100000000000 := by have q := sn4; rw [hsL4, List.length_append] at q; omega
 have sn2 : sL2.length ≤ 100000000000 := by have q := sn3; rw [hsL3, List.length_append] at q; omega
 have sn1 : sL1.length ≤ 100000000000 := by have q := sn2; rw [hsL2, List.length_append] at q; omega
 have sn0 : l.length ≤ 100000000000 := by have q := sn1; rw [hsL1, List.length_append] at q; omega
 have sE := Lib.hid sE
 have sn0 := Lib.hid sn0
 have sn1 := Lib.hid sn1
 have sn2 := Lib.hid sn2
 have sn3 := Lib.hid sn3
 have sn4 := Lib.hid sn4
 have sn5 := Lib.hid sn5
 have sn6 := Lib.hid sn6
 have sn7 := Lib.hid sn7
 have sn8 := Lib.hid sn8
 have sK1 : ∀ v W, RdB W (· < W.heap.size) v l → Below W0.heap.size W0 W → Calls Tryz.prog 116 #[v, .string nm] W (NewB W sL1) := fun v W h hW => by
  rw [hsL1]
  exact refPutText_any v l nm W h (by have q1 := sn0.out; have q2 : nm.size ≤ 300 := HNM.out; omega)
 have sK2 : ∀ v W, RdB W (· < W.heap.size) v sL1 → Below W0.heap.size W0 W → Calls Tryz.prog 113 #[v, .int .i64 (cols.length : Int)] W (NewB W sL2) := fun v W h hW => by
  rw [hsL2]
  exact refPutInt_any v sL1 cols.length W (by omega) (by omega) h (by have := sn1.out; omega)
 have hsL3 := Lib.hid hsL3
 have sK4 : ∀ v W, RdB W (· < W.heap.size) v sL3 → Below W0.heap.size W0 W → Calls Tryz.prog 157 #[v, .slice kA key.length kC] W (NewB W sL4) := fun v W h hW => by
  rw [hsL4]
  exact refPutInts_any v sL3 kA kC key W h (HKEY.out.below hW) HKB.out (by have q := sn4.out; rw [hsL4] at q; exact q)
 have sK5 : ∀ v W, RdB W (· < W.heap.size) v sL4 → Below W0.heap.size W0 W → Calls Tryz.prog 113 #[v, .int .i64 (fors.length : Int)] W (NewB W sL5) := fun v W h hW => by
  rw [hsL5]
  exact refPutInt_any v sL4 fors.length W (by omega) (by omega) h (by have := sn4.out; omega)
 have hsL6 := Lib.hid hsL6
 have sK7 : ∀ v W, RdB W (· < W.heap.size) v sL6 → Below W0.heap.size W0 W → Calls Tryz.prog 113 #[v, .int .i64 (chks.length : Int)] W (NewB W sL7) := fun v W h hW => by
  rw [hsL7]
  exact refPutInt_any v sL6 chks.length W (by omega) (by omega) h (by have := sn6.out; omega)
 have hsL8 := Lib.hid hsL8
 clear hsL1 hsL2 hsL4 hsL5 hsL7
 clear hbW hl hu hi hi0 o1 o2 o3 o4 o5 o6 o7 o8
 go_enter Tryz.func187, Tryz.ntmps187
 go_wp2_with fail
 rw [← hW0]
 clear hW0
 refine wp_region_noPanic ?_
 refine wp_region_held_drew (S := (fun w' => Below W0.heap.size W0 w')) (by kernel_rfl) ?_ (fun hHeld => ?_)
 ·exact (Below.refl _ _).drew
 refine heldTake 0 (some 11) (v := ?_) rfl rfl (by kernel_rfl) (by kernel_rfl) (by kernel_rfl) (by rfl) hHeld (fun _ _ _ h => h) ?_ ?_
 rotate_left
 ·intro w' hSw; (try dsimp only at hSw); go_simp <;> with_reducible rfl
 simp only [Act.put, List.setIfInBounds_toArray, List.set_cons_zero, List.set_cons_succ]
 refine heldTake 1 (some 12) (v := ?_) rfl rfl (by kernel_rfl) (by kernel_rfl) (by kernel_rfl) (by rfl) hHeld (fun _ _ _ h => h) ?_ ?_
 rotate_left
 ·intro w' hSw; (try dsimp only at hSw); go_simp <;> with_reducible rfl
 simp only [Act.put, List.setIfInBounds_toArray, List.set_cons_zero, List.set_cons_succ]
 refine heldTake 2 (some 13) (v := ?_) rfl rfl (by kernel_rfl) (by kernel_rfl) (by kernel_rfl) (by rfl) hHeld (fun _ _ _ h => h) ?_ ?_
 rotate_left
 ·intro w' hSw; (try dsimp only at hSw); have q0 : w'.cell? ⟨w.heap.size, 0, none⟩ = some (.string nm) := cell_of_row w' _ 0 _ _ _ ((hSw.block _ HBL.out).trans HT.out); go_simp <;> with_reducible rfl
 simp only [Act.put, List.setIfInBounds_toArray, List.set_cons_zero, List.set_cons_succ]
 refine heldTake 4 (some 15) (v := ?_) rfl rfl (by kernel_rfl) (by kernel_rfl) (by kernel_rfl) (by rfl) hHeld (fun _ _ _ h => h) ?_ ?_
 rotate_left
 ·intro w' hSw; (try dsimp only at hSw); go_simp <;> with_reducible rfl
 simp only [Act.put, List.setIfInBounds_toArray, List.set_cons_zero, List.set_cons_succ]
 refine heldTake 5 (some 16) (v := ?_) rfl rfl (by kernel_rfl) (by kernel_rfl) (by kernel_rfl) (by rfl) hHeld (fun _ _ _ h => h) ?_ ?_
 rotate_left
 ·intro w' hSw; (try dsimp only at hSw); have q1 : w'.cell? ⟨w.heap.size, 1, none⟩ = some (.slice cA cols.length cC) := cell_of_row w' _ 1 _ _ _ ((hSw.block _ HBL.out).trans HT.out); go_simp <;> with_reducible rfl
 simp only [Act.put, List.setIfInBounds_toArray, List.set_cons_zero, List.set_cons_succ]
 refine heldTake 6 (some 17) (v := ?_) rfl rfl (by kernel_rfl) (by kernel_rfl) (by kernel_rfl) (by rfl) hHeld (fun _ _ _ h => h) ?_ ?_
 rotate_left
 ·intro w' hSw; (try dsimp only at hSw); go_simp <;> with_reducible rfl
 simp only [Act.put, List.setIfInBounds_toArray, List.set_cons_zero, List.set_cons_succ]
 refine heldCall 3 (some 14) (f := ?_) (args := ?_) rfl rfl (by kernel_rfl) (by rfl) ?_ ?_
 rotate_left 2
 ·go_simp <;> first | (constructor <;> with_reducible rfl) | with_reducible rfl
 (with_reducible refine (sK1 _ _ (hR0.below (Below.refl _ _).drew) ((Below.refl W0.heap.size W0).trans ((Below.refl W0.heap.size W0).drew.mono (Below.refl W0.heap.size W0).size))).mono ?_)
 rintro _ y1 ⟨vy1, rfl, hOy1, hby1'⟩
 have hby1 : Below W0.heap.size W0 y1 := Below.undrew hby1'
 have hRy1 := hOy1.rd
 refine ⟨_, rfl, keepAnd ?_ (fun hNew => ?_)⟩
 ·exact hby1
 clear hHeld
 have hHeld := hNew
 clear hNew
 simp only [Act.put, List.setIfInBounds_toArray, List.set_cons_zero, List.set_cons_succ]
 refine heldCall 7 (some 18) (f := ?_) (args := ?_) rfl rfl (by kernel_rfl) (by rfl) ?_ ?_
 rotate_left 2
 ·go_simp <;> first | (constructor <;> with_reducible rfl) | with_reducible rfl
 (with_reducible refine (sK2 _ _ hRy1 ((Below.refl W0.heap.size W0).trans (hby1.mono (Below.refl W0.heap.size W0).size))).mono ?_)
 rintro _ y2 ⟨vy2, rfl, hOy2, hby2'⟩
 have hby2 : Below W0.heap.size W0 y2 := hby1.trans (hby2'.mono hby1.size)
 have hRy2 := hOy2.rd
 refine ⟨_, rfl, keepAnd ?_ (fun hNew => ?_)⟩
 ·exact hby2
 clear hHeld
 have hHeld := hNew
 clear hNew
 simp only [Act.put, List.setIfInBounds_toArray, List.set_cons_zero, List.set_cons_succ]
 refine heldTake 8 (some 0) (v := ?_) rfl rfl (by kernel_rfl) (by kernel_rfl) (by kernel_rfl) (by rfl) hHeld (fun _ _ _ h => h) ?_ ?_
 rotate_left
 ·intro w' hSw; (try dsimp only at hSw); go_simp <;> with_reducible rfl
 simp only [Act.put, List.setIfInBounds_toArray, List.set_cons_zero]
 refine wpAnyH_done (by kernel_rfl) ?_ _
 refine NoPanic.normal ?_
 clear hHeld
 have HA1 : Hid (AtB W0 y2 vy2 sL2) := Lib.hid (AtB.next ((Below.refl W0.heap.size W0).trans (hby1.mono (Below.refl W0.heap.size W0).size)) hOy2 hby2')
 clear hRy1 hby1 hby1' hOy1 hRy2 hby2 hby2' hOy2 sK1 sK2
 clear hR0
 have hT3 := (HA1.out.bel.block _ HBL.out).trans HT.out
 have c1 : y2.cell? ⟨w.heap.size, 1, none⟩ = some (.slice cA cols.length cC) := cell_of_row y2 _ 1 _ _ _ hT3
 clear hT3
 go_wp2_with fail
 clear c1
 go_loopw [0, 22] (fun b i wr => ∃ k : Nat, i = .int .i64 (k : Int) ∧ k ≤ cols.length ∧ Hid (AtB W0 wr b (sL2 ++ (cols.take k).flatMap encCol))) (fun _ i _ => cols.length - (intOf i).toNat)
 case atStart => exact ⟨0, rfl, Nat.zero_le _, Lib.hid (HA1.out.cast (by rw [List.take_zero, List.flatMap_nil, List.append_nil]))⟩
 case round =>
  clear HA1
  obtain ⟨kc, rfl, hkc, HAic⟩ := hrel
  obtain ⟨wic, rfl⟩ : ∃ wic : World, wic = wr := ⟨_, rfl⟩
  by_cases hltc : kc < cols.length
  case neg =>
   have hltZ : ¬ (kc : Int) < (cols.length : Int) := by omega
   have HFc := Lib.hid (HAic.out.cast (show sL2 ++ (cols.take kc).flatMap encCol = sL3 by rw [List.take_of_length_le (by omega), hsL3.out]))
   clear HAic
   have hR7 := HFc.out.rd
   have HT7 := Lib.hid ((HFc.out.bel.block _ HBL.out).trans HT.out)
   have HBL7 : Hid (w.heap.size < wic.heap.size) := Lib.hid (Nat.lt_of_lt_of_le HBL.out HFc.out.bel.size)
   go_wp2_with fail
   refine wp_region_noPanic ?_
   refine wp_region_held_drew (S := (fun w' => Below wic.heap.size wic w')) (by kernel_rfl) ?_ (fun hHeld => ?_)
   ·exact (Below.refl _ _).drew
   refine heldTake 0 (some 30) (v := ?_) rfl rfl (by kernel_rfl) (by kernel_rfl) (by kernel_rfl) (by rfl) hHeld (fun _ _ _ h => h) ?_ ?_
   rotate_left
   ·intro w' hSw; (try dsimp only at hSw); go_simp <;> with_reducible rfl
   simp only [Act.put, List.setIfInBounds_toArray, List.set_cons_zero, List.set_cons_succ]
   refine heldTake 1 (some 31) (v := ?_) rfl rfl (by kernel_rfl) (by kernel_rfl) (by kernel_rfl) (by rfl) hHeld (fun _ _ _ h => h) ?_ ?_
   rotate_left
   ·intro w' hSw; (try dsimp only at hSw); go_simp <;> with_reducible rfl
   simp only [Act.put, List.setIfInBounds_toArray, List.set_cons_zero, List.set_cons_succ]
   refine heldTake 2 (some 32) (v := ?_) rfl rfl (by kernel_rfl) (by kernel_rfl) (by kernel_rfl) (by rfl) hHeld (fun _ _ _ h => h) ?_ ?_
   rotate_left
   ·intro w' hSw; (try dsimp only at hSw); have q2 : w'.cell? ⟨w.heap.size, 2, none⟩ = some (.slice kA key.length kC) := cell_of_row w' _ 2 _ _ _ ((hSw.block _ HBL7.out).trans HT7.out); go_simp <;> with_reducible rfl
   simp only [Act.put, List.setIfInBounds_toArray, List.set_cons_zero, List.set_cons_succ]
   refine heldTake 4 (some 34) (v := ?_) rfl rfl (by kernel_rfl) (by kernel_rfl) (by kernel_rfl) (by rfl) hHeld (fun _ _ _ h => h) ?_ ?_
   rotate_left
   ·intro w' hSw; (try dsimp only at hSw); go_simp <;> with_reducible rfl
   simp only [Act.put, List.setIfInBounds_toArray, List.set_cons_zero, List.set_cons_succ]
   refine heldTake 5 (some 35) (v := ?_) rfl rfl (by kernel_rfl) (by kernel_rfl) (by kernel_rfl) (by rfl) hHeld (fun _ _ _ h => h) ?_ ?_
   rotate_left
   ·intro w' hSw; (try dsimp only at hSw); have q3 : w'.cell? ⟨w.heap.size, 3, none⟩ = some (.slice fA fors.length fC) := cell_of_row w' _ 3 _ _ _ ((hSw.block _ HBL7.out).trans HT7.out); go_simp <;> with_reducible rfl
   simp only [Act.put, List.setIfInBounds_toArray, List.set_cons_zero, List.set_cons_succ]
   refine heldTake 6 (some 36) (v := ?_) rfl rfl (by kernel_rfl) (by kernel_rfl) (by kernel_rfl) (by rfl) hHeld (fun _ _ _ h => h) ?_ ?_
   rotate_left
   ·intro w' hSw; (try dsimp only at hSw); go_simp <;> with_reducible rfl
   simp only [Act.put, List.setIfInBounds_toArray, List.set_cons_zero, List.set_cons_succ]
   refine heldCall 3 (some 33) (f := ?_) (args := ?_) rfl rfl (by kernel_rfl) (by rfl) ?_ ?_
   rotate_left 2
   ·go_simp <;> first | (constructor <;> with_reducible rfl) | with_reducible rfl
   (with_reducible refine (sK4 _ _ (hR7.below (Below.refl _ _).drew) (HFc.out.bel.trans ((Below.refl wic.heap.size wic).drew.mono HFc.out.bel.size))).mono ?_)
   rintro _ t1 ⟨vt1, rfl, hOt1, hbt1'⟩
   have hbt1 : Below wic.heap.size wic t1 := Below.undrew hbt1'
   have hRt1 := hOt1.rd
   refine ⟨_, rfl, keepAnd ?_ (fun hNew => ?_)⟩
   ·exact hbt1
   clear hHeld
   have hHeld := hNew
   clear hNew
   simp only [Act.put, List.setIfInBounds_toArray, List.set_cons_zero, List.set_cons_succ]
   refine heldCall 7 (some 37) (f := ?_) (args := ?_) rfl rfl (by kernel_rfl) (by rfl) ?_ ?_
   rotate_left 2
   ·go_simp <;> first | (constructor <;> with_reducible rfl) | with_reducible rfl
   (with_reducible refine (sK5 _ _ hRt1 (HFc.out.bel.trans (hbt1.mono HFc.out.bel.size))).mono ?_)
   rintro _ t2 ⟨vt2, rfl, hOt2, hbt2'⟩
   have hbt2 : Below wic.heap.size wic t2 := hbt1.trans (hbt2'.mono hbt1.size)
   have hRt2 := hOt2.rd
   refine ⟨_, rfl, keepAnd ?_ (fun hNew => ?_)⟩
   ·exact hbt2
   clear hHeld
   have hHeld := hNew
   clear hNew
   simp only [Act.put, List.setIfInBounds_toArray, List.set_cons_zero, List.set_cons_succ]
   refine heldTake 8 (some 0) (v := ?_) rfl rfl (by kernel_rfl) (by kernel_rfl) (by kernel_rfl) (by rfl) hHeld (fun _ _ _ h => h) ?_ ?_
   rotate_left
   ·intro w' hSw; (try dsimp only at hSw); go_simp <;> with_reducible rfl
   simp only [Act.put, List.setIfInBounds_toArray, List.set_cons_zero]
   refine wpAnyH_done (by kernel_rfl) ?_ _
   refine NoPanic.normal ?_
   clear hHeld
   have HA3 : Hid (AtB W0 t2 vt2 sL5) := Lib.hid (AtB.next (HFc.out.bel.trans (hbt1.mono HFc.out.bel.size)) hOt2 hbt2')
   clear hRt1 hbt1 hbt1' hOt1 hRt2 hbt2 hbt2' hOt2 sK4 sK5
   clear hR7 HT7 HBL7 HFc
   have hT3 := (HA3.out.bel.block _ HBL.out).trans HT.out
   have c3 : t2.cell? ⟨w.heap.size, 3, none⟩ = some (.slice fA fors.length fC) := cell_of_row t2 _ 3 _ _ _ hT3
   clear hT3
   go_wp2_with fail
   clear c3
   go_loopw [0, 41] (fun b i wr => ∃ k : Nat, i = .int .i64 (k : Int) ∧ k ≤ fors.length ∧ Hid (AtB W0 wr b (sL5 ++ (fors.take k).flatMap encFor))) (fun _ i _ => fors.length - (intOf i).toNat)
   case atStart => exact ⟨0, rfl, Nat.zero_le _, Lib.hid (HA3.out.cast (by rw [List.take_zero, List.flatMap_nil, List.append_nil]))⟩
   case round =>
    clear HA3
    obtain ⟨kf, rfl, hkf, HAif⟩ := hrel
    obtain ⟨wif, rfl⟩ : ∃ wif : World, wif = wr := ⟨_, rfl⟩
    by_cases hltf : kf < fors.length
    case neg =>
     have hltZ : ¬ (kf : Int) < (fors.length : Int) := by omega
     have HFf := Lib.hid (HAif.out.cast (show sL5 ++ (fors.take kf).flatMap encFor = sL6 by rw [List.take_of_length_le (by omega), hsL6.out]))
     clear HAif
     have hT3 := (HFf.out.bel.block _ HBL.out).trans HT.out
     have c4 : wif.cell? ⟨w.heap.size, 4, none⟩ = some (.slice hA chks.length hC) := cell_of_row wif _ 4 _ _ _ hT3
     clear hT3
     have KC := sK7 _ _ HFf.out.rd HFf.out.bel
     go_wp2_with fail
     (with_reducible refine KC.mono ?_)
     rintro _ y8 ⟨vy8, rfl, hO, hb⟩
     have HA5 : Hid (AtB W0 y8 vy8 sL7) := Lib.hid (AtB.next HFf.out.bel hO hb)
     clear KC hO hb sK7
     clear c4 HFf
     have hT3 := (HA5.out.bel.block _ HBL.out).trans HT.out
     have c4 : y8.cell? ⟨w.heap.size, 4, none⟩ = some (.slice hA chks.length hC) := cell_of_row y8 _ 4 _ _ _ hT3
     clear hT3
     go_wp2_with fail
     clear c4
     go_loopw [0, 61] (fun b i wr => ∃ k : Nat, i = .int .i64 (k : Int) ∧ k ≤ chks.length ∧ Hid (AtB W0 wr b (sL7 ++ (chks.take k).flatMap encX))) (fun _ i _ => chks.length - (intOf i).toNat)
     case atStart => exact ⟨0, rfl, Nat.zero_le _, Lib.hid (HA5.out.cast (by rw [List.take_zero, List.flatMap_nil, List.append_nil]))⟩
     case round =>
      clear HA5
      obtain ⟨kh, rfl, hkh, HAih⟩ := hrel
      obtain ⟨wih, rfl⟩ : ∃ wih : World, wih = wr := ⟨_, rfl⟩
      by_cases hlth : kh < chks.length
      case neg =>
       have hltZ : ¬ (kh : Int) < (chks.length : Int) := by omega
       have HFh := Lib.hid (HAih.out.cast (show sL7 ++ (chks.take kh).flatMap encX = sL8 by rw [List.take_of_length_le (by omega), hsL8.out]))
       clear HAih
       go_wp2_with fail
       go_ret
       exact HFh.out.done HBW.out (by rw [sE.out] <;> first | rfl | (simp only [List.append_assoc]; done) | (simp [*, List.append_assoc]; done))
      case pos =>
       have hltZ : (kh : Int) < (chks.length : Int) := by omega
       have hBi := HAih.out.bel
       obtain ⟨bh, offh, rfl, hF, hcl⟩ := RdE.at_ (K := 7) (enc := RE.enc) RE.enc_length (by omega) (HVH.out.keep (Keeps.below hBi)) hlth
       have hcx := hcl kh hlth
       have hmem := List.getElem_mem hlth
       have hsn := flat_snoc encX hlth
       have hle := flat_le encX hlth
       obtain ⟨xh, hx⟩ : ∃ x, x = chks[kh] := ⟨_, rfl⟩
       rw [← hx] at hcx hmem hsn hle
       obtain ⟨Lkh, hLk⟩ : ∃ L, L = sL7 ++ (chks.take kh).flatMap encX := ⟨_, rfl⟩
       have hM : (Lkh ++ encX xh).length ≤ 100000000000 := by
        have q := sn8.out
        rw [hsL8.out] at q
        rw [hLk]
        simp only [List.length_append] at q ⊢
        omega
       have hS : sL7 ++ (chks.take (kh + 1)).flatMap encX = Lkh ++ encX xh := by rw [hsn, ← List.append_assoc, ← hLk]
       have HBih := Lib.hid hBi
       have hRi := HAih.out.rd
       rw [← hLk] at hRi
       clear hcl hx hF hsn hle hBi hLk HAih
       have HXO := Lib.hid (HCH.out _ hmem)
       obtain ⟨op2, it2, ⟨vk2, vi2, vs2⟩, nm2, aA2, ac2, args2⟩ := xh
       have HSh : Hid (sL7 ++ (chks.take (kh + 1)).flatMap encX = Lkh ++ encX (RE.mk op2 it2 ⟨vk2, vi2, vs2⟩ nm2 aA2 ac2 args2)) := Lib.hid hS
       have hM : (Lkh ++ encX (RE.mk op2 it2 ⟨vk2, vi2, vs2⟩ nm2 aA2 ac2 args2)).length ≤ 100000000000 := hM
       have gh0 : wih.cell? ⟨bh, offh + kh * 7, none⟩ = some (.int .i64 op2) := hcx 0 _ (by decide) rfl
       have gh1 : wih.cell? ⟨bh, offh + kh * 7 + 1, none⟩ = some (.int .i64 it2) := hcx 1 _ (by decide) rfl
       have gh2 : wih.cell? ⟨bh, offh + kh * 7 + 2, none⟩ = some (.int .i64 vk2) := hcx 2 _ (by decide) rfl
       have gh3 : wih.cell? ⟨bh, offh + kh * 7 + 3, none⟩ = some (.int .i64 vi2) := hcx 3 _ (by decide) rfl
       have gh4 : wih.cell? ⟨bh, offh + kh * 7 + 4, none⟩ = some (.string vs2) := hcx 4 _ (by decide) rfl
       have gh5 : wih.cell? ⟨bh, offh + kh * 7 + 5, none⟩ = some (.string nm2) := hcx 5 _ (by decide) rfl
       have gh6 : wih.cell? ⟨bh, offh + kh * 7 + 6, none⟩ = some (.slice aA2 args2.length ac2) := hcx 6 _ (by decide) rfl
       clear hcx hS hmem
       obtain ⟨wbh, hwbh⟩ : ∃ W, W = wih.alloc (.cells #[.int .i64 op2, .int .i64 it2, .int .i64 vk2, .int .i64 vi2, .string vs2, .string nm2, .slice aA2 args2.length ac2] 212) := ⟨_, rfl⟩
       have hbb : Below wih.heap.size wih wbh := by rw [hwbh]; exact Below.of_alloc _
       have HBbh : Hid (Below W0.heap.size W0 wbh) := Lib.hid (HBih.out.trans (hbb.mono HBih.out.size))
       have HXLh : Hid (wih.heap.size < wbh.heap.size) := Lib.hid (by rw [hwbh]; simp)
       have HXh : Hid (wbh.heap[wih.heap.size]? = some (.cells #[.int .i64 op2, .int .i64 it2, .int .i64 vk2, .int .i64 vi2, .string vs2, .string nm2, .slice aA2 args2.length ac2] 212 (0, 0))) := Lib.hid (by rw [hwbh]; exact heap_alloc_new _ _)
       have hRbh := hRi.below hbb
       clear hbb hRi
       have KC : Calls Tryz.prog 236 #[_, .agg #[.int .i64 op2, .int .i64 it2, .int .i64 vk2, .int .i64 vi2, .string vs2, .string nm2, .slice aA2 args2.length ac2]] wbh (NewB wbh (Lkh ++ encX (RE.mk op2 it2 ⟨vk2, vi2, vs2⟩ nm2 aA2 ac2 args2))) := refPutExpr_any 24 (RE.mk op2 it2 ⟨vk2, vi2, vs2⟩ nm2 aA2 ac2 args2) _ Lkh wbh HXO.out.1 (exIs_below HBbh.out 24 _ HXO.out.2) hRbh hM
       go_wp2_with fail
       rw [← hwbh]
       (with_reducible refine KC.mono ?_)
       rintro _ y9 ⟨vy9, rfl, hO, hb⟩
       have HAnh : Hid (AtB W0 y9 vy9 (Lkh ++ encX (RE.mk op2 it2 ⟨vk2, vi2, vs2⟩ nm2 aA2 ac2 args2))) := Lib.hid (AtB.next HBbh.out hO hb)
       clear KC hO hb hM
       go_wp2_with fail
       go_roundw
       case rel => exact ⟨kh + 1, by go_num, by omega, Lib.hid (HAnh.out.cast HSh.out.symm)⟩
       case measure => simp [intOf]; omega
    case pos =>
     have hltZ : (kf : Int) < (fors.length : Int) := by omega
     have hBi := HAif.out.bel
     obtain ⟨bf, offf, rfl, hF, hcl⟩ := RdE.at_ (K := 2) (enc := RFor.enc) (fun _ => rfl) (by omega) (HVF.out.keep (Keeps.below hBi)) hltf
     have hcx := hcl kf hltf
     have hmem := List.getElem_mem hltf
     have hsn := flat_snoc encFor hltf
     have hle := flat_le encFor hltf
     obtain ⟨xf, hx⟩ : ∃ x, x = fors[kf] := ⟨_, rfl⟩
     rw [← hx] at hcx hmem hsn hle
     obtain ⟨Lkf, hLk⟩ : ∃ L, L = sL5 ++ (fors.take kf).flatMap encFor := ⟨_, rfl⟩
     have hM : (Lkf ++ encFor xf).length ≤ 100000000000 := by
      have q := sn6.out
      rw [hsL6.out] at q
      rw [hLk]
      simp only [List.length_append] at q ⊢
      omega
     have hS : sL5 ++ (fors.take (kf + 1)).flatMap encFor = Lkf ++ encFor xf := by rw [hsn, ← List.append_assoc, ← hLk]
     have HBif := Lib.hid hBi
     have hRi := HAif.out.rd
     rw [← hLk] at hRi
     clear hcl hx hF hsn hle hBi hLk HAif
     have HGB := Lib.hid (HFO.out _ hmem)
     have HGI : Hid (RFor.is W0 (· < W0.heap.size) xf) := Lib.hid (HFI.out _ hmem)
     obtain ⟨gA, gc, gl, gt⟩ := xf
     have HGI : Hid (RdE 1 intE W0 (· < W0.heap.size) (.slice gA gl.length gc) gl) := HGI
     have HSf : Hid (sL5 ++ (fors.take (kf + 1)).flatMap encFor = Lkf ++ encFor ⟨gA, gc, gl, gt⟩) := Lib.hid hS
     have hM : (Lkf ++ encFor ⟨gA, gc, gl, gt⟩).length ≤ 100000000000 := hM
     have gf0 : wif.cell? ⟨bf, offf + kf * 2, none⟩ = some (.slice gA gl.length gc) := hcx 0 _ (by decide) rfl
     have gf1 : wif.cell? ⟨bf, offf + kf * 2 + 1, none⟩ = some (.string gt) := hcx 1 _ (by decide) rfl
     clear hcx hS hmem
     obtain ⟨wbf, hwbf⟩ : ∃ W, W = wif.alloc (.cells #[.slice gA gl.length gc, .string gt] 278) := ⟨_, rfl⟩
     have hbb : Below wif.heap.size wif wbf := by rw [hwbf]; exact Below.of_alloc _
     have HBbf : Hid (Below W0.heap.size W0 wbf) := Lib.hid (HBif.out.trans (hbb.mono HBif.out.size))
     have HXLf : Hid (wif.heap.size < wbf.heap.size) := Lib.hid (by rw [hwbf]; simp)
     have HXf : Hid (wbf.heap[wif.heap.size]? = some (.cells #[.slice gA gl.length gc, .string gt] 278 (0, 0))) := Lib.hid (by rw [hwbf]; exact heap_alloc_new _ _)
     have hRbf := hRi.below hbb
     clear hbb hRi
     obtain ⟨bL1, hbL1⟩ : ∃ L, L = Lkf ++ (encI gl.length ++ gl.flatMap encI) := ⟨_, rfl⟩
     obtain ⟨bL2, hbL2⟩ : ∃ L, L = bL1 ++ (encI gt.size ++ gt.data.toList) := ⟨_, rfl⟩
     have bE : bL2 = Lkf ++ encFor ⟨gA, gc, gl, gt⟩ := by rw [hbL2, hbL1]; simp only [encFor, List.append_assoc]
     have bn2 : bL2.length ≤ 100000000000 := by rw [bE]; exact hM
     have bn1 : bL1.length ≤ 100000000000 := by have q := bn2; rw [hbL2, List.length_append] at q; omega
     have bn0 : Lkf.length ≤ 100000000000 := by have q := bn1; rw [hbL1, List.length_append] at q; omega
     have bE := Lib.hid bE
     have bn0 := Lib.hid bn0
     have bn1 := Lib.hid bn1
     have bn2 := Lib.hid bn2
     have bK1 : ∀ v W, RdB W (· < W.heap.size) v Lkf → Below W0.heap.size W0 W → Calls Tryz.prog 157 #[v, .slice gA gl.length gc] W (NewB W bL1) := fun v W h hW => by
      rw [hbL1]
      exact refPutInts_any v Lkf gA gc gl W h (HGI.out.below hW) HGB.out.2 (by have q := bn1.out; rw [hbL1] at q; exact q)
     have bK2 : ∀ v W, RdB W (· < W.heap.size) v bL1 → Below W0.heap.size W0 W → Calls Tryz.prog 116 #[v, .string gt] W (NewB W bL2) := fun v W h hW => by
      rw [hbL2]
      exact refPutText_any v bL1 gt W h (by have q1 := bn1.out; have q2 : gt.size ≤ 300 := HGB.out.1; omega)
     clear hbL1 hbL2
     clear hM
     go_wp2_with fail
     rw [← hwbf]
     clear hwbf
     refine wp_region_noPanic ?_
     refine wp_region_held_drew (S := (fun w' => Below wbf.heap.size wbf w')) (by kernel_rfl) ?_ (fun hHeld => ?_)
     ·exact (Below.refl _ _).drew
     refine heldTake 0 (some 45) (v := ?_) rfl rfl (by kernel_rfl) (by kernel_rfl) (by kernel_rfl) (by rfl) hHeld (fun _ _ _ h => h) ?_ ?_
     rotate_left
     ·intro w' hSw; (try dsimp only at hSw); go_simp <;> with_reducible rfl
     simp only [Act.put, List.setIfInBounds_toArray, List.set_cons_zero, List.set_cons_succ]
     refine heldTake 1 (some 46) (v := ?_) rfl rfl (by kernel_rfl) (by kernel_rfl) (by kernel_rfl) (by rfl) hHeld (fun _ _ _ h => h) ?_ ?_
     rotate_left
     ·intro w' hSw; (try dsimp only at hSw); go_simp <;> with_reducible rfl
     simp only [Act.put, List.setIfInBounds_toArray, List.set_cons_zero, List.set_cons_succ]
     refine heldTake 2 (some 47) (v := ?_) rfl rfl (by kernel_rfl) (by kernel_rfl) (by kernel_rfl) (by rfl) hHeld (fun _ _ _ h => h) ?_ ?_
     rotate_left
     ·intro w' hSw; (try dsimp only at hSw); have q0 : w'.cell? ⟨wif.heap.size, 0, none⟩ = some (.slice gA gl.length gc) := cell_of_row w' _ 0 _ _ _ ((hSw.block _ HXLf.out).trans HXf.out); go_simp <;> with_reducible rfl
     simp only [Act.put, List.setIfInBounds_toArray, List.set_cons_zero, List.set_cons_succ]
     refine heldTake 4 (some 49) (v := ?_) rfl rfl (by kernel_rfl) (by kernel_rfl) (by kernel_rfl) (by rfl) hHeld (fun _ _ _ h => h) ?_ ?_
     rotate_left
     ·intro w' hSw; (try dsimp only at hSw); go_simp <;> with_reducible rfl
     simp only [Act.put, List.setIfInBounds_toArray, List.set_cons_zero, List.set_cons_succ]
     refine heldTake 5 (some 50) (v := ?_) rfl rfl (by kernel_rfl) (by kernel_rfl) (by kernel_rfl) (by rfl) hHeld (fun _ _ _ h => h) ?_ ?_
     rotate_left
     ·intro w' hSw; (try dsimp only at hSw); have q1 : w'.cell? ⟨wif.heap.size, 1, none⟩ = some (.string gt) := cell_of_row w' _ 1 _ _ _ ((hSw.block _ HXLf.out).trans HXf.out); go_simp <;> with_reducible rfl
     simp only [Act.put, List.setIfInBounds_toArray, List.set_cons_zero, List.set_cons_succ]
     refine heldCall 3 (some 48) (f := ?_) (args := ?_) rfl rfl (by kernel_rfl) (by rfl) ?_ ?_
     rotate_left 2
     ·go_simp <;> first | (constructor <;> with_reducible rfl) | with_reducible rfl
     (with_reducible refine (bK1 _ _ (hRbf.below (Below.refl _ _).drew) (HBbf.out.trans ((Below.refl wbf.heap.size wbf).drew.mono HBbf.out.size))).mono ?_)
     rintro _ z1 ⟨vz1, rfl, hOz1, hbz1'⟩
     have hbz1 : Below wbf.heap.size wbf z1 := Below.undrew hbz1'
     have hRz1 := hOz1.rd
     refine ⟨_, rfl, keepAnd ?_ (fun hNew => ?_)⟩
     ·exact hbz1
     clear hHeld
     have hHeld := hNew
     clear hNew
     simp only [Act.put, List.setIfInBounds_toArray, List.set_cons_zero, List.set_cons_succ]
     refine heldCall 6 (some 51) (f := ?_) (args := ?_) rfl rfl (by kernel_rfl) (by rfl) ?_ ?_
     rotate_left 2
     ·go_simp <;> first | (constructor <;> with_reducible rfl) | with_reducible rfl
     (with_reducible refine (bK2 _ _ hRz1 (HBbf.out.trans (hbz1.mono HBbf.out.size))).mono ?_)
     rintro _ z2 ⟨vz2, rfl, hOz2, hbz2'⟩
     have hbz2 : Below wbf.heap.size wbf z2 := hbz1.trans (hbz2'.mono hbz1.size)
     have hRz2 := hOz2.rd
     refine ⟨_, rfl, keepAnd ?_ (fun hNew => ?_)⟩
     ·exact hbz2
     clear hHeld
     have hHeld := hNew
     clear hNew
     simp only [Act.put, List.setIfInBounds_toArray, List.set_cons_zero, List.set_cons_succ]
     refine heldTake 7 (some 0) (v := ?_) rfl rfl (by kernel_rfl) (by kernel_rfl) (by kernel_rfl) (by rfl) hHeld (fun _ _ _ h => h) ?_ ?_
     rotate_left
     ·intro w' hSw; (try dsimp only at hSw); go_simp <;> with_reducible rfl
     simp only [Act.put, List.setIfInBounds_toArray, List.set_cons_zero]
     refine wpAnyH_done (by kernel_rfl) ?_ _
     refine NoPanic.normal ?_
     clear hHeld
     have HAz : Hid (AtB W0 z2 vz2 bL2) := Lib.hid (AtB.next (HBbf.out.trans (hbz1.mono HBbf.out.size)) hOz2 hbz2')
     clear hRz1 hbz1 hbz1' hOz1 hRz2 hbz2 hbz2' hOz2 bK1 bK2
     have HAnf := Lib.hid (HAz.out.cast bE.out)
     clear hRbf HAz
     go_wp2_with fail
     go_roundw
     case rel => exact ⟨kf + 1, by go_num, by omega, Lib.hid (HAnf.out.cast HSf.out.symm)⟩
     case measure => simp [intOf]; omega
  case pos =>
   have hltZ : (kc : Int) < (cols.length : Int) := by omega
   have hBi := HAic.out.bel
   obtain ⟨bc, offc, rfl, hF, hcl⟩ := RdE.at_ (K := 3) (enc := RCol.enc) (fun _ => rfl) (by omega) (HVC.out.keep (Keeps.below hBi)) hltc
   have hcx := hcl kc hltc
   have hmem := List.getElem_mem hltc
   have hsn := flat_snoc encCol hltc
   have hle := flat_le encCol hltc
   obtain ⟨xc, hx⟩ : ∃ x, x = cols[kc] := ⟨_, rfl⟩
   rw [← hx] at hcx hmem hsn hle
   obtain ⟨Lkc, hLk⟩ : ∃ L, L = sL2 ++ (cols.take kc).flatMap encCol := ⟨_, rfl⟩
   have hM : (Lkc ++ encCol xc).length ≤ 100000000000 := by
    have q := sn3.out
    rw [hsL3.out] at q
    rw [hLk]
    simp only [List.length_append] at q ⊢
    omega
   have hS : sL2 ++ (cols.take (kc + 1)).flatMap encCol = Lkc ++ encCol xc := by rw [hsn, ← List.append_assoc, ← hLk]
   have HBic := Lib.hid hBi
   have hRi := HAic.out.rd
   rw [← hLk] at hRi
   clear hcl hx hF hsn hle hBi hLk HAic
   have HCB := Lib.hid (HCO.out _ hmem)
   obtain ⟨cn, ck, cz⟩ := xc
   have HSc : Hid (sL2 ++ (cols.take (kc + 1)).flatMap encCol = Lkc ++ encCol ⟨cn, ck, cz⟩) := Lib.hid hS
   have hM : (Lkc ++ encCol ⟨cn, ck, cz⟩).length ≤ 100000000000 := hM
   have gc0 : wic.cell? ⟨bc, offc + kc * 3, none⟩ = some (.string cn) := hcx 0 _ (by decide) rfl
   have gc1 : wic.cell? ⟨bc, offc + kc * 3 + 1, none⟩ = some (.int .i64 ck) := hcx 1 _ (by decide) rfl
   have gc2 : wic.cell? ⟨bc, offc + kc * 3 + 2, none⟩ = some (.bool cz) := hcx 2 _ (by decide) rfl
   clear hcx hS hmem
   obtain ⟨wbc, hwbc⟩ : ∃ W, W = wic.alloc (.cells #[.string cn, .int .i64 ck, .bool cz] 77) := ⟨_, rfl⟩
   have hbb : Below wic.heap.size wic wbc := by rw [hwbc]; exact Below.of_alloc _
   have HBbc : Hid (Below W0.heap.size W0 wbc) := Lib.hid (HBic.out.trans (hbb.mono HBic.out.size))
   have HXLc : Hid (wic.heap.size < wbc.heap.size) := Lib.hid (by rw [hwbc]; simp)
   have HXc : Hid (wbc.heap[wic.heap.size]? = some (.cells #[.string cn, .int .i64 ck, .bool cz] 77 (0, 0))) := Lib.hid (by rw [hwbc]; exact heap_alloc_new _ _)
   have hRbc := hRi.below hbb
   clear hbb hRi
   have KC : Calls Tryz.prog 189 #[_, .agg #[.string cn, .int .i64 ck, .bool cz]] wbc (NewB wbc (Lkc ++ encCol ⟨cn, ck, cz⟩)) := refPutColumn_any _ Lkc cn ck cz wbc hRbc HCB.out.1 HCB.out.2 hM
   go_wp2_with fail
   rw [← hwbc]
   (with_reducible refine KC.mono ?_)
   rintro _ y7 ⟨vy7, rfl, hO, hb⟩
   have HAnc : Hid (AtB W0 y7 vy7 (Lkc ++ encCol ⟨cn, ck, cz⟩)) := Lib.hid (AtB.next HBbc.out hO hb)
   clear KC hO hb hM
   go_wp2_with fail
   go_roundw
   case rel => exact ⟨kc + 1, by go_num, by omega, Lib.hid (HAnc.out.cast HSc.out.symm)⟩
   case measure => simp [intOf]; omega
theorem ent_ok0 {x : REn} (h : x.ok = true) (hk : x.change.kind = 0) : x.create.ok = true := by
 unfold REn.ok at h
 rw [Bool.and_eq_true, Bool.and_eq_true, if_pos hk, Bool.and_eq_true, Bool.and_eq_true] at h
 exact h.2.2.2.1
set_option maxRecDepth 1000000 in
set_option maxHeartbeats 16000000 in
theorem refPutEntries_any (v : Value) (l : List UInt8) (A : Option Addr) (c : Nat) (xs : List REn) (w : World) (hu : RdB w (· < w.heap.size) v l) (hx : RdE 16 REn.enc w (· < w.heap.size) (.slice A xs.length c) xs) (he : ∀ x ∈ xs, x.ok = true ∧ x.create.is w (· < w.heap.size)) (hl : (l ++ (encI xs.length ++ xs.flatMap encEnt)).length ≤ 100000000000) :
  Calls Tryz.prog 114 #[v, .slice A xs.length c] w (NewB w (l ++ (encI xs.length ++ xs.flatMap encEnt))) := by
 obtain ⟨hc1, hc2⟩ := RdE.bd hx
 have HV := Lib.hid hx
 have HENT : Hid (∀ x ∈ xs, x.ok = true ∧ x.create.is w (· < w.heap.size) ∧ entW w w.heap.size x) := Lib.hid (fun x hx => ⟨(he x hx).1, (he x hx).2, ent_W (he x hx).1 (he x hx).2⟩)
 obtain ⟨sL1, hsL1⟩ : ∃ L, L = l ++ encI xs.length := ⟨_, rfl⟩
 obtain ⟨sL2, hsL2⟩ : ∃ L, L = sL1 ++ xs.flatMap encEnt := ⟨_, rfl⟩
 have sE : sL2 = l ++ (encI xs.length ++ xs.flatMap encEnt) := by rw [hsL2, hsL1]; simp only [List.append_assoc]
 have sn2 : sL2.length ≤ 100000000000 := by rw [sE]; exact hl
 have sn1 : sL1.length ≤ 100000000000 := by have q := sn2; rw [hsL2, List.length_append] at q; omega
 have sn0 : l.length ≤ 100000000000 := by have q := sn1; rw [hsL1, List.length_append] at q; omega
 have sE := Lib.hid sE
 have sn0 := Lib.hid sn0
 have sn1 := Lib.hid sn1
 have sn2 := Lib.hid sn2
 have sK1 : ∀ v W, RdB W (· < W.heap.size) v l → Below w.heap.size w W → Calls Tryz.prog 113 #[v, .int .i64 (xs.length : Int)] W (NewB W sL1) := fun v W h hW => by
  rw [hsL1]
  exact refPutInt_any v l xs.length W (by omega) (by omega) h (by have := sn0.out; omega)
 have hsL2 := Lib.hid hsL2
 clear hsL1
 have hR0 := hu
 clear hx he hl hu
 go_enter Tryz.func114, Tryz.ntmps114
 have KC := sK1 _ _ hR0 (Below.refl _ _)
 go_wp2_with fail
 (with_reducible refine KC.mono ?_)
 rintro _ y1 ⟨vy1, rfl, hO, hb⟩
 have HA1 : Hid (AtB w y1 vy1 sL1) := Lib.hid (AtB.next (Below.refl _ _) hO hb)
 clear KC hO hb sK1
 clear hR0
 go_wp2_with fail
 go_loopw [0, 13] (fun b i wr => ∃ k : Nat, i = .int .i64 (k : Int) ∧ k ≤ xs.length ∧ Hid (AtB w wr b (sL1 ++ (xs.take k).flatMap encEnt))) (fun _ i _ => xs.length - (intOf i).toNat)
 case atStart => exact ⟨0, rfl, Nat.zero_le _, Lib.hid (HA1.out.cast (by rw [List.take_zero, List.flatMap_nil, List.append_nil]))⟩
 case round =>
  clear HA1
  obtain ⟨ki, rfl, hki, HAii⟩ := hrel
  obtain ⟨wii, rfl⟩ : ∃ wii : World, wii = wr := ⟨_, rfl⟩
  by_cases hlti : ki < xs.length
  case neg =>
   have hltZ : ¬ (ki : Int) < (xs.length : Int) := by omega
   have HFi := Lib.hid (HAii.out.cast (show sL1 ++ (xs.take ki).flatMap encEnt = sL2 by rw [List.take_of_length_le (by omega), hsL2.out]))
   clear HAii
   go_wp2_with fail
   go_ret
   exact HFi.out.done (Below.refl _ _) sE.out
  case pos =>
   have hltZ : (ki : Int) < (xs.length : Int) := by omega
   have hBi := HAii.out.bel
   obtain ⟨bi, offi, rfl, hF, hcl⟩ := RdE.at_ (K := 16) (enc := REn.enc) (fun _ => rfl) (by omega) (HV.out.keep (Keeps.below hBi)) hlti
   have hcx := hcl ki hlti
   have hmem := List.getElem_mem hlti
   have hsn := flat_snoc encEnt hlti
   have hle := flat_le encEnt hlti
   obtain ⟨xi, hx⟩ : ∃ x, x = xs[ki] := ⟨_, rfl⟩
   rw [← hx] at hcx hmem hsn hle
   obtain ⟨Lki, hLk⟩ : ∃ L, L = sL1 ++ (xs.take ki).flatMap encEnt := ⟨_, rfl⟩
   have hM : (Lki ++ encEnt xi).length ≤ 100000000000 := by
    have q := sn2.out
    rw [hsL2.out] at q
    rw [hLk]
    simp only [List.length_append] at q ⊢
    omega
   have hS : sL1 ++ (xs.take (ki + 1)).flatMap encEnt = Lki ++ encEnt xi := by rw [hsn, ← List.append_assoc, ← hLk]
   have HBii := Lib.hid hBi
   have hRi := HAii.out.rd
   rw [← hLk] at hRi
   clear hcl hx hF hsn hle hBi hLk HAii
   have HOK := Lib.hid (HENT.out _ hmem).1
   have HTI := Lib.hid (HENT.out _ hmem).2.1
   have HEW := Lib.hid (HENT.out _ hmem).2.2
   obtain ⟨tm, tb, ⟨nm, cA, cC, cols, kA, kC, key, fA, fC, fors, hA, hC, chks⟩, ⟨x1, x2, x3, x4, x5, x6, ⟨x7, x8, x9⟩⟩⟩ := xi
   have HSi : Hid (sL1 ++ (xs.take (ki + 1)).flatMap encEnt = Lki ++ encEnt ⟨tm, tb, ⟨nm, cA, cC, cols, kA, kC, key, fA, fC, fors, hA, hC, chks⟩, ⟨x1, x2, x3, x4, x5, x6, ⟨x7, x8, x9⟩⟩⟩) := Lib.hid hS
   have hM : (Lki ++ encEnt ⟨tm, tb, ⟨nm, cA, cC, cols, kA, kC, key, fA, fC, fors, hA, hC, chks⟩, ⟨x1, x2, x3, x4, x5, x6, ⟨x7, x8, x9⟩⟩⟩).length ≤ 100000000000 := hM
   have gi0 : wii.cell? ⟨bi, offi + ki * 16, none⟩ = some (.int .i64 tm) := hcx 0 _ (by decide) rfl
   have gi1 : wii.cell? ⟨bi, offi + ki * 16 + 1, none⟩ = some (.string tb) := hcx 1 _ (by decide) rfl
   have gi2 : wii.cell? ⟨bi, offi + ki * 16 + 2, none⟩ = some (.string nm) := hcx 2 _ (by decide) rfl
   have gi3 : wii.cell? ⟨bi, offi + ki * 16 + 3, none⟩ = some (.slice cA cols.length cC) := hcx 3 _ (by decide) rfl
   have gi4 : wii.cell? ⟨bi, offi + ki * 16 + 4, none⟩ = some (.slice kA key.length kC) := hcx 4 _ (by decide) rfl
   have gi5 : wii.cell? ⟨bi, offi + ki * 16 + 5, none⟩ = some (.slice fA fors.length fC) := hcx 5 _ (by decide) rfl
   have gi6 : wii.cell? ⟨bi, offi + ki * 16 + 6, none⟩ = some (.slice hA chks.length hC) := hcx 6 _ (by decide) rfl
   have gi7 : wii.cell? ⟨bi, offi + ki * 16 + 7, none⟩ = some (.int .i64 x1) := hcx 7 _ (by decide) rfl
   have gi8 : wii.cell? ⟨bi, offi + ki * 16 + 8, none⟩ = some (.string x2) := hcx 8 _ (by decide) rfl
   have gi9 : wii.cell? ⟨bi, offi + ki * 16 + 9, none⟩ = some (.string x3) := hcx 9 _ (by decide) rfl
   have gi10 : wii.cell? ⟨bi, offi + ki * 16 + 10, none⟩ = some (.string x4) := hcx 10 _ (by decide) rfl
   have gi11 : wii.cell? ⟨bi, offi + ki * 16 + 11, none⟩ = some (.int .i64 x5) := hcx 11 _ (by decide) rfl
   have gi12 : wii.cell? ⟨bi, offi + ki * 16 + 12, none⟩ = some (.bool x6) := hcx 12 _ (by decide) rfl
   have gi13 : wii.cell? ⟨bi, offi + ki * 16 + 13, none⟩ = some (.int .i64 x7) := hcx 13 _ (by decide) rfl
   have gi14 : wii.cell? ⟨bi, offi + ki * 16 + 14, none⟩ = some (.int .i64 x8) := hcx 14 _ (by decide) rfl
   have gi15 : wii.cell? ⟨bi, offi + ki * 16 + 15, none⟩ = some (.string x9) := hcx 15 _ (by decide) rfl
   clear hcx hS hmem
   obtain ⟨wbi, hwbi⟩ : ∃ W, W = wii.alloc (.cells #[.int .i64 tm, .string tb, .string nm, .slice cA cols.length cC, .slice kA key.length kC, .slice fA fors.length fC, .slice hA chks.length hC, .int .i64 x1, .string x2, .string x3, .string x4, .int .i64 x5, .bool x6, .int .i64 x7, .int .i64 x8, .string x9] 83) := ⟨_, rfl⟩
   have hbb : Below wii.heap.size wii wbi := by rw [hwbi]; exact Below.of_alloc _
   have HBbi : Hid (Below w.heap.size w wbi) := Lib.hid (HBii.out.trans (hbb.mono HBii.out.size))
   have HXLi : Hid (wii.heap.size < wbi.heap.size) := Lib.hid (by rw [hwbi]; simp)
   have HXi : Hid (wbi.heap[wii.heap.size]? = some (.cells #[.int .i64 tm, .string tb, .string nm, .slice cA cols.length cC, .slice kA key.length kC, .slice fA fors.length fC, .slice hA chks.length hC, .int .i64 x1, .string x2, .string x3, .string x4, .int .i64 x5, .bool x6, .int .i64 x7, .int .i64 x8, .string x9] 83 (0, 0))) := Lib.hid (by rw [hwbi]; exact heap_alloc_new _ _)
   have hRbi := hRi.below hbb
   clear hbb hRi
   by_cases hk : x1 = 0
   case pos =>
    have hE : encEnt ⟨tm, tb, ⟨nm, cA, cC, cols, kA, kC, key, fA, fC, fors, hA, hC, chks⟩, ⟨x1, x2, x3, x4, x5, x6, ⟨x7, x8, x9⟩⟩⟩ = encEnt0 ⟨tm, tb, ⟨nm, cA, cC, cols, kA, kC, key, fA, fC, fors, hA, hC, chks⟩, ⟨x1, x2, x3, x4, x5, x6, ⟨x7, x8, x9⟩⟩⟩ := if_pos hk
    have HTO : Hid (RTab.ok ⟨nm, cA, cC, cols, kA, kC, key, fA, fC, fors, hA, hC, chks⟩ = true) := Lib.hid (ent_ok0 HOK.out hk)
    subst hk
    clear HOK
    have hM2 : (Lki ++ encEnt0 ⟨tm, tb, ⟨nm, cA, cC, cols, kA, kC, key, fA, fC, fors, hA, hC, chks⟩, ⟨0, x2, x3, x4, x5, x6, ⟨x7, x8, x9⟩⟩⟩).length ≤ 100000000000 := by rw [← hE]; exact hM
    have HS2 : Hid (sL1 ++ (xs.take (ki + 1)).flatMap encEnt = Lki ++ encEnt0 ⟨tm, tb, ⟨nm, cA, cC, cols, kA, kC, key, fA, fC, fors, hA, hC, chks⟩, ⟨0, x2, x3, x4, x5, x6, ⟨x7, x8, x9⟩⟩⟩) := Lib.hid (by rw [← hE]; exact HSi.out)
    obtain ⟨bL1, hbL1⟩ : ∃ L, L = Lki ++ encI tm := ⟨_, rfl⟩
    obtain ⟨bL2, hbL2⟩ : ∃ L, L = bL1 ++ (encI tb.size ++ tb.data.toList) := ⟨_, rfl⟩
    obtain ⟨bL3, hbL3⟩ : ∃ L, L = bL2 ++ encI 0 := ⟨_, rfl⟩
    obtain ⟨bL4, hbL4⟩ : ∃ L, L = bL3 ++ encTab ⟨nm, cA, cC, cols, kA, kC, key, fA, fC, fors, hA, hC, chks⟩ := ⟨_, rfl⟩
    have bE : bL4 = Lki ++ encEnt0 ⟨tm, tb, ⟨nm, cA, cC, cols, kA, kC, key, fA, fC, fors, hA, hC, chks⟩, ⟨0, x2, x3, x4, x5, x6, ⟨x7, x8, x9⟩⟩⟩ := by rw [hbL4, hbL3, hbL2, hbL1]; simp only [encEnt0, List.append_assoc]
    have bn4 : bL4.length ≤ 100000000000 := by rw [bE]; exact hM2
    have bn3 : bL3.length ≤ 100000000000 := by have q := bn4; rw [hbL4, List.length_append] at q; omega
    have bn2 : bL2.length ≤ 100000000000 := by have q := bn3; rw [hbL3, List.length_append] at q; omega
    have bn1 : bL1.length ≤ 100000000000 := by have q := bn2; rw [hbL2, List.length_append] at q; omega
    have bn0 : Lki.length ≤ 100000000000 := by have q := bn1; rw [hbL1, List.length_append] at q; omega
    have bE := Lib.hid bE
    have bn0 := Lib.hid bn0
    have bn1 := Lib.hid bn1
    have bn2 := Lib.hid bn2
    have bn3 := Lib.hid bn3
    have bn4 := Lib.hid bn4
    have bK1 : ∀ v W, RdB W (· < W.heap.size) v Lki → Below w.heap.size w W → Calls Tryz.prog 113 #[v, .int .i64 tm] W (NewB W bL1) := fun v W h hW => by
     rw [hbL1]
     exact refPutInt_any v Lki tm W HEW.out.tm.1 HEW.out.tm.2 h (by have := bn0.out; omega)
    have bK2 : ∀ v W, RdB W (· < W.heap.size) v bL1 → Below w.heap.size w W → Calls Tryz.prog 116 #[v, .string tb] W (NewB W bL2) := fun v W h hW => by
     rw [hbL2]
     exact refPutText_any v bL1 tb W h (by have q1 := bn1.out; have q2 : tb.size ≤ 300 := HEW.out.tb; omega)
    have bK3 : ∀ v W, RdB W (· < W.heap.size) v bL2 → Below w.heap.size w W → Calls Tryz.prog 113 #[v, .int .i64 0] W (NewB W bL3) := fun v W h hW => by
     rw [hbL3]
     exact refPutInt_any v bL2 0 W (by omega) (by omega) h (by have := bn2.out; omega)
    have bK4 : ∀ v W, RdB W (· < W.heap.size) v bL3 → Below w.heap.size w W → Calls Tryz.prog 187 #[v, .agg #[.string nm, .slice cA cols.length cC, .slice kA key.length kC, .slice fA fors.length fC, .slice hA chks.length hC]] W (NewB W bL4) := fun v W h hW => by
     rw [hbL4]
     exact refPutTable_any v bL3 ⟨nm, cA, cC, cols, kA, kC, key, fA, fC, fors, hA, hC, chks⟩ W h (HTI.out.below hW) HTO.out (by have q := bn4.out; rw [hbL4] at q; exact q)
    clear hbL1 hbL2 hbL3 hbL4
    clear hM hM2 hE
    go_wp2_with fail
    rw [← hwbi]
    clear hwbi
    refine wp_region_noPanic ?_
    refine wp_region_held_drew (S := (fun w' => Below wbi.heap.size wbi w')) (by kernel_rfl) ?_ (fun hHeld => ?_)
    ·exact (Below.refl _ _).drew
    refine heldTake 0 (some 17) (v := ?_) rfl rfl (by kernel_rfl) (by kernel_rfl) (by kernel_rfl) (by rfl) hHeld (fun _ _ _ h => h) ?_ ?_
    rotate_left
    ·intro w' hSw; (try dsimp only at hSw); go_simp <;> with_reducible rfl
    simp only [Act.put, List.setIfInBounds_toArray, List.set_cons_zero, List.set_cons_succ]
    refine heldTake 1 (some 18) (v := ?_) rfl rfl (by kernel_rfl) (by kernel_rfl) (by kernel_rfl) (by rfl) hHeld (fun _ _ _ h => h) ?_ ?_
    rotate_left
    ·intro w' hSw; (try dsimp only at hSw); go_simp <;> with_reducible rfl
    simp only [Act.put, List.setIfInBounds_toArray, List.set_cons_zero, List.set_cons_succ]
    refine heldTake 2 (some 19) (v := ?_) rfl rfl (by kernel_rfl) (by kernel_rfl) (by kernel_rfl) (by rfl) hHeld (fun _ _ _ h => h) ?_ ?_
    rotate_left
    ·intro w' hSw; (try dsimp only at hSw); have q0 : w'.cell? ⟨wii.heap.size, 0, none⟩ = some (.int .i64 tm) := cell_of_row w' _ 0 _ _ _ ((hSw.block _ HXLi.out).trans HXi.out); go_simp <;> with_reducible rfl
    simp only [Act.put, List.setIfInBounds_toArray, List.set_cons_zero, List.set_cons_succ]
    refine heldTake 4 (some 21) (v := ?_) rfl rfl (by kernel_rfl) (by kernel_rfl) (by kernel_rfl) (by rfl) hHeld (fun _ _ _ h => h) ?_ ?_
    rotate_left
    ·intro w' hSw; (try dsimp only at hSw); go_simp <;> with_reducible rfl
    simp only [Act.put, List.setIfInBounds_toArray, List.set_cons_zero, List.set_cons_succ]
    refine heldTake 5 (some 22) (v := ?_) rfl rfl (by kernel_rfl) (by kernel_rfl) (by kernel_rfl) (by rfl) hHeld (fun _ _ _ h => h) ?_ ?_
    rotate_left
    ·intro w' hSw; (try dsimp only at hSw); have q1 : w'.cell? ⟨wii.heap.size, 1, none⟩ = some (.string tb) := cell_of_row w' _ 1 _ _ _ ((hSw.block _ HXLi.out).trans HXi.out); go_simp <;> with_reducible rfl
    simp only [Act.put, List.setIfInBounds_toArray, List.set_cons_zero, List.set_cons_succ]
    refine heldTake 7 (some 24) (v := ?_) rfl rfl (by kernel_rfl) (by kernel_rfl) (by kernel_rfl) (by rfl) hHeld (fun _ _ _ h => h) ?_ ?_
    rotate_left
    ·intro w' hSw; (try dsimp only at hSw); go_simp <;> with_reducible rfl
    simp only [Act.put, List.setIfInBounds_toArray, List.set_cons_zero, List.set_cons_succ]
    refine heldTake 8 (some 25) (v := ?_) rfl rfl (by kernel_rfl) (by kernel_rfl) (by kernel_rfl) (by rfl) hHeld (fun _ _ _ h => h) ?_ ?_
    rotate_left
    ·intro w' hSw; (try dsimp only at hSw); go_simp <;> with_reducible rfl
    simp only [Act.put, List.setIfInBounds_toArray, List.set_cons_zero, List.set_cons_succ]
    refine heldTake 9 (some 26) (v := ?_) rfl rfl (by kernel_rfl) (by kernel_rfl) (by kernel_rfl) (by rfl) hHeld (fun _ _ _ h => h) ?_ ?_
    rotate_left
    ·intro w' hSw; (try dsimp only at hSw); have q7 : w'.cell? ⟨wii.heap.size, 7, none⟩ = some (.int .i64 0) := cell_of_row w' _ 7 _ _ _ ((hSw.block _ HXLi.out).trans HXi.out); go_simp <;> with_reducible rfl
    simp only [Act.put, List.setIfInBounds_toArray, List.set_cons_zero, List.set_cons_succ]
    refine heldCall 3 (some 20) (f := ?_) (args := ?_) rfl rfl (by kernel_rfl) (by rfl) ?_ ?_
    rotate_left 2
    ·go_simp <;> first | (constructor <;> with_reducible rfl) | with_reducible rfl
    (with_reducible refine (bK1 _ _ (hRbi.below (Below.refl _ _).drew) (HBbi.out.trans ((Below.refl wbi.heap.size wbi).drew.mono HBbi.out.size))).mono ?_)
    rintro _ z1 ⟨vz1, rfl, hOz1, hbz1'⟩
    have hbz1 : Below wbi.heap.size wbi z1 := Below.undrew hbz1'
    have hRz1 := hOz1.rd
    refine ⟨_, rfl, keepAnd ?_ (fun hNew => ?_)⟩
    ·exact hbz1
    clear hHeld
    have hHeld := hNew
    clear hNew
    simp only [Act.put, List.setIfInBounds_toArray, List.set_cons_zero, List.set_cons_succ]
    refine heldCall 6 (some 23) (f := ?_) (args := ?_) rfl rfl (by kernel_rfl) (by rfl) ?_ ?_
    rotate_left 2
    ·go_simp <;> first | (constructor <;> with_reducible rfl) | with_reducible rfl
    (with_reducible refine (bK2 _ _ hRz1 (HBbi.out.trans (hbz1.mono HBbi.out.size))).mono ?_)
    rintro _ z2 ⟨vz2, rfl, hOz2, hbz2'⟩
    have hbz2 : Below wbi.heap.size wbi z2 := hbz1.trans (hbz2'.mono hbz1.size)
    have hRz2 := hOz2.rd
    refine ⟨_, rfl, keepAnd ?_ (fun hNew => ?_)⟩
    ·exact hbz2
    clear hHeld
    have hHeld := hNew
    clear hNew
    simp only [Act.put, List.setIfInBounds_toArray, List.set_cons_zero, List.set_cons_succ]
    refine heldCall 10 (some 27) (f := ?_) (args := ?_) rfl rfl (by kernel_rfl) (by rfl) ?_ ?_
    rotate_left 2
    ·go_simp <;> first | (constructor <;> with_reducible rfl) | with_reducible rfl
    (with_reducible refine (bK3 _ _ hRz2 (HBbi.out.trans (hbz2.mono HBbi.out.size))).mono ?_)
    rintro _ z3 ⟨vz3, rfl, hOz3, hbz3'⟩
    have hbz3 : Below wbi.heap.size wbi z3 := hbz2.trans (hbz3'.mono hbz2.size)
    have hRz3 := hOz3.rd
    refine ⟨_, rfl, keepAnd ?_ (fun hNew => ?_)⟩
    ·exact hbz3
    clear hHeld
    have hHeld := hNew
    clear hNew
    simp only [Act.put, List.setIfInBounds_toArray, List.set_cons_zero, List.set_cons_succ]
    refine heldTake 11 (some 0) (v := ?_) rfl rfl (by kernel_rfl) (by kernel_rfl) (by kernel_rfl) (by rfl) hHeld (fun _ _ _ h => h) ?_ ?_
    rotate_left
    ·intro w' hSw; (try dsimp only at hSw); go_simp <;> with_reducible rfl
    simp only [Act.put, List.setIfInBounds_toArray, List.set_cons_zero]
    refine wpAnyH_done (by kernel_rfl) ?_ _
    refine NoPanic.normal ?_
    clear hHeld
    have HWB := Lib.hid hbz3
    have HAz : Hid (AtB w z3 vz3 bL3) := Lib.hid (AtB.next (HBbi.out.trans (hbz2.mono HBbi.out.size)) hOz3 hbz3')
    clear hRz1 hbz1 hbz1' hOz1 hRz2 hbz2 hbz2' hOz2 hRz3 hbz3 hbz3' hOz3 bK1 bK2 bK3
    clear hRbi
    have hT3 := (HWB.out.block _ HXLi.out).trans HXi.out
    have e2 : z3.cell? ⟨wii.heap.size, 2, none⟩ = some (.string nm) := cell_of_row z3 _ 2 _ _ _ hT3
    have e3 : z3.cell? ⟨wii.heap.size, 3, none⟩ = some (.slice cA cols.length cC) := cell_of_row z3 _ 3 _ _ _ hT3
    have e4 : z3.cell? ⟨wii.heap.size, 4, none⟩ = some (.slice kA key.length kC) := cell_of_row z3 _ 4 _ _ _ hT3
    have e5 : z3.cell? ⟨wii.heap.size, 5, none⟩ = some (.slice fA fors.length fC) := cell_of_row z3 _ 5 _ _ _ hT3
    have e6 : z3.cell? ⟨wii.heap.size, 6, none⟩ = some (.slice hA chks.length hC) := cell_of_row z3 _ 6 _ _ _ hT3
    have e7 : z3.cell? ⟨wii.heap.size, 7, none⟩ = some (.int .i64 0) := cell_of_row z3 _ 7 _ _ _ hT3
    clear hT3
    have KC := bK4 _ _ HAz.out.rd HAz.out.bel
    go_wp2_with fail
    (with_reducible refine KC.mono ?_)
    rintro _ u8 ⟨vu8, rfl, hO, hb⟩
    have HA8 : Hid (AtB w u8 vu8 bL4) := Lib.hid (AtB.next HAz.out.bel hO hb)
    clear KC hO hb bK4
    clear e2 e3 e4 e5 e6 e7
    have HAni := Lib.hid (HA8.out.cast bE.out)
    go_wp2_with fail
    go_roundw
    case rel => exact ⟨ki + 1, by go_num, by omega, Lib.hid (HAni.out.cast HS2.out.symm)⟩
    case measure => simp [intOf]; omega
   case neg =>
    have hE : encEnt ⟨tm, tb, ⟨nm, cA, cC, cols, kA, kC, key, fA, fC, fors, hA, hC, chks⟩, ⟨x1, x2, x3, x4, x5, x6, ⟨x7, x8, x9⟩⟩⟩ = encEnt1 ⟨tm, tb, ⟨nm, cA, cC, cols, kA, kC, key, fA, fC, fors, hA, hC, chks⟩, ⟨x1, x2, x3, x4, x5, x6, ⟨x7, x8, x9⟩⟩⟩ := if_neg hk
    have HCH : Hid (chnW ⟨x1, x2, x3, x4, x5, x6, ⟨x7, x8, x9⟩⟩) := Lib.hid (HEW.out.ch hk)
    clear HOK HTI
    have hM2 : (Lki ++ encEnt1 ⟨tm, tb, ⟨nm, cA, cC, cols, kA, kC, key, fA, fC, fors, hA, hC, chks⟩, ⟨x1, x2, x3, x4, x5, x6, ⟨x7, x8, x9⟩⟩⟩).length ≤ 100000000000 := by rw [← hE]; exact hM
    have HS2 : Hid (sL1 ++ (xs.take (ki + 1)).flatMap encEnt = Lki ++ encEnt1 ⟨tm, tb, ⟨nm, cA, cC, cols, kA, kC, key, fA, fC, fors, hA, hC, chks⟩, ⟨x1, x2, x3, x4, x5, x6, ⟨x7, x8, x9⟩⟩⟩) := Lib.hid (by rw [← hE]; exact HSi.out)
    obtain ⟨bL1, hbL1⟩ : ∃ L, L = Lki ++ encI tm := ⟨_, rfl⟩
    obtain ⟨bL2, hbL2⟩ : ∃ L, L = bL1 ++ (encI tb.size ++ tb.data.toList) := ⟨_, rfl⟩
    obtain ⟨bL3, hbL3⟩ : ∃ L, L = bL2 ++ encI x1 := ⟨_, rfl⟩
    obtain ⟨bL4, hbL4⟩ : ∃ L, L = bL3 ++ (encI x2.size ++ x2.data.toList) := ⟨_, rfl⟩
    obtain ⟨bL5, hbL5⟩ : ∃ L, L = bL4 ++ (encI x3.size ++ x3.data.toList) := ⟨_, rfl⟩
    obtain ⟨bL6, hbL6⟩ : ∃ L, L = bL5 ++ ((encI x4.size ++ x4.data.toList) ++ (encI x5 ++ flagE x6)) := ⟨_, rfl⟩
    obtain ⟨bL7, hbL7⟩ : ∃ L, L = bL6 ++ encV ⟨x7, x8, x9⟩ := ⟨_, rfl⟩
    have bE : bL7 = Lki ++ encEnt1 ⟨tm, tb, ⟨nm, cA, cC, cols, kA, kC, key, fA, fC, fors, hA, hC, chks⟩, ⟨x1, x2, x3, x4, x5, x6, ⟨x7, x8, x9⟩⟩⟩ := by rw [hbL7, hbL6, hbL5, hbL4, hbL3, hbL2, hbL1]; simp only [encEnt1, List.append_assoc]
    have bn7 : bL7.length ≤ 100000000000 := by rw [bE]; exact hM2
    have bn6 : bL6.length ≤ 100000000000 := by have q := bn7; rw [hbL7, List.length_append] at q; omega
    have bn5 : bL5.length ≤ 100000000000 := by have q := bn6; rw [hbL6, List.length_append] at q; omega
    have bn4 : bL4.length ≤ 100000000000 := by have q := bn5; rw [hbL5, List.length_append] at q; omega
    have bn3 : bL3.length ≤ 100000000000 := by have q := bn4; rw [hbL4, List.length_append] at q; omega
    have bn2 : bL2.length ≤ 100000000000 := by have q := bn3; rw [hbL3, List.length_append] at q; omega
    have bn1 : bL1.length ≤ 100000000000 := by have q := bn2; rw [hbL2, List.length_append] at q; omega
    have bn0 : Lki.length ≤ 100000000000 := by have q := bn1; rw [hbL1, List.length_append] at q; omega
    have bE := Lib.hid bE
    have bn0 := Lib.hid bn0
    have bn1 := Lib.hid bn1
    have bn2 := Lib.hid bn2
    have bn3 := Lib.hid bn3
    have bn4 := Lib.hid bn4
    have bn5 := Lib.hid bn5
    have bn6 := Lib.hid bn6
    have bn7 := Lib.hid bn7
    have bK1 : ∀ v W, RdB W (· < W.heap.size) v Lki → Below w.heap.size w W → Calls Tryz.prog 113 #[v, .int .i64 tm] W (NewB W bL1) := fun v W h hW => by
     rw [hbL1]
     exact refPutInt_any v Lki tm W HEW.out.tm.1 HEW.out.tm.2 h (by have := bn0.out; omega)
    have bK2 : ∀ v W, RdB W (· < W.heap.size) v bL1 → Below w.heap.size w W → Calls Tryz.prog 116 #[v, .string tb] W (NewB W bL2) := fun v W h hW => by
     rw [hbL2]
     exact refPutText_any v bL1 tb W h (by have q1 := bn1.out; have q2 : tb.size ≤ 300 := HEW.out.tb; omega)
    have bK3 : ∀ v W, RdB W (· < W.heap.size) v bL2 → Below w.heap.size w W → Calls Tryz.prog 113 #[v, .int .i64 x1] W (NewB W bL3) := fun v W h hW => by
     rw [hbL3]
     exact refPutInt_any v bL2 x1 W HEW.out.kd.1 HEW.out.kd.2 h (by have := bn2.out; omega)
    have bK4 : ∀ v W, RdB W (· < W.heap.size) v bL3 → Below w.heap.size w W → Calls Tryz.prog 116 #[v, .string x2] W (NewB W bL4) := fun v W h hW => by
     rw [hbL4]
     exact refPutText_any v bL3 x2 W h (by have q1 := bn3.out; have q2 : x2.size ≤ 300 := HCH.out.name; omega)
    have bK5 : ∀ v W, RdB W (· < W.heap.size) v bL4 → Below w.heap.size w W → Calls Tryz.prog 116 #[v, .string x3] W (NewB W bL5) := fun v W h hW => by
     rw [hbL5]
     exact refPutText_any v bL4 x3 W h (by have q1 := bn4.out; have q2 : x3.size ≤ 300 := HCH.out.to; omega)
    have bK6 : ∀ v W, RdB W (· < W.heap.size) v bL5 → Below w.heap.size w W → Calls Tryz.prog 189 #[v, .agg #[.string x4, .int .i64 x5, .bool x6]] W (NewB W bL6) := fun v W h hW => by
     rw [hbL6]
     exact refPutColumn_any v bL5 x4 x5 x6 W h HCH.out.cname HCH.out.ckind (by have q := bn6.out; rw [hbL6] at q; exact q)
    have bK7 : ∀ v W, RdB W (· < W.heap.size) v bL6 → Below w.heap.size w W → Calls Tryz.prog 188 #[v, .agg #[.int .i64 x7, .int .i64 x8, .string x9]] W (NewB W bL7) := fun v W h hW => by
     rw [hbL7]
     exact refPutValue_any v bL6 ⟨x7, x8, x9⟩ W HCH.out.di.1 HCH.out.di.2 HCH.out.d3 h (by have q1 := bn6.out; have q2 : x9.size ≤ 300 := (Nat.le_trans HCH.out.dt (by omega)); show bL6.length + x9.size ≤ _; omega)
    clear hbL1 hbL2 hbL3 hbL4 hbL5 hbL6 hbL7
    clear hM hM2 hE
    go_wp2_with fail
    rw [← hwbi]
    clear hwbi
    refine wp_region_noPanic ?_
    refine wp_region_held_drew (S := (fun w' => Below wbi.heap.size wbi w')) (by kernel_rfl) ?_ (fun hHeld => ?_)
    ·exact (Below.refl _ _).drew
    refine heldTake 0 (some 17) (v := ?_) rfl rfl (by kernel_rfl) (by kernel_rfl) (by kernel_rfl) (by rfl) hHeld (fun _ _ _ h => h) ?_ ?_
    rotate_left
    ·intro w' hSw; (try dsimp only at hSw); go_simp <;> with_reducible rfl
    simp only [Act.put, List.setIfInBounds_toArray, List.set_cons_zero, List.set_cons_succ]
    refine heldTake 1 (some 18) (v := ?_) rfl rfl (by kernel_rfl) (by kernel_rfl) (by kernel_rfl) (by rfl) hHeld (fun _ _ _ h => h) ?_ ?_
    rotate_left
    ·intro w' hSw; (try dsimp only at hSw); go_simp <;> with_reducible rfl
    simp only [Act.put, List.setIfInBounds_toArray, List.set_cons_zero, List.set_cons_succ]
    refine heldTake 2 (some 19) (v := ?_) rfl rfl (by kernel_rfl) (by kernel_rfl) (by kernel_rfl) (by rfl) hHeld (fun _ _ _ h => h) ?_ ?_
    rotate_left
    ·intro w' hSw; (try dsimp only at hSw); have q0 : w'.cell? ⟨wii.heap.size, 0, none⟩ = some (.int .i64 tm) := cell_of_row w' _ 0 _ _ _ ((hSw.block _ HXLi.out).trans HXi.out); go_simp <;> with_reducible rfl
    simp only [Act.put, List.setIfInBounds_toArray, List.set_cons_zero, List.set_cons_succ]
    refine heldTake 4 (some 21) (v := ?_) rfl rfl (by kernel_rfl) (by kernel_rfl) (by kernel_rfl) (by rfl) hHeld (fun _ _ _ h => h) ?_ ?_
    rotate_left
    ·intro w' hSw; (try dsimp only at hSw); go_simp <;> with_reducible rfl
    simp only [Act.put, List.setIfInBounds_toArray, List.set_cons_zero, List.set_cons_succ]
    refine heldTake 5 (some 22) (v := ?_) rfl rfl (by kernel_rfl) (by kernel_rfl) (by kernel_rfl) (by rfl) hHeld (fun _ _ _ h => h) ?_ ?_
    rotate_left
    ·intro w' hSw; (try dsimp only at hSw); have q1 : w'.cell? ⟨wii.heap.size, 1, none⟩ = some (.string tb) := cell_of_row w' _ 1 _ _ _ ((hSw.block _ HXLi.out).trans HXi.out); go_simp <;> with_reducible rfl
    simp only [Act.put, List.setIfInBounds_toArray, List.set_cons_zero, List.set_cons_succ]
    refine heldTake 7 (some 24) (v := ?_) rfl rfl (by kernel_rfl) (by kernel_rfl) (by kernel_rfl) (by rfl) hHeld (fun _ _ _ h => h) ?_ ?_
    rotate_left
    ·intro w' hSw; (try dsimp only at hSw); go_simp <;> with_reducible rfl
    simp only [Act.put, List.setIfInBounds_toArray, List.set_cons_zero, List.set_cons_succ]
    refine heldTake 8 (some 25) (v := ?_) rfl rfl (by kernel_rfl) (by kernel_rfl) (by kernel_rfl) (by rfl) hHeld (fun _ _ _ h => h) ?_ ?_
    rotate_left
    ·intro w' hSw; (try dsimp only at hSw); go_simp <;> with_reducible rfl
    simp only [Act.put, List.setIfInBounds_toArray, List.set_cons_zero, List.set_cons_succ]
    refine heldTake 9 (some 26) (v := ?_) rfl rfl (by kernel_rfl) (by kernel_rfl) (by kernel_rfl) (by rfl) hHeld (fun _ _ _ h => h) ?_ ?_
    rotate_left
    ·intro w' hSw; (try dsimp only at hSw); have q7 : w'.cell? ⟨wii.heap.size, 7, none⟩ = some (.int .i64 x1) := cell_of_row w' _ 7 _ _ _ ((hSw.block _ HXLi.out).trans HXi.out); go_simp <;> with_reducible rfl
    simp only [Act.put, List.setIfInBounds_toArray, List.set_cons_zero, List.set_cons_succ]
    refine heldCall 3 (some 20) (f := ?_) (args := ?_) rfl rfl (by kernel_rfl) (by rfl) ?_ ?_
    rotate_left 2
    ·go_simp <;> first | (constructor <;> with_reducible rfl) | with_reducible rfl
    (with_reducible refine (bK1 _ _ (hRbi.below (Below.refl _ _).drew) (HBbi.out.trans ((Below.refl wbi.heap.size wbi).drew.mono HBbi.out.size))).mono ?_)
    rintro _ z1 ⟨vz1, rfl, hOz1, hbz1'⟩
    have hbz1 : Below wbi.heap.size wbi z1 := Below.undrew hbz1'
    have hRz1 := hOz1.rd
    refine ⟨_, rfl, keepAnd ?_ (fun hNew => ?_)⟩
    ·exact hbz1
    clear hHeld
    have hHeld := hNew
    clear hNew
    simp only [Act.put, List.setIfInBounds_toArray, List.set_cons_zero, List.set_cons_succ]
    refine heldCall 6 (some 23) (f := ?_) (args := ?_) rfl rfl (by kernel_rfl) (by rfl) ?_ ?_
    rotate_left 2
    ·go_simp <;> first | (constructor <;> with_reducible rfl) | with_reducible rfl
    (with_reducible refine (bK2 _ _ hRz1 (HBbi.out.trans (hbz1.mono HBbi.out.size))).mono ?_)
    rintro _ z2 ⟨vz2, rfl, hOz2, hbz2'⟩
    have hbz2 : Below wbi.heap.size wbi z2 := hbz1.trans (hbz2'.mono hbz1.size)
    have hRz2 := hOz2.rd
    refine ⟨_, rfl, keepAnd ?_ (fun hNew => ?_)⟩
    ·exact hbz2
    clear hHeld
    have hHeld := hNew
    clear hNew
    simp only [Act.put, List.setIfInBounds_toArray, List.set_cons_zero, List.set_cons_succ]
    refine heldCall 10 (some 27) (f := ?_) (args := ?_) rfl rfl (by kernel_rfl) (by rfl) ?_ ?_
    rotate_left 2
    ·go_simp <;> first | (constructor <;> with_reducible rfl) | with_reducible rfl
    (with_reducible refine (bK3 _ _ hRz2 (HBbi.out.trans (hbz2.mono HBbi.out.size))).mono ?_)
    rintro _ z3 ⟨vz3, rfl, hOz3, hbz3'⟩
    have hbz3 : Below wbi.heap.size wbi z3 := hbz2.trans (hbz3'.mono hbz2.size)
    have hRz3 := hOz3.rd
    refine ⟨_, rfl, keepAnd ?_ (fun hNew => ?_)⟩
    ·exact hbz3
    clear hHeld
    have hHeld := hNew
    clear hNew
    simp only [Act.put, List.setIfInBounds_toArray, List.set_cons_zero, List.set_cons_succ]
    refine heldTake 11 (some 0) (v := ?_) rfl rfl (by kernel_rfl) (by kernel_rfl) (by kernel_rfl) (by rfl) hHeld (fun _ _ _ h => h) ?_ ?_
    rotate_left
    ·intro w' hSw; (try dsimp only at hSw); go_simp <;> with_reducible rfl
    simp only [Act.put, List.setIfInBounds_toArray, List.set_cons_zero]
    refine wpAnyH_done (by kernel_rfl) ?_ _
    refine NoPanic.normal ?_
    clear hHeld
    have HWB := Lib.hid hbz3
    have HAz : Hid (AtB w z3 vz3 bL3) := Lib.hid (AtB.next (HBbi.out.trans (hbz2.mono HBbi.out.size)) hOz3 hbz3')
    clear hRz1 hbz1 hbz1' hOz1 hRz2 hbz2 hbz2' hOz2 hRz3 hbz3 hbz3' hOz3 bK1 bK2 bK3
    clear hRbi
    have hT3 := (HWB.out.block _ HXLi.out).trans HXi.out
    have e7 : z3.cell? ⟨wii.heap.size, 7, none⟩ = some (.int .i64 x1) := cell_of_row z3 _ 7 _ _ _ hT3
    clear hT3
    go_wp2_with fail
    clear e7
    have hR8 := HAz.out.rd
    have HX8 := Lib.hid ((HWB.out.block _ HXLi.out).trans HXi.out)
    have HXL8 : Hid (wii.heap.size < z3.heap.size) := Lib.hid (Nat.lt_of_lt_of_le HXLi.out HWB.out.size)
    refine wp_region_noPanic ?_
    refine wp_region_held_drew (S := (fun w' => Below z3.heap.size z3 w')) (by kernel_rfl) ?_ (fun hHeld => ?_)
    ·exact (Below.refl _ _).drew
    refine heldTake 0 (some 36) (v := ?_) rfl rfl (by kernel_rfl) (by kernel_rfl) (by kernel_rfl) (by rfl) hHeld (fun _ _ _ h => h) ?_ ?_
    rotate_left
    ·intro w' hSw; (try dsimp only at hSw); go_simp <;> with_reducible rfl
    simp only [Act.put, List.setIfInBounds_toArray, List.set_cons_zero, List.set_cons_succ]
    refine heldTake 1 (some 37) (v := ?_) rfl rfl (by kernel_rfl) (by kernel_rfl) (by kernel_rfl) (by rfl) hHeld (fun _ _ _ h => h) ?_ ?_
    rotate_left
    ·intro w' hSw; (try dsimp only at hSw); go_simp <;> with_reducible rfl
    simp only [Act.put, List.setIfInBounds_toArray, List.set_cons_zero, List.set_cons_succ]
    refine heldTake 2 (some 38) (v := ?_) rfl rfl (by kernel_rfl) (by kernel_rfl) (by kernel_rfl) (by rfl) hHeld (fun _ _ _ h => h) ?_ ?_
    rotate_left
    ·intro w' hSw; (try dsimp only at hSw); go_simp <;> with_reducible rfl
    simp only [Act.put, List.setIfInBounds_toArray, List.set_cons_zero, List.set_cons_succ]
    refine heldTake 3 (some 39) (v := ?_) rfl rfl (by kernel_rfl) (by kernel_rfl) (by kernel_rfl) (by rfl) hHeld (fun _ _ _ h => h) ?_ ?_
    rotate_left
    ·intro w' hSw; (try dsimp only at hSw); have q8 : w'.cell? ⟨wii.heap.size, 8, none⟩ = some (.string x2) := cell_of_row w' _ 8 _ _ _ ((hSw.block _ HXL8.out).trans HX8.out); go_simp <;> with_reducible rfl
    simp only [Act.put, List.setIfInBounds_toArray, List.set_cons_zero, List.set_cons_succ]
    refine heldTake 5 (some 41) (v := ?_) rfl rfl (by kernel_rfl) (by kernel_rfl) (by kernel_rfl) (by rfl) hHeld (fun _ _ _ h => h) ?_ ?_
    rotate_left
    ·intro w' hSw; (try dsimp only at hSw); go_simp <;> with_reducible rfl
    simp only [Act.put, List.setIfInBounds_toArray, List.set_cons_zero, List.set_cons_succ]
    refine heldTake 6 (some 42) (v := ?_) rfl rfl (by kernel_rfl) (by kernel_rfl) (by kernel_rfl) (by rfl) hHeld (fun _ _ _ h => h) ?_ ?_
    rotate_left
    ·intro w' hSw; (try dsimp only at hSw); go_simp <;> with_reducible rfl
    simp only [Act.put, List.setIfInBounds_toArray, List.set_cons_zero, List.set_cons_succ]
    refine heldTake 7 (some 43) (v := ?_) rfl rfl (by kernel_rfl) (by kernel_rfl) (by kernel_rfl) (by rfl) hHeld (fun _ _ _ h => h) ?_ ?_
    rotate_left
    ·intro w' hSw; (try dsimp only at hSw); have q9 : w'.cell? ⟨wii.heap.size, 9, none⟩ = some (.string x3) := cell_of_row w' _ 9 _ _ _ ((hSw.block _ HXL8.out).trans HX8.out); go_simp <;> with_reducible rfl
    simp only [Act.put, List.setIfInBounds_toArray, List.set_cons_zero, List.set_cons_succ]
    refine heldCall 4 (some 40) (f := ?_) (args := ?_) rfl rfl (by kernel_rfl) (by rfl) ?_ ?_
    rotate_left 2
    ·go_simp <;> first | (constructor <;> with_reducible rfl) | with_reducible rfl
    (with_reducible refine (bK4 _ _ (hR8.below (Below.refl _ _).drew) (HAz.out.bel.trans ((Below.refl z3.heap.size z3).drew.mono HAz.out.bel.size))).mono ?_)
    rintro _ p1 ⟨vp1, rfl, hOp1, hbp1'⟩
    have hbp1 : Below z3.heap.size z3 p1 := Below.undrew hbp1'
    have hRp1 := hOp1.rd
    refine ⟨_, rfl, keepAnd ?_ (fun hNew => ?_)⟩
    ·exact hbp1
    clear hHeld
    have hHeld := hNew
    clear hNew
    simp only [Act.put, List.setIfInBounds_toArray, List.set_cons_zero, List.set_cons_succ]
    refine heldCall 8 (some 44) (f := ?_) (args := ?_) rfl rfl (by kernel_rfl) (by rfl) ?_ ?_
    rotate_left 2
    ·go_simp <;> first | (constructor <;> with_reducible rfl) | with_reducible rfl
    (with_reducible refine (bK5 _ _ hRp1 (HAz.out.bel.trans (hbp1.mono HAz.out.bel.size))).mono ?_)
    rintro _ p2 ⟨vp2, rfl, hOp2, hbp2'⟩
    have hbp2 : Below z3.heap.size z3 p2 := hbp1.trans (hbp2'.mono hbp1.size)
    have hRp2 := hOp2.rd
    refine ⟨_, rfl, keepAnd ?_ (fun hNew => ?_)⟩
    ·exact hbp2
    clear hHeld
    have hHeld := hNew
    clear hNew
    simp only [Act.put, List.setIfInBounds_toArray, List.set_cons_zero, List.set_cons_succ]
    refine heldTake 9 (some 0) (v := ?_) rfl rfl (by kernel_rfl) (by kernel_rfl) (by kernel_rfl) (by rfl) hHeld (fun _ _ _ h => h) ?_ ?_
    rotate_left
    ·intro w' hSw; (try dsimp only at hSw); go_simp <;> with_reducible rfl
    simp only [Act.put, List.setIfInBounds_toArray, List.set_cons_zero]
    refine wpAnyH_done (by kernel_rfl) ?_ _
    refine NoPanic.normal ?_
    clear hHeld
    have HW8 := Lib.hid hbp2
    have HA8 : Hid (AtB w p2 vp2 bL5) := Lib.hid (AtB.next (HAz.out.bel.trans (hbp1.mono HAz.out.bel.size)) hOp2 hbp2')
    clear hRp1 hbp1 hbp1' hOp1 hRp2 hbp2 hbp2' hOp2 bK4 bK5
    clear hR8
    go_wp2_with fail
    have hR9 := HA8.out.rd
    have HX9 := Lib.hid ((HW8.out.block _ HXL8.out).trans HX8.out)
    have HXL9 : Hid (wii.heap.size < p2.heap.size) := Lib.hid (Nat.lt_of_lt_of_le HXL8.out HW8.out.size)
    refine wp_region_noPanic ?_
    refine wp_region_held_drew (S := (fun w' => Below p2.heap.size p2 w')) (by kernel_rfl) ?_ (fun hHeld => ?_)
    ·exact (Below.refl _ _).drew
    refine heldTake 0 (some 45) (v := ?_) rfl rfl (by kernel_rfl) (by kernel_rfl) (by kernel_rfl) (by rfl) hHeld (fun _ _ _ h => h) ?_ ?_
    rotate_left
    ·intro w' hSw; (try dsimp only at hSw); go_simp <;> with_reducible rfl
    simp only [Act.put, List.setIfInBounds_toArray, List.set_cons_zero, List.set_cons_succ]
    refine heldTake 1 (some 46) (v := ?_) rfl rfl (by kernel_rfl) (by kernel_rfl) (by kernel_rfl) (by rfl) hHeld (fun _ _ _ h => h) ?_ ?_
    rotate_left
    ·intro w' hSw; (try dsimp only at hSw); go_simp <;> with_reducible rfl
    simp only [Act.put, List.setIfInBounds_toArray, List.set_cons_zero, List.set_cons_succ]
    refine heldTake 2 (some 47) (v := ?_) rfl rfl (by kernel_rfl) (by kernel_rfl) (by kernel_rfl) (by rfl) hHeld (fun _ _ _ h => h) ?_ ?_
    rotate_left
    ·intro w' hSw; (try dsimp only at hSw); go_simp <;> with_reducible rfl
    simp only [Act.put, List.setIfInBounds_toArray, List.set_cons_zero, List.set_cons_succ]
    refine heldTake 3 (some 48) (v := ?_) rfl rfl (by kernel_rfl) (by kernel_rfl) (by kernel_rfl) (by rfl) hHeld (fun _ _ _ h => h) ?_ ?_
    rotate_left
    ·intro w' hSw; (try dsimp only at hSw); have q10 : w'.cell? ⟨wii.heap.size, 10, none⟩ = some (.string x4) := cell_of_row w' _ 10 _ _ _ ((hSw.block _ HXL9.out).trans HX9.out); have q11 : w'.cell? ⟨wii.heap.size, 11, none⟩ = some (.int .i64 x5) := cell_of_row w' _ 11 _ _ _ ((hSw.block _ HXL9.out).trans HX9.out); have q12 : w'.cell? ⟨wii.heap.size, 12, none⟩ = some (.bool x6) := cell_of_row w' _ 12 _ _ _ ((hSw.block _ HXL9.out).trans HX9.out); go_simp <;> with_reducible rfl
    simp only [Act.put, List.setIfInBounds_toArray, List.set_cons_zero, List.set_cons_succ]
    refine heldTake 5 (some 50) (v := ?_) rfl rfl (by kernel_rfl) (by kernel_rfl) (by kernel_rfl) (by rfl) hHeld (fun _ _ _ h => h) ?_ ?_
    rotate_left
    ·intro w' hSw; (try dsimp only at hSw); go_simp <;> with_reducible rfl
    simp only [Act.put, List.setIfInBounds_toArray, List.set_cons_zero, List.set_cons_succ]
    refine heldTake 6 (some 51) (v := ?_) rfl rfl (by kernel_rfl) (by kernel_rfl) (by kernel_rfl) (by rfl) hHeld (fun _ _ _ h => h) ?_ ?_
    rotate_left
    ·intro w' hSw; (try dsimp only at hSw); go_simp <;> with_reducible rfl
    simp only [Act.put, List.setIfInBounds_toArray, List.set_cons_zero, List.set_cons_succ]
    refine heldTake 7 (some 52) (v := ?_) rfl rfl (by kernel_rfl) (by kernel_rfl) (by kernel_rfl) (by rfl) hHeld (fun _ _ _ h => h) ?_ ?_
    rotate_left
    ·intro w' hSw; (try dsimp only at hSw); have q13 : w'.cell? ⟨wii.heap.size, 13, none⟩ = some (.int .i64 x7) := cell_of_row w' _ 13 _ _ _ ((hSw.block _ HXL9.out).trans HX9.out); have q14 : w'.cell? ⟨wii.heap.size, 14, none⟩ = some (.int .i64 x8) := cell_of_row w' _ 14 _ _ _ ((hSw.block _ HXL9.out).trans HX9.out); have q15 : w'.cell? ⟨wii.heap.size, 15, none⟩ = some (.string x9) := cell_of_row w' _ 15 _ _ _ ((hSw.block _ HXL9.out).trans HX9.out); go_simp <;> with_reducible rfl
    simp only [Act.put, List.setIfInBounds_toArray, List.set_cons_zero, List.set_cons_succ]
    refine heldCall 4 (some 49) (f := ?_) (args := ?_) rfl rfl (by kernel_rfl) (by rfl) ?_ ?_
    rotate_left 2
    ·go_simp <;> first | (constructor <;> with_reducible rfl) | with_reducible rfl
    (with_reducible refine (bK6 _ _ (hR9.below (Below.refl _ _).drew) (HA8.out.bel.trans ((Below.refl p2.heap.size p2).drew.mono HA8.out.bel.size))).mono ?_)
    rintro _ q1 ⟨vq1, rfl, hOq1, hbq1'⟩
    have hbq1 : Below p2.heap.size p2 q1 := Below.undrew hbq1'
    have hRq1 := hOq1.rd
    refine ⟨_, rfl, keepAnd ?_ (fun hNew => ?_)⟩
    ·exact hbq1
    clear hHeld
    have hHeld := hNew
    clear hNew
    simp only [Act.put, List.setIfInBounds_toArray, List.set_cons_zero, List.set_cons_succ]
    refine heldCall 8 (some 53) (f := ?_) (args := ?_) rfl rfl (by kernel_rfl) (by rfl) ?_ ?_
    rotate_left 2
    ·go_simp <;> first | (constructor <;> with_reducible rfl) | with_reducible rfl
    (with_reducible refine (bK7 _ _ hRq1 (HA8.out.bel.trans (hbq1.mono HA8.out.bel.size))).mono ?_)
    rintro _ q2 ⟨vq2, rfl, hOq2, hbq2'⟩
    have hbq2 : Below p2.heap.size p2 q2 := hbq1.trans (hbq2'.mono hbq1.size)
    have hRq2 := hOq2.rd
    refine ⟨_, rfl, keepAnd ?_ (fun hNew => ?_)⟩
    ·exact hbq2
    clear hHeld
    have hHeld := hNew
    clear hNew
    simp only [Act.put, List.setIfInBounds_toArray, List.set_cons_zero, List.set_cons_succ]
    refine heldTake 9 (some 0) (v := ?_) rfl rfl (by kernel_rfl) (by kernel_rfl) (by kernel_rfl) (by rfl) hHeld (fun _ _ _ h => h) ?_ ?_
    rotate_left
    ·intro w' hSw; (try dsimp only at hSw); go_simp <;> with_reducible rfl
    simp only [Act.put, List.setIfInBounds_toArray, List.set_cons_zero]
    refine wpAnyH_done (by kernel_rfl) ?_ _
    refine NoPanic.normal ?_
    clear hHeld
    have HA9 : Hid (AtB w q2 vq2 bL7) := Lib.hid (AtB.next (HA8.out.bel.trans (hbq1.mono HA8.out.bel.size)) hOq2 hbq2')
    clear hRq1 hbq1 hbq1' hOq1 hRq2 hbq2 hbq2' hOq2 bK6 bK7
    clear hR9
    have HAni := Lib.hid (HA9.out.cast bE.out)
    go_wp2_with fail
    go_roundw
    case rel => exact ⟨ki + 1, by go_num, by omega, Lib.hid (HAni.out.cast HS2.out.symm)⟩
    case measure => simp [intOf]; omega
end Go.Proofs.YtbfdegkickjbpaaGreat
