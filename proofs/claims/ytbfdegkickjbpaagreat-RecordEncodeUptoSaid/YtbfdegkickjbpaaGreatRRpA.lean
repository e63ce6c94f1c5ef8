/-
 RpA
-/
import Derived.Test.YtbfdegkickjbpaaGreatRRvA
namespace Go.Proofs.YtbfdegkickjbpaaGreat
open Go.RowKit Go.Lib Go.IntWalk Go.Sort Go.Shelf
/-- bytes of one's own, in a later world -/
structure AtB (w0 w : World) (v : Value) (L : List UInt8) : Prop where
 own : OwnB w w0.heap.size v L
 bel : Below w0.heap.size w0 w
theorem AtB.rd {w0 w : World} {v : Value} {L : List UInt8} (h : AtB w0 w v L) : RdB w (· < w.heap.size) v L := h.own.rd
theorem AtB.cast {w0 w : World} {v : Value} {L L' : List UInt8} (h : AtB w0 w v L) (e : L = L') : AtB w0 w v L' := e ▸ h
theorem AtB.next {w0 W1 W2 : World} {v : Value} {L : List UInt8} (h : Below w0.heap.size w0 W1) (hO : OwnB W2 W1.heap.size v L) (hb : Below W1.heap.size W1 W2) : AtB w0 W2 v L :=
 ⟨⟨hO.1, by
  refine hO.2.imp id ?_
  rintro ⟨g, cap, cur, e, h1, h2⟩
  exact ⟨g, cap, cur, e, Nat.le_trans h.size h1, h2⟩⟩, h.trans (hb.mono h.size)⟩
theorem AtB.done {w W0 w' : World} {v : Value} {L L' : List UInt8} (h : AtB W0 w' v L) (hb : Below w.heap.size w W0) (e : L = L') : NewB w L' (.returned v) w' := by
 subst e
 have q : AtB w w' v L := ⟨⟨h.own.1, by
  refine h.own.2.imp id ?_
  rintro ⟨g, cap, cur, e, h1, h2⟩
  exact ⟨g, cap, cur, e, Nat.le_trans hb.size h1, h2⟩⟩, hb.trans (h.bel.mono hb.size)⟩
 exact ⟨v, rfl, q.own, q.bel⟩
set_option maxRecDepth 1000000 in
set_option maxHeartbeats 16000000 in
theorem refPutInts_any (v : Value) (l : List UInt8) (A : Option Addr) (c : Nat) (xs : List Int) (w : World) (hu : RdB w (· < w.heap.size) v l) (hx : RdE 1 intE w (· < w.heap.size) (.slice A xs.length c) xs) (hb : ∀ n ∈ xs, (-9223372036854775808 ≤ n ∧ n ≤ 9223372036854775807)) (hl : (l ++ (encI xs.length ++ xs.flatMap encI)).length ≤ 100000000000) :
  Calls Tryz.prog 157 #[v, .slice A xs.length c] w (NewB w (l ++ (encI xs.length ++ xs.flatMap encI))) := by
 obtain ⟨hc1, hc2⟩ := RdE.bd hx
 have HV := Lib.hid hx
 have HBD := Lib.hid hb
 obtain ⟨sL1, hsL1⟩ : ∃ L, L = l ++ encI xs.length := ⟨_, rfl⟩
 obtain ⟨sL2, hsL2⟩ : ∃ L, L = sL1 ++ xs.flatMap encI := ⟨_, rfl⟩
 have sE : sL2 = l ++ (encI xs.length ++ xs.flatMap encI) := by rw [hsL2, hsL1]; simp only [List.append_assoc]
 have sn2 : sL2.length ≤ 100000000000 := by rw [sE]; exact hl
 have sn1 : sL1.length ≤ 100000000000 := by have q := sn2; rw [hsL2, List.length_append] at q; omega
 have sn0 : l.length ≤ 100000000000 := by have q := sn1; rw [hsL1, List.length_append] at q; omega
 have sE := Lib.hid sE
 have sn0 := Lib.hid sn0
 have sn1 := Lib.hid sn1
 have sn2 := Lib.hid sn2
 have sK1 : ∀ v W, RdB W (· < W.heap.size) v l → Below w.heap.size w W → Calls Tryz.prog 113 #[v, .int .i64 (xs.length : Int)] W (NewB W sL1) := fun v W h hW => by
  rw [hsL1]
  exact refPutInt_any v l xs.length W (by omega) (by omega) h (by have := sn0.out; omega)
 have hsL2 := Lib.hid hsL2
 clear hsL1
 have hR0 := hu
 clear hx hb hl hu
 go_enter Tryz.func157, Tryz.ntmps157
 have KC := sK1 _ _ hR0 (Below.refl _ _)
 go_wp2_with fail
 (with_reducible refine KC.mono ?_)
 rintro _ y1 ⟨vy1, rfl, hO, hb⟩
 have HA1 : Hid (AtB w y1 vy1 sL1) := Lib.hid (AtB.next (Below.refl _ _) hO hb)
 clear KC hO hb sK1
 clear hR0
 go_wp2_with fail
 go_loopw [0, 13] (fun b i wr => ∃ k : Nat, i = .int .i64 (k : Int) ∧ k ≤ xs.length ∧ Hid (AtB w wr b (sL1 ++ (xs.take k).flatMap encI))) (fun _ i _ => xs.length - (intOf i).toNat)
 case atStart => exact ⟨0, rfl, Nat.zero_le _, Lib.hid (HA1.out.cast (by rw [List.take_zero, List.flatMap_nil, List.append_nil]))⟩
 case round =>
  clear HA1
  obtain ⟨ki, rfl, hki, HAii⟩ := hrel
  obtain ⟨wii, rfl⟩ : ∃ wii : World, wii = wr := ⟨_, rfl⟩
  by_cases hlti : ki < xs.length
  case neg =>
   have hltZ : ¬ (ki : Int) < (xs.length : Int) := by omega
   have HFi := Lib.hid (HAii.out.cast (show sL1 ++ (xs.take ki).flatMap encI = sL2 by rw [List.take_of_length_le (by omega), hsL2.out]))
   clear HAii
   go_wp2_with fail
   go_ret
   exact HFi.out.done (Below.refl _ _) sE.out
  case pos =>
   have hltZ : (ki : Int) < (xs.length : Int) := by omega
   have hBi := HAii.out.bel
   obtain ⟨bi, offi, rfl, hF, hcl⟩ := RdE.at_ (K := 1) (enc := intE) (fun _ => rfl) (by omega) (HV.out.keep (Keeps.below hBi)) hlti
   have hcx := hcl ki hlti
   have hmem := List.getElem_mem hlti
   have hsn := flat_snoc encI hlti
   have hle := flat_le encI hlti
   obtain ⟨xi, hx⟩ : ∃ x, x = xs[ki] := ⟨_, rfl⟩
   rw [← hx] at hcx hmem hsn hle
   obtain ⟨Lki, hLk⟩ : ∃ L, L = sL1 ++ (xs.take ki).flatMap encI := ⟨_, rfl⟩
   have hM : (Lki ++ encI xi).length ≤ 100000000000 := by
    have q := sn2.out
    rw [hsL2.out] at q
    rw [hLk]
    simp only [List.length_append] at q ⊢
    omega
   have hS : sL1 ++ (xs.take (ki + 1)).flatMap encI = Lki ++ encI xi := by rw [hsn, ← List.append_assoc, ← hLk]
   have HBii := Lib.hid hBi
   have hRi := HAii.out.rd
   rw [← hLk] at hRi
   clear hcl hx hF hsn hle hBi hLk HAii
   have HXB := Lib.hid (HBD.out _ hmem)
   obtain ⟨xi, hxix⟩ : ∃ y, y = xi := ⟨_, rfl⟩
   subst hxix
   have HSi : Hid (sL1 ++ (xs.take (ki + 1)).flatMap encI = Lki ++ encI xi) := Lib.hid hS
   have hM : (Lki ++ encI xi).length ≤ 100000000000 := hM
   have gi0 : wii.cell? ⟨bi, offi + ki, none⟩ = some (.int .i64 xi) := by have h := hcx 0 _ (by decide) rfl; rw [Nat.mul_one] at h; exact h
   clear hcx hS hmem
   have HBbi := HBii
   have hRbi := hRi
   clear hRi
   have bK1 : ∀ v W, RdB W (· < W.heap.size) v Lki → Below w.heap.size w W → Calls Tryz.prog 113 #[v, .int .i64 xi] W (NewB W (Lki ++ encI xi)) := fun v W h _ => refPutInt_any v Lki xi W HXB.out.1 HXB.out.2 h (by rw [List.length_append] at hM; omega)
   have KC := bK1 _ _ hRbi HBbi.out
   go_wp2_with fail
   (with_reducible refine KC.mono ?_)
   rintro _ y2 ⟨vy2, rfl, hO, hb⟩
   have HAni : Hid (AtB w y2 vy2 (Lki ++ encI xi)) := Lib.hid (AtB.next HBbi.out hO hb)
   clear KC hO hb bK1 hM
   go_wp2_with fail
   go_roundw
   case rel => exact ⟨ki + 1, by go_num, by omega, Lib.hid (HAni.out.cast HSi.out.symm)⟩
   case measure => simp [intOf]; omega
theorem bool01_any (b : Bool) (w : World) : Calls Tryz.prog 237 #[.bool b] w fun e w' => e = .returned (.int .i64 (if b then 1 else 0)) ∧ Below w.heap.size w w' := by
 cases b
 ·go_enter Tryz.func237, Tryz.ntmps237
  go_wp2_with fail
  go_ret
  exact ⟨rfl, Below.refl _ _⟩
 ·go_enter Tryz.func237, Tryz.ntmps237
  go_wp2_with fail
  go_ret
  exact ⟨rfl, Below.refl _ _⟩
set_option maxRecDepth 1000000 in
set_option maxHeartbeats 16000000 in
theorem refPutColumn_any (v : Value) (l : List UInt8) (nm : ByteArray) (kd : Int) (nl : Bool) (w : World) (hu : RdB w (· < w.heap.size) v l) (hn : nm.size ≤ 300) (hk : -9223372036854775808 ≤ kd ∧ kd ≤ 9223372036854775807) (hl : (l ++ ((encI nm.size ++ nm.data.toList) ++ (encI kd ++ flagE nl))).length ≤ 100000000000) :
  Calls Tryz.prog 189 #[v, .agg #[.string nm, .int .i64 kd, .bool nl]] w (NewB w (l ++ ((encI nm.size ++ nm.data.toList) ++ (encI kd ++ flagE nl)))) := by
 obtain ⟨W0, hW0⟩ : ∃ W, W = w.alloc (.cells #[.string nm, .int .i64 kd, .bool nl] 77) := ⟨_, rfl⟩
 have hbW : Below w.heap.size w W0 := by rw [hW0]; exact Below.of_alloc _
 have HBW := Lib.hid hbW
 have HBL : Hid (w.heap.size < W0.heap.size) := Lib.hid (by rw [hW0]; simp)
 have HT : Hid (W0.heap[w.heap.size]? = some (.cells #[.string nm, .int .i64 kd, .bool nl] 77 (0, 0))) := Lib.hid (by rw [hW0]; exact heap_alloc_new _ _)
 have hR0 := hu.below hbW
 have HNM := Lib.hid hn
 have HKD := Lib.hid hk
 obtain ⟨sL1, hsL1⟩ : ∃ L, L = l ++ (encI nm.size ++ nm.data.toList) := ⟨_, rfl⟩
 obtain ⟨sL2, hsL2⟩ : ∃ L, L = sL1 ++ encI kd := ⟨_, rfl⟩
 obtain ⟨sL3, hsL3⟩ : ∃ L, L = sL2 ++ flagE nl := ⟨_, rfl⟩
 have sE : sL3 = l ++ ((encI nm.size ++ nm.data.toList) ++ (encI kd ++ flagE nl)) := by rw [hsL3, hsL2, hsL1]; simp only [List.append_assoc]
 have sn3 : sL3.length ≤ 100000000000 := by rw [sE]; exact hl
 have sn2 : sL2.length ≤ 100000000000 := by have q := sn3; rw [hsL3, List.length_append] at q; omega
 have sn1 : sL1.length ≤ 100000000000 := by have q := sn2; rw [hsL2, List.length_append] at q; omega
 have sn0 : l.length ≤ 100000000000 := by have q := sn1; rw [hsL1, List.length_append] at q; omega
 have sE := Lib.hid sE
 have sn0 := Lib.hid sn0
 have sn1 := Lib.hid sn1
 have sn2 := Lib.hid sn2
 have sn3 := Lib.hid sn3
 have sK1 : ∀ v W, RdB W (· < W.heap.size) v l → Below W0.heap.size W0 W → Calls Tryz.prog 116 #[v, .string nm] W (NewB W sL1) := fun v W h hW => by
  rw [hsL1]
  exact refPutText_any v l nm W h (by have q1 := sn0.out; have q2 : nm.size ≤ 300 := HNM.out; omega)
 have sK2 : ∀ v W, RdB W (· < W.heap.size) v sL1 → Below W0.heap.size W0 W → Calls Tryz.prog 113 #[v, .int .i64 kd] W (NewB W sL2) := fun v W h hW => by
  rw [hsL2]
  exact refPutInt_any v sL1 kd W HKD.out.1 HKD.out.2 h (by have := sn1.out; omega)
 have sK3 : ∀ v W, RdB W (· < W.heap.size) v sL2 → Below W0.heap.size W0 W → Calls Tryz.prog 113 #[v, .int .i64 (if nl then 1 else 0)] W (NewB W sL3) := fun v W h hW => by
  rw [hsL3]
  exact refPutInt_any v sL2 (if nl then 1 else 0) W (by split <;> omega) (by split <;> omega) h (by have := sn2.out; omega)
 clear hsL1 hsL2 hsL3
 clear hbW hl hu hn hk
 go_enter Tryz.func189, Tryz.ntmps189
 go_wp2_with fail
 rw [← hW0]
 clear hW0
 refine wp_region_noPanic ?_
 refine wp_region_held_drew (S := (fun w' => Below W0.heap.size W0 w')) (by kernel_rfl) ?_ (fun hHeld => ?_)
 ·exact (Below.refl _ _).drew
 refine heldTake 0 (some 5) (v := ?_) rfl rfl (by kernel_rfl) (by kernel_rfl) (by kernel_rfl) (by rfl) hHeld (fun _ _ _ h => h) ?_ ?_
 rotate_left
 ·intro w' hSw; (try dsimp only at hSw); go_simp <;> with_reducible rfl
 simp only [Act.put, List.setIfInBounds_toArray, List.set_cons_zero, List.set_cons_succ]
 refine heldTake 1 (some 6) (v := ?_) rfl rfl (by kernel_rfl) (by kernel_rfl) (by kernel_rfl) (by rfl) hHeld (fun _ _ _ h => h) ?_ ?_
 rotate_left
 ·intro w' hSw; (try dsimp only at hSw); go_simp <;> with_reducible rfl
 simp only [Act.put, List.setIfInBounds_toArray, List.set_cons_zero, List.set_cons_succ]
 refine heldTake 2 (some 7) (v := ?_) rfl rfl (by kernel_rfl) (by kernel_rfl) (by kernel_rfl) (by rfl) hHeld (fun _ _ _ h => h) ?_ ?_
 rotate_left
 ·intro w' hSw; (try dsimp only at hSw); have q0 : w'.cell? ⟨w.heap.size, 0, none⟩ = some (.string nm) := cell_of_row w' _ 0 _ _ _ ((hSw.block _ HBL.out).trans HT.out); go_simp <;> with_reducible rfl
 simp only [Act.put, List.setIfInBounds_toArray, List.set_cons_zero, List.set_cons_succ]
 refine heldTake 4 (some 9) (v := ?_) rfl rfl (by kernel_rfl) (by kernel_rfl) (by kernel_rfl) (by rfl) hHeld (fun _ _ _ h => h) ?_ ?_
 rotate_left
 ·intro w' hSw; (try dsimp only at hSw); go_simp <;> with_reducible rfl
 simp only [Act.put, List.setIfInBounds_toArray, List.set_cons_zero, List.set_cons_succ]
 refine heldTake 5 (some 10) (v := ?_) rfl rfl (by kernel_rfl) (by kernel_rfl) (by kernel_rfl) (by rfl) hHeld (fun _ _ _ h => h) ?_ ?_
 rotate_left
 ·intro w' hSw; (try dsimp only at hSw); have q1 : w'.cell? ⟨w.heap.size, 1, none⟩ = some (.int .i64 kd) := cell_of_row w' _ 1 _ _ _ ((hSw.block _ HBL.out).trans HT.out); go_simp <;> with_reducible rfl
 simp only [Act.put, List.setIfInBounds_toArray, List.set_cons_zero, List.set_cons_succ]
 refine heldTake 7 (some 12) (v := ?_) rfl rfl (by kernel_rfl) (by kernel_rfl) (by kernel_rfl) (by rfl) hHeld (fun _ _ _ h => h) ?_ ?_
 rotate_left
 ·intro w' hSw; (try dsimp only at hSw); go_simp <;> with_reducible rfl
 simp only [Act.put, List.setIfInBounds_toArray, List.set_cons_zero, List.set_cons_succ]
 refine heldTake 8 (some 13) (v := ?_) rfl rfl (by kernel_rfl) (by kernel_rfl) (by kernel_rfl) (by rfl) hHeld (fun _ _ _ h => h) ?_ ?_
 rotate_left
 ·intro w' hSw; (try dsimp only at hSw); have q2 : w'.cell? ⟨w.heap.size, 2, none⟩ = some (.bool nl) := cell_of_row w' _ 2 _ _ _ ((hSw.block _ HBL.out).trans HT.out); go_simp <;> with_reducible rfl
 simp only [Act.put, List.setIfInBounds_toArray, List.set_cons_zero, List.set_cons_succ]
 refine heldCall 3 (some 8) (f := ?_) (args := ?_) rfl rfl (by kernel_rfl) (by rfl) ?_ ?_
 rotate_left 2
 ·go_simp <;> first | (constructor <;> with_reducible rfl) | with_reducible rfl
 (with_reducible refine (sK1 _ _ (hR0.below (Below.refl _ _).drew) ((Below.refl W0.heap.size W0).trans ((Below.refl W0.heap.size W0).drew.mono (Below.refl W0.heap.size W0).size))).mono ?_)
 rintro _ y1 ⟨vy1, rfl, hOy1, hby1'⟩
 have hby1 : Below W0.heap.size W0 y1 := Below.undrew hby1'
 have hRy1 := hOy1.rd
 refine ⟨_, rfl, keepAnd ?_ (fun hNew => ?_)⟩
 ·exact hby1
 clear hHeld
 have hHeld := hNew
 clear hNew
 simp only [Act.put, List.setIfInBounds_toArray, List.set_cons_zero, List.set_cons_succ]
 refine heldCall 6 (some 11) (f := ?_) (args := ?_) rfl rfl (by kernel_rfl) (by rfl) ?_ ?_
 rotate_left 2
 ·go_simp <;> first | (constructor <;> with_reducible rfl) | with_reducible rfl
 (with_reducible refine (sK2 _ _ hRy1 ((Below.refl W0.heap.size W0).trans (hby1.mono (Below.refl W0.heap.size W0).size))).mono ?_)
 rintro _ y2 ⟨vy2, rfl, hOy2, hby2'⟩
 have hby2 : Below W0.heap.size W0 y2 := hby1.trans (hby2'.mono hby1.size)
 have hRy2 := hOy2.rd
 refine ⟨_, rfl, keepAnd ?_ (fun hNew => ?_)⟩
 ·exact hby2
 clear hHeld
 have hHeld := hNew
 clear hNew
 simp only [Act.put, List.setIfInBounds_toArray, List.set_cons_zero, List.set_cons_succ]
 refine heldCall 9 (some 14) (f := ?_) (args := ?_) rfl rfl (by kernel_rfl) (by rfl) ?_ ?_
 rotate_left 2
 ·go_simp <;> first | (constructor <;> with_reducible rfl) | with_reducible rfl
 (with_reducible refine (bool01_any _ _).mono ?_)
 rintro _ y3 ⟨rfl, hby3'⟩
 have hby3 : Below W0.heap.size W0 y3 := hby2.trans (hby3'.mono hby2.size)
 have hRy3 := hRy2.below hby3'
 refine ⟨_, rfl, keepAnd ?_ (fun hNew => ?_)⟩
 ·exact hby3
 clear hHeld
 have hHeld := hNew
 clear hNew
 simp only [Act.put, List.setIfInBounds_toArray, List.set_cons_zero, List.set_cons_succ]
 refine heldCall 10 (some 15) (f := ?_) (args := ?_) rfl rfl (by kernel_rfl) (by rfl) ?_ ?_
 rotate_left 2
 ·go_simp <;> first | (constructor <;> with_reducible rfl) | with_reducible rfl
 (with_reducible refine (sK3 _ _ hRy3 ((Below.refl W0.heap.size W0).trans (hby3.mono (Below.refl W0.heap.size W0).size))).mono ?_)
 rintro _ y4 ⟨vy4, rfl, hOy4, hby4'⟩
 have hby4 : Below W0.heap.size W0 y4 := hby3.trans (hby4'.mono hby3.size)
 have hRy4 := hOy4.rd
 refine ⟨_, rfl, keepAnd ?_ (fun hNew => ?_)⟩
 ·exact hby4
 clear hHeld
 have hHeld := hNew
 clear hNew
 simp only [Act.put, List.setIfInBounds_toArray, List.set_cons_zero, List.set_cons_succ]
 refine heldTake 11 (some 4) (v := ?_) rfl rfl (by kernel_rfl) (by kernel_rfl) (by kernel_rfl) (by rfl) hHeld (fun _ _ _ h => h) ?_ ?_
 rotate_left
 ·intro w' hSw; (try dsimp only at hSw); go_simp <;> with_reducible rfl
 simp only [Act.put, List.setIfInBounds_toArray, List.set_cons_zero, List.set_cons_succ]
 refine wpAnyH_done (by kernel_rfl) ?_ _
 refine NoPanic.normal ?_
 clear hHeld
 have HA1 : Hid (AtB W0 y4 vy4 sL3) := Lib.hid (AtB.next ((Below.refl W0.heap.size W0).trans (hby3.mono (Below.refl W0.heap.size W0).size)) hOy4 hby4')
 clear hRy1 hby1 hby1' hOy1 hRy2 hby2 hby2' hOy2 hRy3 hby3 hby3' hRy4 hby4 hby4' hOy4 sK1 sK2 sK3
 clear hR0
 go_wp2_with fail
 all_goals go_ret
 all_goals exact HA1.out.done HBW.out (by rw [sE.out] <;> first | rfl | (simp only [List.append_assoc]; done) | (simp [*, List.append_assoc]; done))
set_option maxRecDepth 1000000 in
set_option maxHeartbeats 16000000 in
theorem refPutExpr0 (v : Value) (l : List UInt8) (op it vk vi : Int) (vs nm : ByteArray) (aA : Option Addr) (ac : Nat) (args : List RE) (w : World) (hu : RdB w (· < w.heap.size) v l) (b1 : -9223372036854775808 ≤ op ∧ op ≤ 9223372036854775807) (b2 : -9223372036854775808 ≤ it ∧ it ≤ 9223372036854775807) (b3 : -9223372036854775808 ≤ vi ∧ vi ≤ 9223372036854775807) (b4 : vk = 3 → vi = 0 ∨ vi = 1) (b5 : vs.size ≤ 300) (b6 : nm.size ≤ 300) (hx : RdE 7 RE.enc w (· < w.heap.size) (.slice aA args.length ac) args)
  (hone : ∀ x ∈ args, ∀ (v : Value) (m : List UInt8) (V : World), RdB V (· < V.heap.size) v m → Below w.heap.size w V → (m ++ encX x).length ≤ 100000000000 → Calls Tryz.prog 236 #[v, .agg x.enc.toArray] V (NewB V (m ++ encX x)))
  (hl : (l ++ (encI op ++ (encI it ++ (encV ⟨vk, vi, vs⟩ ++ ((encI nm.size ++ nm.data.toList) ++ (encI args.length ++ args.flatMap encX)))))).length ≤ 100000000000) :
  Calls Tryz.prog 236 #[v, .agg #[.int .i64 op, .int .i64 it, .int .i64 vk, .int .i64 vi, .string vs, .string nm, .slice aA args.length ac]] w (NewB w (l ++ (encI op ++ (encI it ++ (encV ⟨vk, vi, vs⟩ ++ ((encI nm.size ++ nm.data.toList) ++ (encI args.length ++ args.flatMap encX))))))) := by
 obtain ⟨hc1, hc2⟩ := RdE.bd hx
 obtain ⟨W0, hW0⟩ : ∃ W, W = w.alloc (.cells #[.int .i64 op, .int .i64 it, .int .i64 vk, .int .i64 vi, .string vs, .string nm, .slice aA args.length ac] 212) := ⟨_, rfl⟩
 have hbW : Below w.heap.size w W0 := by rw [hW0]; exact Below.of_alloc _
 have HBW := Lib.hid hbW
 have HBL : Hid (w.heap.size < W0.heap.size) := Lib.hid (by rw [hW0]; simp)
 have HT : Hid (W0.heap[w.heap.size]? = some (.cells #[.int .i64 op, .int .i64 it, .int .i64 vk, .int .i64 vi, .string vs, .string nm, .slice aA args.length ac] 212 (0, 0))) := Lib.hid (by rw [hW0]; exact heap_alloc_new _ _)
 have hR0 := hu.below hbW
 have HB1 := Lib.hid b1
 have HB2 := Lib.hid b2
 have HB3 := Lib.hid b3
 have HB4 := Lib.hid b4
 have HB5 := Lib.hid b5
 have HB6 := Lib.hid b6
 have HV := Lib.hid (hx.below hbW)
 have HONE : Hid (∀ x ∈ args, ∀ (v : Value) (m : List UInt8) (V : World), RdB V (· < V.heap.size) v m → Below W0.heap.size W0 V → (m ++ encX x).length ≤ 100000000000 → Calls Tryz.prog 236 #[v, .agg x.enc.toArray] V (NewB V (m ++ encX x))) := Lib.hid (fun x hx v m V h1 h2 h3 => hone x hx v m V h1 (HBW.out.trans (h2.mono HBW.out.size)) h3)
 obtain ⟨sL1, hsL1⟩ : ∃ L, L = l ++ encI op := ⟨_, rfl⟩
 obtain ⟨sL2, hsL2⟩ : ∃ L, L = sL1 ++ encI it := ⟨_, rfl⟩
 obtain ⟨sL3, hsL3⟩ : ∃ L, L = sL2 ++ encV ⟨vk, vi, vs⟩ := ⟨_, rfl⟩
 obtain ⟨sL4, hsL4⟩ : ∃ L, L = sL3 ++ (encI nm.size ++ nm.data.toList) := ⟨_, rfl⟩
 obtain ⟨sL5, hsL5⟩ : ∃ L, L = sL4 ++ encI args.length := ⟨_, rfl⟩
 obtain ⟨sL6, hsL6⟩ : ∃ L, L = sL5 ++ args.flatMap encX := ⟨_, rfl⟩
 have sE : sL6 = l ++ (encI op ++ (encI it ++ (encV ⟨vk, vi, vs⟩ ++ ((encI nm.size ++ nm.data.toList) ++ (encI args.length ++ args.flatMap encX))))) := by rw [hsL6, hsL5, hsL4, hsL3, hsL2, hsL1]; simp only [List.append_assoc]
 have sn6 : sL6.length ≤ 100000000000 := by rw [sE]; exact hl
 have sn5 : sL5.length ≤ 100000000000 := by have q := sn6; rw [hsL6, List.length_append] at q; omega
 have sn4 : sL4.length ≤ 100000000000 := by have q := sn5; rw [hsL5, List.length_append] at q; omega
 have sn3 : sL3.length ≤ 100000000000 := by have q := sn4; rw [hsL4, List.length_append] at q; omega
 have sn2 : sL2.length ≤ 100000000000 := by have q := sn3; rw [hsL3, List.length_append] at q; omega
 have sn1 : sL1.length ≤ 100000000000 := by have q := sn2; rw [hsL2, List.length_append] at q; omega
 have sn0 : l.length ≤ 100000000000 := by have q := sn1; rw [hsL1, List.length_append] at q; omega
 have sE := Lib.hid sE
 have sn0 := Lib.hid sn0
 have sn1 := Lib.hid sn1
 have sn2 := Lib.hid sn2
 have sn3 := Lib.hid sn3
 have sn4 := Lib.hid sn4
 have sn5 := Lib.hid sn5
 have sn6 := Lib.hid sn6
 have sK1 : ∀ v W, RdB W (· < W.heap.size) v l → Below W0.heap.size W0 W → Calls Tryz.prog 113 #[v, .int .i64 op] W (NewB W sL1) := fun v W h hW => by
  rw [hsL1]
  exact refPutInt_any v l op W HB1.out.1 HB1.out.2 h (by have := sn0.out; omega)
 have sK2 : ∀ v W, RdB W (· < W.heap.size) v sL1 → Below W0.heap.size W0 W → Calls Tryz.prog 113 #[v, .int .i64 it] W (NewB W sL2) := fun v W h hW => by
  rw [hsL2]
  exact refPutInt_any v sL1 it W HB2.out.1 HB2.out.2 h (by have := sn1.out; omega)
 have sK3 : ∀ v W, RdB W (· < W.heap.size) v sL2 → Below W0.heap.size W0 W → Calls Tryz.prog 188 #[v, .agg #[.int .i64 vk, .int .i64 vi, .string vs]] W (NewB W sL3) := fun v W h hW => by
  rw [hsL3]
  exact refPutValue_any v sL2 ⟨vk, vi, vs⟩ W HB3.out.1 HB3.out.2 HB4.out h (by have q1 := sn2.out; have q2 : vs.size ≤ 300 := HB5.out; show sL2.length + vs.size ≤ _; omega)
 have sK4 : ∀ v W, RdB W (· < W.heap.size) v sL3 → Below W0.heap.size W0 W → Calls Tryz.prog 116 #[v, .string nm] W (NewB W sL4) := fun v W h hW => by
  rw [hsL4]
  exact refPutText_any v sL3 nm W h (by have q1 := sn3.out; have q2 : nm.size ≤ 300 := HB6.out; omega)
 have sK5 : ∀ v W, RdB W (· < W.heap.size) v sL4 → Below W0.heap.size W0 W → Calls Tryz.prog 113 #[v, .int .i64 (args.length : Int)] W (NewB W sL5) := fun v W h hW => by
  rw [hsL5]
  exact refPutInt_any v sL4 args.length W (by omega) (by omega) h (by have := sn4.out; omega)
 have hsL6 := Lib.hid hsL6
 clear hsL1 hsL2 hsL3 hsL4 hsL5
 clear hbW hl hu b1 b2 b3 b4 b5 b6 hx hone
 go_enter Tryz.func236, Tryz.ntmps236
 go_wp2_with fail
 rw [← hW0]
 clear hW0
 refine wp_region_noPanic ?_
 refine wp_region_held_drew (S := (fun w' => Below W0.heap.size W0 w')) (by kernel_rfl) ?_ (fun hHeld => ?_)
 ·exact (Below.refl _ _).drew
 refine heldTake 0 (some 7) (v := ?_) rfl rfl (by kernel_rfl) (by kernel_rfl) (by kernel_rfl) (by rfl) hHeld (fun _ _ _ h => h) ?_ ?_
 rotate_left
 ·intro w' hSw; (try dsimp only at hSw); go_simp <;> with_reducible rfl
 simp only [Act.put, List.setIfInBounds_toArray, List.set_cons_zero, List.set_cons_succ]
 refine heldTake 1 (some 8) (v := ?_) rfl rfl (by kernel_rfl) (by kernel_rfl) (by kernel_rfl) (by rfl) hHeld (fun _ _ _ h => h) ?_ ?_
 rotate_left
 ·intro w' hSw; (try dsimp only at hSw); go_simp <;> with_reducible rfl
 simp only [Act.put, List.setIfInBounds_toArray, List.set_cons_zero, List.set_cons_succ]
 refine heldTake 2 (some 9) (v := ?_) rfl rfl (by kernel_rfl) (by kernel_rfl) (by kernel_rfl) (by rfl) hHeld (fun _ _ _ h => h) ?_ ?_
 rotate_left
 ·intro w' hSw; (try dsimp only at hSw); have q0 : w'.cell? ⟨w.heap.size, 0, none⟩ = some (.int .i64 op) := cell_of_row w' _ 0 _ _ _ ((hSw.block _ HBL.out).trans HT.out); go_simp <;> with_reducible rfl
 simp only [Act.put, List.setIfInBounds_toArray, List.set_cons_zero, List.set_cons_succ]
 refine heldTake 4 (some 11) (v := ?_) rfl rfl (by kernel_rfl) (by kernel_rfl) (by kernel_rfl) (by rfl) hHeld (fun _ _ _ h => h) ?_ ?_
 rotate_left
 ·intro w' hSw; (try dsimp only at hSw); go_simp <;> with_reducible rfl
 simp only [Act.put, List.setIfInBounds_toArray, List.set_cons_zero, List.set_cons_succ]
 refine heldTake 5 (some 12) (v := ?_) rfl rfl (by kernel_rfl) (by kernel_rfl) (by kernel_rfl) (by rfl) hHeld (fun _ _ _ h => h) ?_ ?_
 rotate_left
 ·intro w' hSw; (try dsimp only at hSw); have q1 : w'.cell? ⟨w.heap.size, 1, none⟩ = some (.int .i64 it) := cell_of_row w' _ 1 _ _ _ ((hSw.block _ HBL.out).trans HT.out); go_simp <;> with_reducible rfl
 simp only [Act.put, List.setIfInBounds_toArray, List.set_cons_zero, List.set_cons_succ]
 refine heldCall 3 (some 10) (f := ?_) (args := ?_) rfl rfl (by kernel_rfl) (by rfl) ?_ ?_
 rotate_left 2
 ·go_simp <;> first | (constructor <;> with_reducible rfl) | with_reducible rfl
 (with_reducible refine (sK1 _ _ (hR0.below (Below.refl _ _).drew) ((Below.refl W0.heap.size W0).trans ((Below.refl W0.heap.size W0).drew.mono (Below.refl W0.heap.size W0).size))).mono ?_)
 rintro _ y1 ⟨vy1, rfl, hOy1, hby1'⟩
 have hby1 : Below W0.heap.size W0 y1 := Below.undrew hby1'
 have hRy1 := hOy1.rd
 refine ⟨_, rfl, keepAnd ?_ (fun hNew => ?_)⟩
 ·exact hby1
 clear hHeld
 have hHeld := hNew
 clear hNew
 simp only [Act.put, List.setIfInBounds_toArray, List.set_cons_zero, List.set_cons_succ]
 refine heldCall 6 (some 13) (f := ?_) (args := ?_) rfl rfl (by kernel_rfl) (by rfl) ?_ ?_
 rotate_left 2
 ·go_simp <;> first | (constructor <;> with_reducible rfl) | with_reducible rfl
 (with_reducible refine (sK2 _ _ hRy1 ((Below.refl W0.heap.size W0).trans (hby1.mono (Below.refl W0.heap.size W0).size))).mono ?_)
 rintro _ y2 ⟨vy2, rfl, hOy2, hby2'⟩
 have hby2 : Below W0.heap.size W0 y2 := hby1.trans (hby2'.mono hby1.size)
 have hRy2 := hOy2.rd
 refine ⟨_, rfl, keepAnd ?_ (fun hNew => ?_)⟩
 ·exact hby2
 clear hHeld
 have hHeld := hNew
 clear hNew
 simp only [Act.put, List.setIfInBounds_toArray, List.set_cons_zero, List.set_cons_succ]
 refine heldTake 7 (some 0) (v := ?_) rfl rfl (by kernel_rfl) (by kernel_rfl) (by kernel_rfl) (by rfl) hHeld (fun _ _ _ h => h) ?_ ?_
 rotate_left
 ·intro w' hSw; (try dsimp only at hSw); go_simp <;> with_reducible rfl
 simp only [Act.put, List.setIfInBounds_toArray, List.set_cons_zero]
 refine wpAnyH_done (by kernel_rfl) ?_ _
 refine NoPanic.normal ?_
 clear hHeld
 have HA1 : Hid (AtB W0 y2 vy2 sL2) := Lib.hid (AtB.next ((Below.refl W0.heap.size W0).trans (hby1.mono (Below.refl W0.heap.size W0).size)) hOy2 hby2')
 clear hRy1 hby1 hby1' hOy1 hRy2 hby2 hby2' hOy2 sK1 sK2
 clear hR0
 go_wp2_with fail
 have hR1 := HA1.out.rd
 have HT2 := Lib.hid ((HA1.out.bel.block _ HBL.out).trans HT.out)
 have HBL2 : Hid (w.heap.size < y2.heap.size) := Lib.hid (Nat.lt_of_lt_of_le HBL.out HA1.out.bel.size)
 refine wp_region_noPanic ?_
 refine wp_region_held_drew (S := (fun w' => Below y2.heap.size y2 w')) (by kernel_rfl) ?_ (fun hHeld => ?_)
 ·exact (Below.refl _ _).drew
 refine heldTake 0 (some 14) (v := ?_) rfl rfl (by kernel_rfl) (by kernel_rfl) (by kernel_rfl) (by rfl) hHeld (fun _ _ _ h => h) ?_ ?_
 rotate_left
 ·intro w' hSw; (try dsimp only at hSw); go_simp <;> with_reducible rfl
 simp only [Act.put, List.setIfInBounds_toArray, List.set_cons_zero, List.set_cons_succ]
 refine heldTake 1 (some 15) (v := ?_) rfl rfl (by kernel_rfl) (by kernel_rfl) (by kernel_rfl) (by rfl) hHeld (fun _ _ _ h => h) ?_ ?_
 rotate_left
 ·intro w' hSw; (try dsimp only at hSw); go_simp <;> with_reducible rfl
 simp only [Act.put, List.setIfInBounds_toArray, List.set_cons_zero, List.set_cons_succ]
 refine heldTake 2 (some 16) (v := ?_) rfl rfl (by kernel_rfl) (by kernel_rfl) (by kernel_rfl) (by rfl) hHeld (fun _ _ _ h => h) ?_ ?_
 rotate_left
 ·intro w' hSw; (try dsimp only at hSw); have q2 : w'.cell? ⟨w.heap.size, 2, none⟩ = some (.int .i64 vk) := cell_of_row w' _ 2 _ _ _ ((hSw.block _ HBL2.out).trans HT2.out); have q3 : w'.cell? ⟨w.heap.size, 3, none⟩ = some (.int .i64 vi) := cell_of_row w' _ 3 _ _ _ ((hSw.block _ HBL2.out).trans HT2.out); have q4 : w'.cell? ⟨w.heap.size, 4, none⟩ = some (.string vs) := cell_of_row w' _ 4 _ _ _ ((hSw.block _ HBL2.out).trans HT2.out); go_simp <;> with_reducible rfl
 simp only [Act.put, List.setIfInBounds_toArray, List.set_cons_zero, List.set_cons_succ]
 refine heldTake 4 (some 18) (v := ?_) rfl rfl (by kernel_rfl) (by kernel_rfl) (by kernel_rfl) (by rfl) hHeld (fun _ _ _ h => h) ?_ ?_
 rotate_left
 ·intro w' hSw; (try dsimp only at hSw); go_simp <;> with_reducible rfl
 simp only [Act.put, List.setIfInBounds_toArray, List.set_cons_zero, List.set_cons_succ]
 refine heldTake 5 (some 19) (v := ?_) rfl rfl (by kernel_rfl) (by kernel_rfl) (by kernel_rfl) (by rfl) hHeld (fun _ _ _ h => h) ?_ ?_
 rotate_left
 ·intro w' hSw; (try dsimp only at hSw); have q5 : w'.cell? ⟨w.heap.size, 5, none⟩ = some (.string nm) := cell_of_row w' _ 5 _ _ _ ((hSw.block _ HBL2.out).trans HT2.out); go_simp <;> with_reducible rfl
 simp only [Act.put, List.setIfInBounds_toArray, List.set_cons_zero, List.set_cons_succ]
 refine heldCall 3 (some 17) (f := ?_) (args := ?_) rfl rfl (by kernel_rfl) (by rfl) ?_ ?_
 rotate_left 2
 ·go_simp <;> first | (constructor <;> with_reducible rfl) | with_reducible rfl
 (with_reducible refine (sK3 _ _ (hR1.below (Below.refl _ _).drew) (HA1.out.bel.trans ((Below.refl y2.heap.size y2).drew.mono HA1.out.bel.size))).mono ?_)
 rintro _ z1 ⟨vz1, rfl, hOz1, hbz1'⟩
 have hbz1 : Below y2.heap.size y2 z1 := Below.undrew hbz1'
 have hRz1 := hOz1.rd
 refine ⟨_, rfl, keepAnd ?_ (fun hNew => ?_)⟩
 ·exact hbz1
 clear hHeld
 have hHeld := hNew
 clear hNew
 simp only [Act.put, List.setIfInBounds_toArray, List.set_cons_zero, List.set_cons_succ]
 refine heldCall 6 (some 20) (f := ?_) (args := ?_) rfl rfl (by kernel_rfl) (by rfl) ?_ ?_
 rotate_left 2
 ·go_simp <;> first | (constructor <;> with_reducible rfl) | with_reducible rfl
 (with_reducible refine (sK4 _ _ hRz1 (HA1.out.bel.trans (hbz1.mono HA1.out.bel.size))).mono ?_)
 rintro _ z2 ⟨vz2, rfl, hOz2, hbz2'⟩
 have hbz2 : Below y2.heap.size y2 z2 := hbz1.trans (hbz2'.mono hbz1.size)
 have hRz2 := hOz2.rd
 refine ⟨_, rfl, keepAnd ?_ (fun hNew => ?_)⟩
 ·exact hbz2
 clear hHeld
 have hHeld := hNew
 clear hNew
 simp only [Act.put, List.setIfInBounds_toArray, List.set_cons_zero, List.set_cons_succ]
 refine heldTake 7 (some 0) (v := ?_) rfl rfl (by kernel_rfl) (by kernel_rfl) (by kernel_rfl) (by rfl) hHeld (fun _ _ _ h => h) ?_ ?_
 rotate_left
 ·intro w' hSw; (try dsimp only at hSw); go_simp <;> with_reducible rfl
 simp only [Act.put, List.setIfInBounds_toArray, List.set_cons_zero]
 refine wpAnyH_done (by kernel_rfl) ?_ _
 refine NoPanic.normal ?_
 clear hHeld
 have HA2 : Hid (AtB W0 z2 vz2 sL4) := Lib.hid (AtB.next (HA1.out.bel.trans (hbz1.mono HA1.out.bel.size)) hOz2 hbz2')
 clear hRz1 hbz1 hbz1' hOz1 hRz2 hbz2 hbz2' hOz2 sK3 sK4
 clear hR1 HT2 HBL2
 have hT3 := (HA2.out.bel.block _ HBL.out).trans HT.out
 have c6 : z2.cell? ⟨w.heap.size, 6, none⟩ = some (.slice aA args.length ac) := cell_of_row z2 _ 6 _ _ _ hT3
 clear hT3
 have KC := sK5 _ _ HA2.out.rd HA2.out.bel
 go_wp2_with fail
 (with_reducible refine KC.mono ?_)
 rintro _ y8 ⟨vy8, rfl, hO, hb⟩
 have HA3 : Hid (AtB W0 y8 vy8 sL5) := Lib.hid (AtB.next HA2.out.bel hO hb)
 clear KC hO hb sK5
 clear c6
 have hT3 := (HA3.out.bel.block _ HBL.out).trans HT.out
 have c6 : y8.cell? ⟨w.heap.size, 6, none⟩ = some (.slice aA args.length ac) := cell_of_row y8 _ 6 _ _ _ hT3
 clear hT3
 go_wp2_with fail
 clear c6
 go_loopw [0, 29] (fun b i wr => ∃ k : Nat, i = .int .i64 (k : Int) ∧ k ≤ args.length ∧ Hid (AtB W0 wr b (sL5 ++ (args.take k).flatMap encX))) (fun _ i _ => args.length - (intOf i).toNat)
 case atStart => exact ⟨0, rfl, Nat.zero_le _, Lib.hid (HA3.out.cast (by rw [List.take_zero, List.flatMap_nil, List.append_nil]))⟩
 case round =>
  clear HA3
  obtain ⟨ki, rfl, hki, HAii⟩ := hrel
  obtain ⟨wii, rfl⟩ : ∃ wii : World, wii = wr := ⟨_, rfl⟩
  by_cases hlti : ki < args.length
  case neg =>
   have hltZ : ¬ (ki : Int) < (args.length : Int) := by omega
   have HFi := Lib.hid (HAii.out.cast (show sL5 ++ (args.take ki).flatMap encX = sL6 by rw [List.take_of_length_le (by omega), hsL6.out]))
   clear HAii
   go_wp2_with fail
   go_ret
   exact HFi.out.done HBW.out (by rw [sE.out] <;> first | rfl | (simp only [List.append_assoc]; done) | (simp [*, List.append_assoc]; done))
  case pos =>
   have hltZ : (ki : Int) < (args.length : Int) := by omega
   have hBi := HAii.out.bel
   obtain ⟨bi, offi, rfl, hF, hcl⟩ := RdE.at_ (K := 7) (enc := RE.enc) RE.enc_length (by omega) (HV.out.keep (Keeps.below hBi)) hlti
   have hcx := hcl ki hlti
   have hmem := List.getElem_mem hlti
   have hsn := flat_snoc encX hlti
   have hle := flat_le encX hlti
   obtain ⟨xi, hx⟩ : ∃ x, x = args[ki] := ⟨_, rfl⟩
   rw [← hx] at hcx hmem hsn hle
   obtain ⟨Lki, hLk⟩ : ∃ L, L = sL5 ++ (args.take ki).flatMap encX := ⟨_, rfl⟩
   have hM : (Lki ++ encX xi).length ≤ 100000000000 := by
    have q := sn6.out
    rw [hsL6.out] at q
    rw [hLk]
    simp only [List.length_append] at q ⊢
    omega
   have hS : sL5 ++ (args.take (ki + 1)).flatMap encX = Lki ++ encX xi := by rw [hsn, ← List.append_assoc, ← hLk]
   have HBii := Lib.hid hBi
   have hRi := HAii.out.rd
   rw [← hLk] at hRi
   clear hcl hx hF hsn hle hBi hLk HAii
   have hmx := Lib.hid hmem
   obtain ⟨op2, it2, ⟨vk2, vi2, vs2⟩, nm2, aA2, ac2, args2⟩ := xi
   have HSi : Hid (sL5 ++ (args.take (ki + 1)).flatMap encX = Lki ++ encX (RE.mk op2 it2 ⟨vk2, vi2, vs2⟩ nm2 aA2 ac2 args2)) := Lib.hid hS
   have hM : (Lki ++ encX (RE.mk op2 it2 ⟨vk2, vi2, vs2⟩ nm2 aA2 ac2 args2)).length ≤ 100000000000 := hM
   have gi0 : wii.cell? ⟨bi, offi + ki * 7, none⟩ = some (.int .i64 op2) := hcx 0 _ (by decide) rfl
   have gi1 : wii.cell? ⟨bi, offi + ki * 7 + 1, none⟩ = some (.int .i64 it2) := hcx 1 _ (by decide) rfl
   have gi2 : wii.cell? ⟨bi, offi + ki * 7 + 2, none⟩ = some (.int .i64 vk2) := hcx 2 _ (by decide) rfl
   have gi3 : wii.cell? ⟨bi, offi + ki * 7 + 3, none⟩ = some (.int .i64 vi2) := hcx 3 _ (by decide) rfl
   have gi4 : wii.cell? ⟨bi, offi + ki * 7 + 4, none⟩ = some (.string vs2) := hcx 4 _ (by decide) rfl
   have gi5 : wii.cell? ⟨bi, offi + ki * 7 + 5, none⟩ = some (.string nm2) := hcx 5 _ (by decide) rfl
   have gi6 : wii.cell? ⟨bi, offi + ki * 7 + 6, none⟩ = some (.slice aA2 args2.length ac2) := hcx 6 _ (by decide) rfl
   clear hcx hS hmem
   obtain ⟨wbi, hwbi⟩ : ∃ W, W = wii.alloc (.cells #[.int .i64 op2, .int .i64 it2, .int .i64 vk2, .int .i64 vi2, .string vs2, .string nm2, .slice aA2 args2.length ac2] 212) := ⟨_, rfl⟩
   have hbb : Below wii.heap.size wii wbi := by rw [hwbi]; exact Below.of_alloc _
   have HBbi : Hid (Below W0.heap.size W0 wbi) := Lib.hid (HBii.out.trans (hbb.mono HBii.out.size))
   have HXLi : Hid (wii.heap.size < wbi.heap.size) := Lib.hid (by rw [hwbi]; simp)
   have HXi : Hid (wbi.heap[wii.heap.size]? = some (.cells #[.int .i64 op2, .int .i64 it2, .int .i64 vk2, .int .i64 vi2, .string vs2, .string nm2, .slice aA2 args2.length ac2] 212 (0, 0))) := Lib.hid (by rw [hwbi]; exact heap_alloc_new _ _)
   have hRbi := hRi.below hbb
   clear hbb hRi
   have KC : Calls Tryz.prog 236 #[_, .agg #[.int .i64 op2, .int .i64 it2, .int .i64 vk2, .int .i64 vi2, .string vs2, .string nm2, .slice aA2 args2.length ac2]] wbi (NewB wbi (Lki ++ encX (RE.mk op2 it2 ⟨vk2, vi2, vs2⟩ nm2 aA2 ac2 args2))) := HONE.out _ hmx.out _ _ _ hRbi HBbi.out hM
   go_wp2_with fail
   rw [← hwbi]
   (with_reducible refine KC.mono ?_)
   rintro _ y9 ⟨vy9, rfl, hO, hb⟩
   have HAni : Hid (AtB W0 y9 vy9 (Lki ++ encX (RE.mk op2 it2 ⟨vk2, vi2, vs2⟩ nm2 aA2 ac2 args2))) := Lib.hid (AtB.next HBbi.out hO hb)
   clear KC hO hb hM
   go_wp2_with fail
   go_roundw
   case rel => exact ⟨ki + 1, by go_num, by omega, Lib.hid (HAni.out.cast HSi.out.symm)⟩
   case measure => simp [intOf]; omega
theorem refPutExpr_any : ∀ (d : Nat) (e : RE) (v : Value) (l : List UInt8) (w : World), okX d e = true → exIs d w (· < w.heap.size) e → RdB w (· < w.heap.size) v l → (l ++ encX e).length ≤ 100000000000 → Calls Tryz.prog 236 #[v, .agg e.enc.toArray] w (NewB w (l ++ encX e)) := by
 intro d
 induction d with
 | zero => intro e v l w h; exact absurd h (by simp [okX])
 | succ d ih =>
  intro e v l w hok he hu hl
  obtain ⟨op, it, ⟨vk, vi, vs⟩, nm, aA, ac, args⟩ := e
  obtain ⟨h1, h2, h3, h4⟩ := he
  simp only [okX, Bool.and_eq_true, decide_eq_true_eq, List.all_eq_true] at hok
  obtain ⟨k1, k2, k3, k4, k5, k6⟩ := hok
  obtain ⟨v1, v2, v3⟩ := valid_parts k3
  simp only [encX, encXs_flat] at hl ⊢
  exact refPutExpr0 v l op it vk vi vs nm aA ac args w hu (by omega) (by omega) ⟨h2.1, h2.2.1⟩ v1 (by simp only at v2; omega) (by omega) h1 (fun x hx v m V h5 h6 h7 => ih x v m V (k6 x hx) (exIs_below h6 d x (h4 x hx)) h5 h7) hl
end Go.Proofs.YtbfdegkickjbpaaGreat
