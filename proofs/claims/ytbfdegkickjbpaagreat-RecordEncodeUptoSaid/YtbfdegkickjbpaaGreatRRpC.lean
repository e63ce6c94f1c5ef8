/-
 RpC
-/
import Derived.Test.YtbfdegkickjbpaaGreatRRpB
import Derived.Test.YtbfdegkickjbpaaGreatRRwE
import Derived.Test.YtbfdegkickjbpaaGreatRRlA
namespace Go.Proofs.YtbfdegkickjbpaaGreat
open Go.RowKit Go.Lib Go.IntWalk Go.Sort Go.Shelf
set_option maxRecDepth 1000000 in
set_option maxHeartbeats 16000000 in
theorem refPutRules_any (v : Value) (l : List UInt8) (pA qA hA rA : Option Addr) (pC qC hC rC : Nat) (pla : List Hld) (pol : List Pol) (hor : List Hor) (rel : List ByteArray) (w : World) (hu : RdB w (· < w.heap.size) v l)
  (x1 : RdE 6 Hld.enc w (· < w.heap.size) (.slice pA pla.length pC) pla) (x2 : RdE 2 Pol.enc w (· < w.heap.size) (.slice qA pol.length qC) pol) (x3 : RdE 2 Hor.enc w (· < w.heap.size) (.slice hA hor.length hC) hor) (x4 : RdE 1 strE w (· < w.heap.size) (.slice rA rel.length rC) rel)
  (h1 : ∀ x ∈ pla, (x.name.size ≤ 300 ∧ x.table.size ≤ 300) ∧ ((0 ≤ x.vf ∧ x.vf < x.vt ∧ x.vt ≤ 1099511627776) ∧ 0 ≤ x.sf ∧ x.sf < x.st ∧ x.st ≤ 1099511627776)) (h2 : ∀ x ∈ pol, x.table.size ≤ 300 ∧ (0 ≤ x.keep ∧ x.keep ≤ 1099511627776)) (h3 : ∀ x ∈ hor, x.table.size ≤ 300 ∧ (0 ≤ x.time ∧ x.time ≤ 1099511627775)) (h4 : ∀ x ∈ rel, x.size ≤ 300) (hl : (l ++ (encH pla ++ (encS rel ++ (encP pol ++ encZ hor)))).length ≤ 100000000000) :
  Calls Tryz.prog 117 #[v, .slice pA pla.length pC, .slice qA pol.length qC, .slice hA hor.length hC, .slice rA rel.length rC, .bool true] w (NewB w (l ++ (encH pla ++ (encS rel ++ (encP pol ++ encZ hor))))) := by
 obtain ⟨z1, z2⟩ := RdE.bd x1
 obtain ⟨z3, z4⟩ := RdE.bd x2
 obtain ⟨z5, z6⟩ := RdE.bd x3
 obtain ⟨z7, z8⟩ := RdE.bd x4
 have HVH := Lib.hid x1
 have HVP := Lib.hid x2
 have HVZ := Lib.hid x3
 have HVS := Lib.hid x4
 have HHB := Lib.hid h1
 have HPB := Lib.hid h2
 have HZB := Lib.hid h3
 have HSB := Lib.hid h4
 obtain ⟨sL1, hsL1⟩ : ∃ L, L = l ++ encI pla.length := ⟨_, rfl⟩
 obtain ⟨sL2, hsL2⟩ : ∃ L, L = sL1 ++ pla.flatMap encHld := ⟨_, rfl⟩
 obtain ⟨sL3, hsL3⟩ : ∃ L, L = sL2 ++ encI rel.length := ⟨_, rfl⟩
 obtain ⟨sL4, hsL4⟩ : ∃ L, L = sL3 ++ rel.flatMap encStr := ⟨_, rfl⟩
 obtain ⟨sL5, hsL5⟩ : ∃ L, L = sL4 ++ encI pol.length := ⟨_, rfl⟩
 obtain ⟨sL6, hsL6⟩ : ∃ L, L = sL5 ++ pol.flatMap encPol := ⟨_, rfl⟩
 obtain ⟨sL7, hsL7⟩ : ∃ L, L = sL6 ++ encI hor.length := ⟨_, rfl⟩
 obtain ⟨sL8, hsL8⟩ : ∃ L, L = sL7 ++ hor.flatMap encHor := ⟨_, rfl⟩
 have sE : sL8 = l ++ (encH pla ++ (encS rel ++ (encP pol ++ encZ hor))) := by rw [hsL8, hsL7, hsL6, hsL5, hsL4, hsL3, hsL2, hsL1]; simp only [encH, encS, encP, encZ, List.append_assoc]
 have sn8 : sL8.length ≤ 100000000000 := by rw [sE]; exact hl
 have sn7 : sL7.length ≤ 100000000000 := by have q := sn8; rw [hsL8, List.length_append] at q; omega
 have sn6 : sL6.length ≤ 100000000000 := by have q := sn7; rw [hsL7, List.length_append] at q; omega
 have sn5 : sL5.length ≤ 100000000000 := by have q := sn6; rw [hsL6, List.length_append] at q; omega
 have sn4 : sL4.length ≤ 100000000000 := by have q := sn5; rw [hsL5, List.length_append] at q; omega
 have sn3 : sL3.length ≤ 100000000000 := by have q := sn4; rw [hsL4, List.length_append] at q; omega
 have sn2 : sL2.length ≤ 100000000000 := by have q := sn3; rw [hsL3, List.length_append] at q; omega
 have sn1 : sL1.length ≤ 100000000000 := by have q := sn2; rw [hsL2, List.length_append] at q; omega
 have sn0 : l.length ≤ 100000000000 := by have q := sn1; rw [hsL1, List.length_append] at q; omega
 have sE := Lib.hid sE
 have sn0 := Lib.hid sn0
 have sn1 := Lib.hid sn1
 have sn2 := Lib.hid sn2
 have sn3 := Lib.hid sn3
 have sn4 := Lib.hid sn4
 have sn5 := Lib.hid sn5
 have sn6 := Lib.hid sn6
 have sn7 := Lib.hid sn7
 have sn8 := Lib.hid sn8
 have sK1 : ∀ v W, RdB W (· < W.heap.size) v l → Below w.heap.size w W → Calls Tryz.prog 113 #[v, .int .i64 (pla.length : Int)] W (NewB W sL1) := fun v W h hW => by
  rw [hsL1]
  exact refPutInt_any v l pla.length W (by omega) (by omega) h (by have := sn0.out; omega)
 have hsL2 := Lib.hid hsL2
 have sK3 : ∀ v W, RdB W (· < W.heap.size) v sL2 → Below w.heap.size w W → Calls Tryz.prog 113 #[v, .int .i64 (rel.length : Int)] W (NewB W sL3) := fun v W h hW => by
  rw [hsL3]
  exact refPutInt_any v sL2 rel.length W (by omega) (by omega) h (by have := sn2.out; omega)
 have hsL4 := Lib.hid hsL4
 have sK5 : ∀ v W, RdB W (· < W.heap.size) v sL4 → Below w.heap.size w W → Calls Tryz.prog 113 #[v, .int .i64 (pol.length : Int)] W (NewB W sL5) := fun v W h hW => by
  rw [hsL5]
  exact refPutInt_any v sL4 pol.length W (by omega) (by omega) h (by have := sn4.out; omega)
 have hsL6 := Lib.hid hsL6
 have sK7 : ∀ v W, RdB W (· < W.heap.size) v sL6 → Below w.heap.size w W → Calls Tryz.prog 113 #[v, .int .i64 (hor.length : Int)] W (NewB W sL7) := fun v W h hW => by
  rw [hsL7]
  exact refPutInt_any v sL6 hor.length W (by omega) (by omega) h (by have := sn6.out; omega)
 have hsL8 := Lib.hid hsL8
 clear hsL1 hsL3 hsL5 hsL7
 have hR0 := hu
 clear x1 x2 x3 x4 h1 h2 h3 h4 hl hu
 go_enter Tryz.func117, Tryz.ntmps117
 have KC := sK1 _ _ hR0 (Below.refl _ _)
 go_wp2_with fail
 (with_reducible refine KC.mono ?_)
 rintro _ y1 ⟨vy1, rfl, hO, hb⟩
 have HA1 : Hid (AtB w y1 vy1 sL1) := Lib.hid (AtB.next (Below.refl _ _) hO hb)
 clear KC hO hb sK1
 clear hR0
 go_wp2_with fail
 go_loopw [0, 27] (fun b i wr => ∃ k : Nat, i = .int .i64 (k : Int) ∧ k ≤ pla.length ∧ Hid (AtB w wr b (sL1 ++ (pla.take k).flatMap encHld))) (fun _ i _ => pla.length - (intOf i).toNat)
 case atStart => exact ⟨0, rfl, Nat.zero_le _, Lib.hid (HA1.out.cast (by rw [List.take_zero, List.flatMap_nil, List.append_nil]))⟩
 case round =>
  clear HA1
  obtain ⟨kp, rfl, hkp, HAip⟩ := hrel
  obtain ⟨wip, rfl⟩ : ∃ wip : World, wip = wr := ⟨_, rfl⟩
  by_cases hltp : kp < pla.length
  case neg =>
   have hltZ : ¬ (kp : Int) < (pla.length : Int) := by omega
   have HFp := Lib.hid (HAip.out.cast (show sL1 ++ (pla.take kp).flatMap encHld = sL2 by rw [List.take_of_length_le (by omega), hsL2.out]))
   clear HAip
   have KC := sK3 _ _ HFp.out.rd HFp.out.bel
   go_wp2_with fail
   (with_reducible refine KC.mono ?_)
   rintro _ y3 ⟨vy3, rfl, hO, hb⟩
   have HA3 : Hid (AtB w y3 vy3 sL3) := Lib.hid (AtB.next HFp.out.bel hO hb)
   clear KC hO hb sK3
   clear HFp
   go_wp2_with fail
   go_loopw [0, 55] (fun b i wr => ∃ k : Nat, i = .int .i64 (k : Int) ∧ k ≤ rel.length ∧ Hid (AtB w wr b (sL3 ++ (rel.take k).flatMap encStr))) (fun _ i _ => rel.length - (intOf i).toNat)
   case atStart => exact ⟨0, rfl, Nat.zero_le _, Lib.hid (HA3.out.cast (by rw [List.take_zero, List.flatMap_nil, List.append_nil]))⟩
   case round =>
    clear HA3
    obtain ⟨kr, rfl, hkr, HAir⟩ := hrel
    obtain ⟨wir, rfl⟩ : ∃ wir : World, wir = wr := ⟨_, rfl⟩
    by_cases hltr : kr < rel.length
    case neg =>
     have hltZ : ¬ (kr : Int) < (rel.length : Int) := by omega
     have HFr := Lib.hid (HAir.out.cast (show sL3 ++ (rel.take kr).flatMap encStr = sL4 by rw [List.take_of_length_le (by omega), hsL4.out]))
     clear HAir
     have KC := sK5 _ _ HFr.out.rd HFr.out.bel
     go_wp2_with fail
     (with_reducible refine KC.mono ?_)
     rintro _ y5 ⟨vy5, rfl, hO, hb⟩
     have HA5 : Hid (AtB w y5 vy5 sL5) := Lib.hid (AtB.next HFr.out.bel hO hb)
     clear KC hO hb sK5
     clear HFr
     go_wp2_with fail
     go_loopw [0, 69] (fun b i wr => ∃ k : Nat, i = .int .i64 (k : Int) ∧ k ≤ pol.length ∧ Hid (AtB w wr b (sL5 ++ (pol.take k).flatMap encPol))) (fun _ i _ => pol.length - (intOf i).toNat)
     case atStart => exact ⟨0, rfl, Nat.zero_le _, Lib.hid (HA5.out.cast (by rw [List.take_zero, List.flatMap_nil, List.append_nil]))⟩
     case round =>
      clear HA5
      obtain ⟨kq, rfl, hkq, HAiq⟩ := hrel
      obtain ⟨wiq, rfl⟩ : ∃ wiq : World, wiq = wr := ⟨_, rfl⟩
      by_cases hltq : kq < pol.length
      case neg =>
       have hltZ : ¬ (kq : Int) < (pol.length : Int) := by omega
       have HFq := Lib.hid (HAiq.out.cast (show sL5 ++ (pol.take kq).flatMap encPol = sL6 by rw [List.take_of_length_le (by omega), hsL6.out]))
       clear HAiq
       have KC := sK7 _ _ HFq.out.rd HFq.out.bel
       go_wp2_with fail
       (with_reducible refine KC.mono ?_)
       rintro _ y7 ⟨vy7, rfl, hO, hb⟩
       have HA7 : Hid (AtB w y7 vy7 sL7) := Lib.hid (AtB.next HFq.out.bel hO hb)
       clear KC hO hb sK7
       clear HFq
       go_wp2_with fail
       go_loopw [0, 87] (fun b i wr => ∃ k : Nat, i = .int .i64 (k : Int) ∧ k ≤ hor.length ∧ Hid (AtB w wr b (sL7 ++ (hor.take k).flatMap encHor))) (fun _ i _ => hor.length - (intOf i).toNat)
       case atStart => exact ⟨0, rfl, Nat.zero_le _, Lib.hid (HA7.out.cast (by rw [List.take_zero, List.flatMap_nil, List.append_nil]))⟩
       case round =>
        clear HA7
        obtain ⟨kh, rfl, hkh, HAih⟩ := hrel
        obtain ⟨wih, rfl⟩ : ∃ wih : World, wih = wr := ⟨_, rfl⟩
        by_cases hlth : kh < hor.length
        case neg =>
         have hltZ : ¬ (kh : Int) < (hor.length : Int) := by omega
         have HFh := Lib.hid (HAih.out.cast (show sL7 ++ (hor.take kh).flatMap encHor = sL8 by rw [List.take_of_length_le (by omega), hsL8.out]))
         clear HAih
         go_wp2_with fail
         go_ret
         exact HFh.out.done (Below.refl _ _) sE.out
        case pos =>
         have hltZ : (kh : Int) < (hor.length : Int) := by omega
         have hBi := HAih.out.bel
         obtain ⟨bh, offh, rfl, hF, hcl⟩ := RdE.at_ (K := 2) (enc := Hor.enc) (fun _ => rfl) (by omega) (HVZ.out.keep (Keeps.below hBi)) hlth
         have hcx := hcl kh hlth
         have hmem := List.getElem_mem hlth
         have hsn := flat_snoc encHor hlth
         have hle := flat_le encHor hlth
         obtain ⟨xh, hx⟩ : ∃ x, x = hor[kh] := ⟨_, rfl⟩
         rw [← hx] at hcx hmem hsn hle
         obtain ⟨Lkh, hLk⟩ : ∃ L, L = sL7 ++ (hor.take kh).flatMap encHor := ⟨_, rfl⟩
         have hM : (Lkh ++ encHor xh).length ≤ 100000000000 := by
          have q := sn8.out
          rw [hsL8.out] at q
          rw [hLk]
          simp only [List.length_append] at q ⊢
          omega
         have hS : sL7 ++ (hor.take (kh + 1)).flatMap encHor = Lkh ++ encHor xh := by rw [hsn, ← List.append_assoc, ← hLk]
         have HBih := Lib.hid hBi
         have hRi := HAih.out.rd
         rw [← hLk] at hRi
         clear hcl hx hF hsn hle hBi hLk HAih
         have HQ := Lib.hid (HZB.out _ hmem)
         obtain ⟨ht, hz⟩ := xh
         have HSh : Hid (sL7 ++ (hor.take (kh + 1)).flatMap encHor = Lkh ++ encHor ⟨ht, hz⟩) := Lib.hid hS
         have hM : (Lkh ++ encHor ⟨ht, hz⟩).length ≤ 100000000000 := hM
         have gh0 : wih.cell? ⟨bh, offh + kh * 2, none⟩ = some (.string ht) := hcx 0 _ (by decide) rfl
         have gh1 : wih.cell? ⟨bh, offh + kh * 2 + 1, none⟩ = some (.int .i64 hz) := hcx 1 _ (by decide) rfl
         clear hcx hS hmem
         obtain ⟨wbh, hwbh⟩ : ∃ W, W = wih.alloc (.cells #[.string ht, .int .i64 hz] 122) := ⟨_, rfl⟩
         have hbb : Below wih.heap.size wih wbh := by rw [hwbh]; exact Below.of_alloc _
         have HBbh : Hid (Below w.heap.size w wbh) := Lib.hid (HBih.out.trans (hbb.mono HBih.out.size))
         have HXLh : Hid (wih.heap.size < wbh.heap.size) := Lib.hid (by rw [hwbh]; simp)
         have HXh : Hid (wbh.heap[wih.heap.size]? = some (.cells #[.string ht, .int .i64 hz] 122 (0, 0))) := Lib.hid (by rw [hwbh]; exact heap_alloc_new _ _)
         have hRbh := hRi.below hbb
         clear hbb hRi
         obtain ⟨bL1, hbL1⟩ : ∃ L, L = Lkh ++ (encI ht.size ++ ht.data.toList) := ⟨_, rfl⟩
         obtain ⟨bL2, hbL2⟩ : ∃ L, L = bL1 ++ encI hz := ⟨_, rfl⟩
         have bE : bL2 = Lkh ++ encHor ⟨ht, hz⟩ := by rw [hbL2, hbL1]; simp only [encHor, List.append_assoc]
         have bn2 : bL2.length ≤ 100000000000 := by rw [bE]; exact hM
         have bn1 : bL1.length ≤ 100000000000 := by have q := bn2; rw [hbL2, List.length_append] at q; omega
         have bn0 : Lkh.length ≤ 100000000000 := by have q := bn1; rw [hbL1, List.length_append] at q; omega
         have bE := Lib.hid bE
         have bn0 := Lib.hid bn0
         have bn1 := Lib.hid bn1
         have bn2 := Lib.hid bn2
         have bK1 : ∀ v W, RdB W (· < W.heap.size) v Lkh → Below w.heap.size w W → Calls Tryz.prog 116 #[v, .string ht] W (NewB W bL1) := fun v W h hW => by
          rw [hbL1]
          exact refPutText_any v Lkh ht W h (by have q1 := bn0.out; have q2 : ht.size ≤ 300 := HQ.out.1; omega)
         have bK2 : ∀ v W, RdB W (· < W.heap.size) v bL1 → Below w.heap.size w W → Calls Tryz.prog 113 #[v, .int .i64 hz] W (NewB W bL2) := fun v W h hW => by
          rw [hbL2]
          exact refPutInt_any v bL1 hz W (by have q := HQ.out.2; (try dsimp only at q); omega) (by have q := HQ.out.2; (try dsimp only at q); omega) h (by have := bn1.out; omega)
         clear hbL1 hbL2
         clear hM
         go_wp2_with fail
         rw [← hwbh]
         clear hwbh
         refine wp_region_noPanic ?_
         refine wp_region_held_drew (S := (fun w' => Below wbh.heap.size wbh w')) (by kernel_rfl) ?_ (fun hHeld => ?_)
         ·exact (Below.refl _ _).drew
         refine heldTake 0 (some 91) (v := ?_) rfl rfl (by kernel_rfl) (by kernel_rfl) (by kernel_rfl) (by rfl) hHeld (fun _ _ _ h => h) ?_ ?_
         rotate_left
         ·intro w' hSw; (try dsimp only at hSw); go_simp <;> with_reducible rfl
         simp only [Act.put, List.setIfInBounds_toArray, List.set_cons_zero, List.set_cons_succ]
         refine heldTake 1 (some 92) (v := ?_) rfl rfl (by kernel_rfl) (by kernel_rfl) (by kernel_rfl) (by rfl) hHeld (fun _ _ _ h => h) ?_ ?_
         rotate_left
         ·intro w' hSw; (try dsimp only at hSw); go_simp <;> with_reducible rfl
         simp only [Act.put, List.setIfInBounds_toArray, List.set_cons_zero, List.set_cons_succ]
         refine heldTake 2 (some 93) (v := ?_) rfl rfl (by kernel_rfl) (by kernel_rfl) (by kernel_rfl) (by rfl) hHeld (fun _ _ _ h => h) ?_ ?_
         rotate_left
         ·intro w' hSw; (try dsimp only at hSw); have q0 : w'.cell? ⟨wih.heap.size, 0, none⟩ = some (.string ht) := cell_of_row w' _ 0 _ _ _ ((hSw.block _ HXLh.out).trans HXh.out); go_simp <;> with_reducible rfl
         simp only [Act.put, List.setIfInBounds_toArray, List.set_cons_zero, List.set_cons_succ]
         refine heldTake 4 (some 95) (v := ?_) rfl rfl (by kernel_rfl) (by kernel_rfl) (by kernel_rfl) (by rfl) hHeld (fun _ _ _ h => h) ?_ ?_
         rotate_left
         ·intro w' hSw; (try dsimp only at hSw); go_simp <;> with_reducible rfl
         simp only [Act.put, List.setIfInBounds_toArray, List.set_cons_zero, List.set_cons_succ]
         refine heldTake 5 (some 96) (v := ?_) rfl rfl (by kernel_rfl) (by kernel_rfl) (by kernel_rfl) (by rfl) hHeld (fun _ _ _ h => h) ?_ ?_
         rotate_left
         ·intro w' hSw; (try dsimp only at hSw); have q1 : w'.cell? ⟨wih.heap.size, 1, none⟩ = some (.int .i64 hz) := cell_of_row w' _ 1 _ _ _ ((hSw.block _ HXLh.out).trans HXh.out); go_simp <;> with_reducible rfl
         simp only [Act.put, List.setIfInBounds_toArray, List.set_cons_zero, List.set_cons_succ]
         refine heldCall 3 (some 94) (f := ?_) (args := ?_) rfl rfl (by kernel_rfl) (by rfl) ?_ ?_
         rotate_left 2
         ·go_simp <;> first | (constructor <;> with_reducible rfl) | with_reducible rfl
         (with_reducible refine (bK1 _ _ (hRbh.below (Below.refl _ _).drew) (HBbh.out.trans ((Below.refl wbh.heap.size wbh).drew.mono HBbh.out.size))).mono ?_)
         rintro _ z1 ⟨vz1, rfl, hOz1, hbz1'⟩
         have hbz1 : Below wbh.heap.size wbh z1 := Below.undrew hbz1'
         have hRz1 := hOz1.rd
         refine ⟨_, rfl, keepAnd ?_ (fun hNew => ?_)⟩
         ·exact hbz1
         clear hHeld
         have hHeld := hNew
         clear hNew
         simp only [Act.put, List.setIfInBounds_toArray, List.set_cons_zero, List.set_cons_succ]
         refine heldCall 6 (some 97) (f := ?_) (args := ?_) rfl rfl (by kernel_rfl) (by rfl) ?_ ?_
         rotate_left 2
         ·go_simp <;> first | (constructor <;> with_reducible rfl) | with_reducible rfl
         (with_reducible refine (bK2 _ _ hRz1 (HBbh.out.trans (hbz1.mono HBbh.out.size))).mono ?_)
         rintro _ z2 ⟨vz2, rfl, hOz2, hbz2'⟩
         have hbz2 : Below wbh.heap.size wbh z2 := hbz1.trans (hbz2'.mono hbz1.size)
         have hRz2 := hOz2.rd
         refine ⟨_, rfl, keepAnd ?_ (fun hNew => ?_)⟩
         ·exact hbz2
         clear hHeld
         have hHeld := hNew
         clear hNew
         simp only [Act.put, List.setIfInBounds_toArray, List.set_cons_zero, List.set_cons_succ]
         refine heldTake 7 (some 0) (v := ?_) rfl rfl (by kernel_rfl) (by kernel_rfl) (by kernel_rfl) (by rfl) hHeld (fun _ _ _ h => h) ?_ ?_
         rotate_left
         ·intro w' hSw; (try dsimp only at hSw); go_simp <;> with_reducible rfl
         simp only [Act.put, List.setIfInBounds_toArray, List.set_cons_zero]
         refine wpAnyH_done (by kernel_rfl) ?_ _
         refine NoPanic.normal ?_
         clear hHeld
         have HAz : Hid (AtB w z2 vz2 bL2) := Lib.hid (AtB.next (HBbh.out.trans (hbz1.mono HBbh.out.size)) hOz2 hbz2')
         clear hRz1 hbz1 hbz1' hOz1 hRz2 hbz2 hbz2' hOz2 bK1 bK2
         have HAnh := Lib.hid (HAz.out.cast bE.out)
         clear hRbh HAz
         go_wp2_with fail
         go_roundw
         case rel => exact ⟨kh + 1, by go_num, by omega, Lib.hid (HAnh.out.cast HSh.out.symm)⟩
         case measure => simp [intOf]; omega
      case pos =>
       have hltZ : (kq : Int) < (pol.length : Int) := by omega
       have hBi := HAiq.out.bel
       obtain ⟨bq, offq, rfl, hF, hcl⟩ := RdE.at_ (K := 2) (enc := Pol.enc) (fun _ => rfl) (by omega) (HVP.out.keep (Keeps.below hBi)) hltq
       have hcx := hcl kq hltq
       have hmem := List.getElem_mem hltq
       have hsn := flat_snoc encPol hltq
       have hle := flat_le encPol hltq
       obtain ⟨xq, hx⟩ : ∃ x, x = pol[kq] := ⟨_, rfl⟩
       rw [← hx] at hcx hmem hsn hle
       obtain ⟨Lkq, hLk⟩ : ∃ L, L = sL5 ++ (pol.take kq).flatMap encPol := ⟨_, rfl⟩
       have hM : (Lkq ++ encPol xq).length ≤ 100000000000 := by
        have q := sn6.out
        rw [hsL6.out] at q
        rw [hLk]
        simp only [List.length_append] at q ⊢
        omega
       have hS : sL5 ++ (pol.take (kq + 1)).flatMap encPol = Lkq ++ encPol xq := by rw [hsn, ← List.append_assoc, ← hLk]
       have HBiq := Lib.hid hBi
       have hRi := HAiq.out.rd
       rw [← hLk] at hRi
       clear hcl hx hF hsn hle hBi hLk HAiq
       have HQ := Lib.hid (HPB.out _ hmem)
       obtain ⟨pt, pk⟩ := xq
       have HSq : Hid (sL5 ++ (pol.take (kq + 1)).flatMap encPol = Lkq ++ encPol ⟨pt, pk⟩) := Lib.hid hS
       have hM : (Lkq ++ encPol ⟨pt, pk⟩).length ≤ 100000000000 := hM
       have gq0 : wiq.cell? ⟨bq, offq + kq * 2, none⟩ = some (.string pt) := hcx 0 _ (by decide) rfl
       have gq1 : wiq.cell? ⟨bq, offq + kq * 2 + 1, none⟩ = some (.int .i64 pk) := hcx 1 _ (by decide) rfl
       clear hcx hS hmem
       obtain ⟨wbq, hwbq⟩ : ∃ W, W = wiq.alloc (.cells #[.string pt, .int .i64 pk] 117) := ⟨_, rfl⟩
       have hbb : Below wiq.heap.size wiq wbq := by rw [hwbq]; exact Below.of_alloc _
       have HBbq : Hid (Below w.heap.size w wbq) := Lib.hid (HBiq.out.trans (hbb.mono HBiq.out.size))
       have HXLq : Hid (wiq.heap.size < wbq.heap.size) := Lib.hid (by rw [hwbq]; simp)
       have HXq : Hid (wbq.heap[wiq.heap.size]? = some (.cells #[.string pt, .int .i64 pk] 117 (0, 0))) := Lib.hid (by rw [hwbq]; exact heap_alloc_new _ _)
       have hRbq := hRi.below hbb
       clear hbb hRi
       obtain ⟨bL1, hbL1⟩ : ∃ L, L = Lkq ++ (encI pt.size ++ pt.data.toList) := ⟨_, rfl⟩
       obtain ⟨bL2, hbL2⟩ : ∃ L, L = bL1 ++ encI pk := ⟨_, rfl⟩
       have bE : bL2 = Lkq ++ encPol ⟨pt, pk⟩ := by rw [hbL2, hbL1]; simp only [encPol, List.append_assoc]
       have bn2 : bL2.length ≤ 100000000000 := by rw [bE]; exact hM
       have bn1 : bL1.length ≤ 100000000000 := by have q := bn2; rw [hbL2, List.length_append] at q; omega
       have bn0 : Lkq.length ≤ 100000000000 := by have q := bn1; rw [hbL1, List.length_append] at q; omega
       have bE := Lib.hid bE
       have bn0 := Lib.hid bn0
       have bn1 := Lib.hid bn1
       have bn2 := Lib.hid bn2
       have bK1 : ∀ v W, RdB W (· < W.heap.size) v Lkq → Below w.heap.size w W → Calls Tryz.prog 116 #[v, .string pt] W (NewB W bL1) := fun v W h hW => by
        rw [hbL1]
        exact refPutText_any v Lkq pt W h (by have q1 := bn0.out; have q2 : pt.size ≤ 300 := HQ.out.1; omega)
       have bK2 : ∀ v W, RdB W (· < W.heap.size) v bL1 → Below w.heap.size w W → Calls Tryz.prog 113 #[v, .int .i64 pk] W (NewB W bL2) := fun v W h hW => by
        rw [hbL2]
        exact refPutInt_any v bL1 pk W (by have q := HQ.out.2; (try dsimp only at q); omega) (by have q := HQ.out.2; (try dsimp only at q); omega) h (by have := bn1.out; omega)
       clear hbL1 hbL2
       clear hM
       go_wp2_with fail
       rw [← hwbq]
       clear hwbq
       refine wp_region_noPanic ?_
       refine wp_region_held_drew (S := (fun w' => Below wbq.heap.size wbq w')) (by kernel_rfl) ?_ (fun hHeld => ?_)
       ·exact (Below.refl _ _).drew
       refine heldTake 0 (some 73) (v := ?_) rfl rfl (by kernel_rfl) (by kernel_rfl) (by kernel_rfl) (by rfl) hHeld (fun _ _ _ h => h) ?_ ?_
       rotate_left
       ·intro w' hSw; (try dsimp only at hSw); go_simp <;> with_reducible rfl
       simp only [Act.put, List.setIfInBounds_toArray, List.set_cons_zero, List.set_cons_succ]
       refine heldTake 1 (some 74) (v := ?_) rfl rfl (by kernel_rfl) (by kernel_rfl) (by kernel_rfl) (by rfl) hHeld (fun _ _ _ h => h) ?_ ?_
       rotate_left
       ·intro w' hSw; (try dsimp only at hSw); go_simp <;> with_reducible rfl
       simp only [Act.put, List.setIfInBounds_toArray, List.set_cons_zero, List.set_cons_succ]
       refine heldTake 2 (some 75) (v := ?_) rfl rfl (by kernel_rfl) (by kernel_rfl) (by kernel_rfl) (by rfl) hHeld (fun _ _ _ h => h) ?_ ?_
       rotate_left
       ·intro w' hSw; (try dsimp only at hSw); have q0 : w'.cell? ⟨wiq.heap.size, 0, none⟩ = some (.string pt) := cell_of_row w' _ 0 _ _ _ ((hSw.block _ HXLq.out).trans HXq.out); go_simp <;> with_reducible rfl
       simp only [Act.put, List.setIfInBounds_toArray, List.set_cons_zero, List.set_cons_succ]
       refine heldTake 4 (some 77) (v := ?_) rfl rfl (by kernel_rfl) (by kernel_rfl) (by kernel_rfl) (by rfl) hHeld (fun _ _ _ h => h) ?_ ?_
       rotate_left
       ·intro w' hSw; (try dsimp only at hSw); go_simp <;> with_reducible rfl
       simp only [Act.put, List.setIfInBounds_toArray, List.set_cons_zero, List.set_cons_succ]
       refine heldTake 5 (some 78) (v := ?_) rfl rfl (by kernel_rfl) (by kernel_rfl) (by kernel_rfl) (by rfl) hHeld (fun _ _ _ h => h) ?_ ?_
       rotate_left
       ·intro w' hSw; (try dsimp only at hSw); have q1 : w'.cell? ⟨wiq.heap.size, 1, none⟩ = some (.int .i64 pk) := cell_of_row w' _ 1 _ _ _ ((hSw.block _ HXLq.out).trans HXq.out); go_simp <;> with_reducible rfl
       simp only [Act.put, List.setIfInBounds_toArray, List.set_cons_zero, List.set_cons_succ]
       refine heldCall 3 (some 76) (f := ?_) (args := ?_) rfl rfl (by kernel_rfl) (by rfl) ?_ ?_
       rotate_left 2
       ·go_simp <;> first | (constructor <;> with_reducible rfl) | with_reducible rfl
       (with_reducible refine (bK1 _ _ (hRbq.below (Below.refl _ _).drew) (HBbq.out.trans ((Below.refl wbq.heap.size wbq).drew.mono HBbq.out.size))).mono ?_)
       rintro _ z1 ⟨vz1, rfl, hOz1, hbz1'⟩
       have hbz1 : Below wbq.heap.size wbq z1 := Below.undrew hbz1'
       have hRz1 := hOz1.rd
       refine ⟨_, rfl, keepAnd ?_ (fun hNew => ?_)⟩
       ·exact hbz1
       clear hHeld
       have hHeld := hNew
       clear hNew
       simp only [Act.put, List.setIfInBounds_toArray, List.set_cons_zero, List.set_cons_succ]
       refine heldCall 6 (some 79) (f := ?_) (args := ?_) rfl rfl (by kernel_rfl) (by rfl) ?_ ?_
       rotate_left 2
       ·go_simp <;> first | (constructor <;> with_reducible rfl) | with_reducible rfl
       (with_reducible refine (bK2 _ _ hRz1 (HBbq.out.trans (hbz1.mono HBbq.out.size))).mono ?_)
       rintro _ z2 ⟨vz2, rfl, hOz2, hbz2'⟩
       have hbz2 : Below wbq.heap.size wbq z2 := hbz1.trans (hbz2'.mono hbz1.size)
       have hRz2 := hOz2.rd
       refine ⟨_, rfl, keepAnd ?_ (fun hNew => ?_)⟩
       ·exact hbz2
       clear hHeld
       have hHeld := hNew
       clear hNew
       simp only [Act.put, List.setIfInBounds_toArray, List.set_cons_zero, List.set_cons_succ]
       refine heldTake 7 (some 0) (v := ?_) rfl rfl (by kernel_rfl) (by kernel_rfl) (by kernel_rfl) (by rfl) hHeld (fun _ _ _ h => h) ?_ ?_
       rotate_left
       ·intro w' hSw; (try dsimp only at hSw); go_simp <;> with_reducible rfl
       simp only [Act.put, List.setIfInBounds_toArray, List.set_cons_zero]
       refine wpAnyH_done (by kernel_rfl) ?_ _
       refine NoPanic.normal ?_
       clear hHeld
       have HAz : Hid (AtB w z2 vz2 bL2) := Lib.hid (AtB.next (HBbq.out.trans (hbz1.mono HBbq.out.size)) hOz2 hbz2')
       clear hRz1 hbz1 hbz1' hOz1 hRz2 hbz2 hbz2' hOz2 bK1 bK2
       have HAnq := Lib.hid (HAz.out.cast bE.out)
       clear hRbq HAz
       go_wp2_with fail
       go_roundw
       case rel => exact ⟨kq + 1, by go_num, by omega, Lib.hid (HAnq.out.cast HSq.out.symm)⟩
       case measure => simp [intOf]; omega
    case pos =>
     have hltZ : (kr : Int) < (rel.length : Int) := by omega
     have hBi := HAir.out.bel
     obtain ⟨br, offr, rfl, hF, hcl⟩ := RdE.at_ (K := 1) (enc := strE) (fun _ => rfl) (by omega) (HVS.out.keep (Keeps.below hBi)) hltr
     have hcx := hcl kr hltr
     have hmem := List.getElem_mem hltr
     have hsn := flat_snoc encStr hltr
     have hle := flat_le encStr hltr
     obtain ⟨xr, hx⟩ : ∃ x, x = rel[kr] := ⟨_, rfl⟩
     rw [← hx] at hcx hmem hsn hle
     obtain ⟨Lkr, hLk⟩ : ∃ L, L = sL3 ++ (rel.take kr).flatMap encStr := ⟨_, rfl⟩
     have hM : (Lkr ++ encStr xr).length ≤ 100000000000 := by
      have q := sn4.out
      rw [hsL4.out] at q
      rw [hLk]
      simp only [List.length_append] at q ⊢
      omega
     have hS : sL3 ++ (rel.take (kr + 1)).flatMap encStr = Lkr ++ encStr xr := by rw [hsn, ← List.append_assoc, ← hLk]
     have HBir := Lib.hid hBi
     have hRi := HAir.out.rd
     rw [← hLk] at hRi
     clear hcl hx hF hsn hle hBi hLk HAir
     have HQ := Lib.hid (HSB.out _ hmem)
     obtain ⟨rs, hrsx⟩ : ∃ y, y = xr := ⟨_, rfl⟩
     subst hrsx
     have HSr : Hid (sL3 ++ (rel.take (kr + 1)).flatMap encStr = Lkr ++ encStr rs) := Lib.hid hS
     have hM : (Lkr ++ encStr rs).length ≤ 100000000000 := hM
     have gr0 : wir.cell? ⟨br, offr + kr, none⟩ = some (.string rs) := by have h := hcx 0 _ (by decide) rfl; rw [Nat.mul_one] at h; exact h
     clear hcx hS hmem
     have HBbr := HBir
     have hRbr := hRi
     clear hRi
     have KC : Calls Tryz.prog 116 #[_, .string rs] wir (NewB wir (Lkr ++ encStr rs)) := refPutText_any _ Lkr rs wir hRbr (by have q := HQ.out; rw [List.length_append] at hM; omega)
     go_wp2_with fail
     (with_reducible refine KC.mono ?_)
     rintro _ y4 ⟨vy4, rfl, hO, hb⟩
     have HAnr : Hid (AtB w y4 vy4 (Lkr ++ encStr rs)) := Lib.hid (AtB.next HBbr.out hO hb)
     clear KC hO hb hM
     go_wp2_with fail
     go_roundw
     case rel => exact ⟨kr + 1, by go_num, by omega, Lib.hid (HAnr.out.cast HSr.out.symm)⟩
     case measure => simp [intOf]; omega
  case pos =>
   have hltZ : (kp : Int) < (pla.length : Int) := by omega
   have hBi := HAip.out.bel
   obtain ⟨bp, offp, rfl, hF, hcl⟩ := RdE.at_ (K := 6) (enc := Hld.enc) (fun _ => rfl) (by omega) (HVH.out.keep (Keeps.below hBi)) hltp
   have hcx := hcl kp hltp
   have hmem := List.getElem_mem hltp
   have hsn := flat_snoc encHld hltp
   have hle := flat_le encHld hltp
   obtain ⟨xp, hx⟩ : ∃ x, x = pla[kp] := ⟨_, rfl⟩
   rw [← hx] at hcx hmem hsn hle
   obtain ⟨Lkp, hLk⟩ : ∃ L, L = sL1 ++ (pla.take kp).flatMap encHld := ⟨_, rfl⟩
   have hM : (Lkp ++ encHld xp).length ≤ 100000000000 := by
    have q := sn2.out
    rw [hsL2.out] at q
    rw [hLk]
    simp only [List.length_append] at q ⊢
    omega
   have hS : sL1 ++ (pla.take (kp + 1)).flatMap encHld = Lkp ++ encHld xp := by rw [hsn, ← List.append_assoc, ← hLk]
   have HBip := Lib.hid hBi
   have hRi := HAip.out.rd
   rw [← hLk] at hRi
   clear hcl hx hF hsn hle hBi hLk HAip
   have HQ := Lib.hid (HHB.out _ hmem)
   obtain ⟨ln, lt, l1, l2, l3, l4⟩ := xp
   have HSp : Hid (sL1 ++ (pla.take (kp + 1)).flatMap encHld = Lkp ++ encHld ⟨ln, lt, l1, l2, l3, l4⟩) := Lib.hid hS
   have hM : (Lkp ++ encHld ⟨ln, lt, l1, l2, l3, l4⟩).length ≤ 100000000000 := hM
   have gp0 : wip.cell? ⟨bp, offp + kp * 6, none⟩ = some (.string ln) := hcx 0 _ (by decide) rfl
   have gp1 : wip.cell? ⟨bp, offp + kp * 6 + 1, none⟩ = some (.string lt) := hcx 1 _ (by decide) rfl
   have gp2 : wip.cell? ⟨bp, offp + kp * 6 + 2, none⟩ = some (.int .i64 l1) := hcx 2 _ (by decide) rfl
   have gp3 : wip.cell? ⟨bp, offp + kp * 6 + 3, none⟩ = some (.int .i64 l2) := hcx 3 _ (by decide) rfl
   have gp4 : wip.cell? ⟨bp, offp + kp * 6 + 4, none⟩ = some (.int .i64 l3) := hcx 4 _ (by decide) rfl
   have gp5 : wip.cell? ⟨bp, offp + kp * 6 + 5, none⟩ = some (.int .i64 l4) := hcx 5 _ (by decide) rfl
   clear hcx hS hmem
   obtain ⟨wbp, hwbp⟩ : ∃ W, W = wip.alloc (.cells #[.string ln, .string lt, .int .i64 l1, .int .i64 l2, .int .i64 l3, .int .i64 l4] 109) := ⟨_, rfl⟩
   have hbb : Below wip.heap.size wip wbp := by rw [hwbp]; exact Below.of_alloc _
   have HBbp : Hid (Below w.heap.size w wbp) := Lib.hid (HBip.out.trans (hbb.mono HBip.out.size))
   have HXLp : Hid (wip.heap.size < wbp.heap.size) := Lib.hid (by rw [hwbp]; simp)
   have HXp : Hid (wbp.heap[wip.heap.size]? = some (.cells #[.string ln, .string lt, .int .i64 l1, .int .i64 l2, .int .i64 l3, .int .i64 l4] 109 (0, 0))) := Lib.hid (by rw [hwbp]; exact heap_alloc_new _ _)
   have hRbp := hRi.below hbb
   clear hbb hRi
   obtain ⟨bL1, hbL1⟩ : ∃ L, L = Lkp ++ (encI ln.size ++ ln.data.toList) := ⟨_, rfl⟩
   obtain ⟨bL2, hbL2⟩ : ∃ L, L = bL1 ++ (encI lt.size ++ lt.data.toList) := ⟨_, rfl⟩
   obtain ⟨bL3, hbL3⟩ : ∃ L, L = bL2 ++ (encI l1 ++ encI l2) := ⟨_, rfl⟩
   obtain ⟨bL4, hbL4⟩ : ∃ L, L = bL3 ++ (encI l3 ++ encI l4) := ⟨_, rfl⟩
   have bE : bL4 = Lkp ++ encHld ⟨ln, lt, l1, l2, l3, l4⟩ := by rw [hbL4, hbL3, hbL2, hbL1]; simp only [encHld, List.append_assoc]
   have bn4 : bL4.length ≤ 100000000000 := by rw [bE]; exact hM
   have bn3 : bL3.length ≤ 100000000000 := by have q := bn4; rw [hbL4, List.length_append] at q; omega
   have bn2 : bL2.length ≤ 100000000000 := by have q := bn3; rw [hbL3, List.length_append] at q; omega
   have bn1 : bL1.length ≤ 100000000000 := by have q := bn2; rw [hbL2, List.length_append] at q; omega
   have bn0 : Lkp.length ≤ 100000000000 := by have q := bn1; rw [hbL1, List.length_append] at q; omega
   have bE := Lib.hid bE
   have bn0 := Lib.hid bn0
   have bn1 := Lib.hid bn1
   have bn2 := Lib.hid bn2
   have bn3 := Lib.hid bn3
   have bn4 := Lib.hid bn4
   have bK1 : ∀ v W, RdB W (· < W.heap.size) v Lkp → Below w.heap.size w W → Calls Tryz.prog 116 #[v, .string ln] W (NewB W bL1) := fun v W h hW => by
    rw [hbL1]
    exact refPutText_any v Lkp ln W h (by have q1 := bn0.out; have q2 : ln.size ≤ 300 := HQ.out.1.1; omega)
   have bK2 : ∀ v W, RdB W (· < W.heap.size) v bL1 → Below w.heap.size w W → Calls Tryz.prog 116 #[v, .string lt] W (NewB W bL2) := fun v W h hW => by
    rw [hbL2]
    exact refPutText_any v bL1 lt W h (by have q1 := bn1.out; have q2 : lt.size ≤ 300 := HQ.out.1.2; omega)
   have bK3 : ∀ v W, RdB W (· < W.heap.size) v bL2 → Below w.heap.size w W → Calls Tryz.prog 158 #[v, .agg #[.int .i64 l1, .int .i64 l2]] W (NewB W bL3) := fun v W h hW => by
    rw [hbL3]
    exact refPutPeriod_any v bL2 l1 l2 W (by have q := HQ.out.2; (try dsimp only at q); omega) (by have q := HQ.out.2; (try dsimp only at q); omega) (by have q := HQ.out.2; (try dsimp only at q); omega) (by have q := HQ.out.2; (try dsimp only at q); omega) h (by have := bn2.out; omega)
   have bK4 : ∀ v W, RdB W (· < W.heap.size) v bL3 → Below w.heap.size w W → Calls Tryz.prog 158 #[v, .agg #[.int .i64 l3, .int .i64 l4]] W (NewB W bL4) := fun v W h hW => by
    rw [hbL4]
    exact refPutPeriod_any v bL3 l3 l4 W (by have q := HQ.out.2; (try dsimp only at q); omega) (by have q := HQ.out.2; (try dsimp only at q); omega) (by have q := HQ.out.2; (try dsimp only at q); omega) (by have q := HQ.out.2; (try dsimp only at q); omega) h (by have := bn3.out; omega)
   clear hbL1 hbL2 hbL3 hbL4
   clear hM
   go_wp2_with fail
   rw [← hwbp]
   clear hwbp
   refine wp_region_noPanic ?_
   refine wp_region_held_drew (S := (fun w' => Below wbp.heap.size wbp w')) (by kernel_rfl) ?_ (fun hHeld => ?_)
   ·exact (Below.refl _ _).drew
   refine heldTake 0 (some 31) (v := ?_) rfl rfl (by kernel_rfl) (by kernel_rfl) (by kernel_rfl) (by rfl) hHeld (fun _ _ _ h => h) ?_ ?_
   rotate_left
   ·intro w' hSw; (try dsimp only at hSw); go_simp <;> with_reducible rfl
   simp only [Act.put, List.setIfInBounds_toArray, List.set_cons_zero, List.set_cons_succ]
   refine heldTake 1 (some 32) (v := ?_) rfl rfl (by kernel_rfl) (by kernel_rfl) (by kernel_rfl) (by rfl) hHeld (fun _ _ _ h => h) ?_ ?_
   rotate_left
   ·intro w' hSw; (try dsimp only at hSw); go_simp <;> with_reducible rfl
   simp only [Act.put, List.setIfInBounds_toArray, List.set_cons_zero, List.set_cons_succ]
   refine heldTake 2 (some 33) (v := ?_) rfl rfl (by kernel_rfl) (by kernel_rfl) (by kernel_rfl) (by rfl) hHeld (fun _ _ _ h => h) ?_ ?_
   rotate_left
   ·intro w' hSw; (try dsimp only at hSw); have q0 : w'.cell? ⟨wip.heap.size, 0, none⟩ = some (.string ln) := cell_of_row w' _ 0 _ _ _ ((hSw.block _ HXLp.out).trans HXp.out); go_simp <;> with_reducible rfl
   simp only [Act.put, List.setIfInBounds_toArray, List.set_cons_zero, List.set_cons_succ]
   refine heldTake 4 (some 35) (v := ?_) rfl rfl (by kernel_rfl) (by kernel_rfl) (by kernel_rfl) (by rfl) hHeld (fun _ _ _ h => h) ?_ ?_
   rotate_left
   ·intro w' hSw; (try dsimp only at hSw); go_simp <;> with_reducible rfl
   simp only [Act.put, List.setIfInBounds_toArray, List.set_cons_zero, List.set_cons_succ]
   refine heldTake 5 (some 36) (v := ?_) rfl rfl (by kernel_rfl) (by kernel_rfl) (by kernel_rfl) (by rfl) hHeld (fun _ _ _ h => h) ?_ ?_
   rotate_left
   ·intro w' hSw; (try dsimp only at hSw); have q1 : w'.cell? ⟨wip.heap.size, 1, none⟩ = some (.string lt) := cell_of_row w' _ 1 _ _ _ ((hSw.block _ HXLp.out).trans HXp.out); go_simp <;> with_reducible rfl
   simp only [Act.put, List.setIfInBounds_toArray, List.set_cons_zero, List.set_cons_succ]
   refine heldCall 3 (some 34) (f := ?_) (args := ?_) rfl rfl (by kernel_rfl) (by rfl) ?_ ?_
   rotate_left 2
   ·go_simp <;> first | (constructor <;> with_reducible rfl) | with_reducible rfl
   (with_reducible refine (bK1 _ _ (hRbp.below (Below.refl _ _).drew) (HBbp.out.trans ((Below.refl wbp.heap.size wbp).drew.mono HBbp.out.size))).mono ?_)
   rintro _ z1 ⟨vz1, rfl, hOz1, hbz1'⟩
   have hbz1 : Below wbp.heap.size wbp z1 := Below.undrew hbz1'
   have hRz1 := hOz1.rd
   refine ⟨_, rfl, keepAnd ?_ (fun hNew => ?_)⟩
   ·exact hbz1
   clear hHeld
   have hHeld := hNew
   clear hNew
   simp only [Act.put, List.setIfInBounds_toArray, List.set_cons_zero, List.set_cons_succ]
   refine heldCall 6 (some 37) (f := ?_) (args := ?_) rfl rfl (by kernel_rfl) (by rfl) ?_ ?_
   rotate_left 2
   ·go_simp <;> first | (constructor <;> with_reducible rfl) | with_reducible rfl
   (with_reducible refine (bK2 _ _ hRz1 (HBbp.out.trans (hbz1.mono HBbp.out.size))).mono ?_)
   rintro _ z2 ⟨vz2, rfl, hOz2, hbz2'⟩
   have hbz2 : Below wbp.heap.size wbp z2 := hbz1.trans (hbz2'.mono hbz1.size)
   have hRz2 := hOz2.rd
   refine ⟨_, rfl, keepAnd ?_ (fun hNew => ?_)⟩
   ·exact hbz2
   clear hHeld
   have hHeld := hNew
   clear hNew
   simp only [Act.put, List.setIfInBounds_toArray, List.set_cons_zero, List.set_cons_succ]
   refine heldTake 7 (some 0) (v := ?_) rfl rfl (by kernel_rfl) (by kernel_rfl) (by kernel_rfl) (by rfl) hHeld (fun _ _ _ h => h) ?_ ?_
   rotate_left
   ·intro w' hSw; (try dsimp only at hSw); go_simp <;> with_reducible rfl
   simp only [Act.put, List.setIfInBounds_toArray, List.set_cons_zero]
   refine wpAnyH_done (by kernel_rfl) ?_ _
   refine NoPanic.normal ?_
   clear hHeld
   have HWB := Lib.hid hbz2
   have HAz : Hid (AtB w z2 vz2 bL2) := Lib.hid (AtB.next (HBbp.out.trans (hbz1.mono HBbp.out.size)) hOz2 hbz2')
   clear hRz1 hbz1 hbz1' hOz1 hRz2 hbz2 hbz2' hOz2 bK1 bK2
   clear hRbp
   go_wp2_with fail
   have hR6 := HAz.out.rd
   have HX6 := Lib.hid ((HWB.out.block _ HXLp.out).trans HXp.out)
   have HXL6 : Hid (wip.heap.size < z2.heap.size) := Lib.hid (Nat.lt_of_lt_of_le HXLp.out HWB.out.size)
   refine wp_region_noPanic ?_
   refine wp_region_held_drew (S := (fun w' => Below z2.heap.size z2 w')) (by kernel_rfl) ?_ (fun hHeld => ?_)
   ·exact (Below.refl _ _).drew
   refine heldTake 0 (some 38) (v := ?_) rfl rfl (by kernel_rfl) (by kernel_rfl) (by kernel_rfl) (by rfl) hHeld (fun _ _ _ h => h) ?_ ?_
   rotate_left
   ·intro w' hSw; (try dsimp only at hSw); go_simp <;> with_reducible rfl
   simp only [Act.put, List.setIfInBounds_toArray, List.set_cons_zero, List.set_cons_succ]
   refine heldTake 1 (some 39) (v := ?_) rfl rfl (by kernel_rfl) (by kernel_rfl) (by kernel_rfl) (by rfl) hHeld (fun _ _ _ h => h) ?_ ?_
   rotate_left
   ·intro w' hSw; (try dsimp only at hSw); go_simp <;> with_reducible rfl
   simp only [Act.put, List.setIfInBounds_toArray, List.set_cons_zero, List.set_cons_succ]
   refine heldTake 2 (some 40) (v := ?_) rfl rfl (by kernel_rfl) (by kernel_rfl) (by kernel_rfl) (by rfl) hHeld (fun _ _ _ h => h) ?_ ?_
   rotate_left
   ·intro w' hSw; (try dsimp only at hSw); go_simp <;> with_reducible rfl
   simp only [Act.put, List.setIfInBounds_toArray, List.set_cons_zero, List.set_cons_succ]
   refine heldTake 3 (some 41) (v := ?_) rfl rfl (by kernel_rfl) (by kernel_rfl) (by kernel_rfl) (by rfl) hHeld (fun _ _ _ h => h) ?_ ?_
   rotate_left
   ·intro w' hSw; (try dsimp only at hSw); have q2 : w'.cell? ⟨wip.heap.size, 2, none⟩ = some (.int .i64 l1) := cell_of_row w' _ 2 _ _ _ ((hSw.block _ HXL6.out).trans HX6.out); have q3 : w'.cell? ⟨wip.heap.size, 3, none⟩ = some (.int .i64 l2) := cell_of_row w' _ 3 _ _ _ ((hSw.block _ HXL6.out).trans HX6.out); go_simp <;> with_reducible rfl
   simp only [Act.put, List.setIfInBounds_toArray, List.set_cons_zero, List.set_cons_succ]
   refine heldTake 5 (some 43) (v := ?_) rfl rfl (by kernel_rfl) (by kernel_rfl) (by kernel_rfl) (by rfl) hHeld (fun _ _ _ h => h) ?_ ?_
   rotate_left
   ·intro w' hSw; (try dsimp only at hSw); go_simp <;> with_reducible rfl
   simp only [Act.put, List.setIfInBounds_toArray, List.set_cons_zero, List.set_cons_succ]
   refine heldTake 6 (some 44) (v := ?_) rfl rfl (by kernel_rfl) (by kernel_rfl) (by kernel_rfl) (by rfl) hHeld (fun _ _ _ h => h) ?_ ?_
   rotate_left
   ·intro w' hSw; (try dsimp only at hSw); go_simp <;> with_reducible rfl
   simp only [Act.put, List.setIfInBounds_toArray, List.set_cons_zero, List.set_cons_succ]
   refine heldTake 7 (some 45) (v := ?_) rfl rfl (by kernel_rfl) (by kernel_rfl) (by kernel_rfl) (by rfl) hHeld (fun _ _ _ h => h) ?_ ?_
   rotate_left
   ·intro w' hSw; (try dsimp only at hSw); have q4 : w'.cell? ⟨wip.heap.size, 4, none⟩ = some (.int .i64 l3) := cell_of_row w' _ 4 _ _ _ ((hSw.block _ HXL6.out).trans HX6.out); have q5 : w'.cell? ⟨wip.heap.size, 5, none⟩ = some (.int .i64 l4) := cell_of_row w' _ 5 _ _ _ ((hSw.block _ HXL6.out).trans HX6.out); go_simp <;> with_reducible rfl
   simp only [Act.put, List.setIfInBounds_toArray, List.set_cons_zero, List.set_cons_succ]
   refine heldCall 4 (some 42) (f := ?_) (args := ?_) rfl rfl (by kernel_rfl) (by rfl) ?_ ?_
   rotate_left 2
   ·go_simp <;> first | (constructor <;> with_reducible rfl) | with_reducible rfl
   (with_reducible refine (bK3 _ _ (hR6.below (Below.refl _ _).drew) (HAz.out.bel.trans ((Below.refl z2.heap.size z2).drew.mono HAz.out.bel.size))).mono ?_)
   rintro _ t1 ⟨vt1, rfl, hOt1, hbt1'⟩
   have hbt1 : Below z2.heap.size z2 t1 := Below.undrew hbt1'
   have hRt1 := hOt1.rd
   refine ⟨_, rfl, keepAnd ?_ (fun hNew => ?_)⟩
   ·exact hbt1
   clear hHeld
   have hHeld := hNew
   clear hNew
   simp only [Act.put, List.setIfInBounds_toArray, List.set_cons_zero, List.set_cons_succ]
   refine heldCall 8 (some 46) (f := ?_) (args := ?_) rfl rfl (by kernel_rfl) (by rfl) ?_ ?_
   rotate_left 2
   ·go_simp <;> first | (constructor <;> with_reducible rfl) | with_reducible rfl
   (with_reducible refine (bK4 _ _ hRt1 (HAz.out.bel.trans (hbt1.mono HAz.out.bel.size))).mono ?_)
   rintro _ t2 ⟨vt2, rfl, hOt2, hbt2'⟩
   have hbt2 : Below z2.heap.size z2 t2 := hbt1.trans (hbt2'.mono hbt1.size)
   have hRt2 := hOt2.rd
   refine ⟨_, rfl, keepAnd ?_ (fun hNew => ?_)⟩
   ·exact hbt2
   clear hHeld
   have hHeld := hNew
   clear hNew
   simp only [Act.put, List.setIfInBounds_toArray, List.set_cons_zero, List.set_cons_succ]
   refine heldTake 9 (some 0) (v := ?_) rfl rfl (by kernel_rfl) (by kernel_rfl) (by kernel_rfl) (by rfl) hHeld (fun _ _ _ h => h) ?_ ?_
   rotate_left
   ·intro w' hSw; (try dsimp only at hSw); go_simp <;> with_reducible rfl
   simp only [Act.put, List.setIfInBounds_toArray, List.set_cons_zero]
   refine wpAnyH_done (by kernel_rfl) ?_ _
   refine NoPanic.normal ?_
   clear hHeld
   have HAt : Hid (AtB w t2 vt2 bL4) := Lib.hid (AtB.next (HAz.out.bel.trans (hbt1.mono HAz.out.bel.size)) hOt2 hbt2')
   clear hRt1 hbt1 hbt1' hOt1 hRt2 hbt2 hbt2' hOt2 bK3 bK4
   have HAnp := Lib.hid (HAt.out.cast bE.out)
   clear hR6 HAt HAz
   go_wp2_with fail
   go_roundw
   case rel => exact ⟨kp + 1, by go_num, by omega, Lib.hid (HAnp.out.cast HSp.out.symm)⟩
   case measure => simp [intOf]; omega
set_option maxRecDepth 1000000 in
set_option maxHeartbeats 16000000 in
theorem refBytes_any (c : RCm) (w : World) (hi : c.is w (· < w.heap.size)) (h0 : checkF c = 0) (hlim : c.lim w) :
  Calls Tryz.prog 59 #[.agg c.enc.toArray] w (NewB w (encC c)) := by
 have hbx : ∀ W : World, Below w.heap.size w W → c.is W (· < W.heap.size) ∧ cmW W W.heap.size c := fun W h => ⟨hi.below h, cm_W h0 (hi.below h) hlim⟩
 clear hi h0 hlim
 obtain ⟨tx, tm, wa, fi, eA, eC, ents, dA, dC, dels, pA, pC, pla, rA, rC, rel, qA, qC, pol, hA, hC, hor⟩ := c
 show Calls Tryz.prog 59 #[.agg #[.int .i64 tx, .int .i64 tm, .int .i64 wa, .int .i64 fi, .slice eA ents.length eC, .slice dA dels.length dC, .slice pA pla.length pC, .slice rA rel.length rC, .slice qA pol.length qC, .slice hA hor.length hC]] w (NewB w (encC ⟨tx, tm, wa, fi, eA, eC, ents, dA, dC, dels, pA, pC, pla, rA, rC, rel, qA, qC, pol, hA, hC, hor⟩))
 have hu : RdB w (· < w.heap.size) (.slice none 0 0) [] := RdB.nil _ _
 obtain ⟨W0, hW0⟩ : ∃ W, W = w.alloc (.cells #[.int .i64 tx, .int .i64 tm, .int .i64 wa, .int .i64 fi, .slice eA ents.length eC, .slice dA dels.length dC, .slice pA pla.length pC, .slice rA rel.length rC, .slice qA pol.length qC, .slice hA hor.length hC] 29) := ⟨_, rfl⟩
 have hbW : Below w.heap.size w W0 := by rw [hW0]; exact Below.of_alloc _
 have HBW := Lib.hid hbW
 have HBL : Hid (w.heap.size < W0.heap.size) := Lib.hid (by rw [hW0]; simp)
 have HT : Hid (W0.heap[w.heap.size]? = some (.cells #[.int .i64 tx, .int .i64 tm, .int .i64 wa, .int .i64 fi, .slice eA ents.length eC, .slice dA dels.length dC, .slice pA pla.length pC, .slice rA rel.length rC, .slice qA pol.length qC, .slice hA hor.length hC] 29 (0, 0))) := Lib.hid (by rw [hW0]; exact heap_alloc_new _ _)
 have hR0 := hu.below hbW
 obtain ⟨hi, hw⟩ := hbx W0 hbW
 obtain ⟨z1, z2⟩ := hi.ents.bd
 obtain ⟨z3, z4⟩ := hi.dels.bd
 simp only at z1 z2 z3 z4
 have hl : (encC ⟨tx, tm, wa, fi, eA, eC, ents, dA, dC, dels, pA, pC, pla, rA, rC, rel, qA, qC, pol, hA, hC, hor⟩).length ≤ 100000000000 := by have := hw.len; omega
 have HIN : Hid ((1 ≤ tx ∧ tx ≤ 1125899906842624) ∧ (1 ≤ tm ∧ tm ≤ 1099511627775) ∧ (0 ≤ wa ∧ wa ≤ 1099511627775) ∧ (1 ≤ fi ∧ fi ≤ 1125899906842624)) := Lib.hid ⟨hw.tx, hw.time, hw.wall, hw.first⟩
 have HVE : Hid (RdE 16 REn.enc W0 (· < W0.heap.size) (.slice eA ents.length eC) ents) := Lib.hid hi.ents
 have HEN : Hid (∀ x ∈ ents, x.ok = true ∧ x.create.is W0 (· < W0.heap.size)) := Lib.hid (fun x hx => ⟨hw.eok x hx, (hi.entI x hx).create⟩)
 have HVD : Hid (RdE 3 RDl.enc W0 (· < W0.heap.size) (.slice dA dels.length dC) dels) := Lib.hid hi.dels
 have HDE : Hid (∀ x ∈ dels, delW W0 W0.heap.size x) := Lib.hid hw.dels
 have HVH : Hid (RdE 6 Hld.enc W0 (· < W0.heap.size) (.slice pA pla.length pC) pla) := Lib.hid hi.pla
 have HVP : Hid (RdE 2 Pol.enc W0 (· < W0.heap.size) (.slice qA pol.length qC) pol) := Lib.hid hi.pol
 have HVZ : Hid (RdE 2 Hor.enc W0 (· < W0.heap.size) (.slice hA hor.length hC) hor) := Lib.hid hi.hor
 have HVS : Hid (RdE 1 strE W0 (· < W0.heap.size) (.slice rA rel.length rC) rel) := Lib.hid hi.rel
 have HHB : Hid (∀ x ∈ pla, (x.name.size ≤ 300 ∧ x.table.size ≤ 300) ∧ ((0 ≤ x.vf ∧ x.vf < x.vt ∧ x.vt ≤ 1099511627776) ∧ 0 ≤ x.sf ∧ x.sf < x.st ∧ x.st ≤ 1099511627776)) := Lib.hid (fun x hx => by have := hw.pla x hx; exact ⟨by omega, this.2⟩)
 have HPB : Hid (∀ x ∈ pol, x.table.size ≤ 300 ∧ (0 ≤ x.keep ∧ x.keep ≤ 1099511627776)) := Lib.hid (fun x hx => by have := hw.pol x hx; omega)
 have HZB : Hid (∀ x ∈ hor, x.table.size ≤ 300 ∧ (0 ≤ x.time ∧ x.time ≤ 1099511627775)) := Lib.hid (fun x hx => by have := hw.hor x hx; omega)
 have HSB : Hid (∀ x ∈ rel, x.size ≤ 300) := Lib.hid (fun x hx => by have := hw.rel x hx; omega)
 obtain ⟨sL0, hsL0⟩ : ∃ L : List UInt8, L = [] := ⟨_, rfl⟩
 obtain ⟨sL1, hsL1⟩ : ∃ L, L = sL0 ++ encI tx := ⟨_, rfl⟩
 obtain ⟨sL2, hsL2⟩ : ∃ L, L = sL1 ++ encI tm := ⟨_, rfl⟩
 obtain ⟨sL3, hsL3⟩ : ∃ L, L = sL2 ++ encI wa := ⟨_, rfl⟩
 obtain ⟨sL4, hsL4⟩ : ∃ L, L = sL3 ++ encI fi := ⟨_, rfl⟩
 obtain ⟨sL5, hsL5⟩ : ∃ L, L = sL4 ++ (encI ents.length ++ ents.flatMap encEnt) := ⟨_, rfl⟩
 obtain ⟨sL6, hsL6⟩ : ∃ L, L = sL5 ++ encI dels.length := ⟨_, rfl⟩
 obtain ⟨sL7, hsL7⟩ : ∃ L, L = sL6 ++ dels.flatMap encDel := ⟨_, rfl⟩
 obtain ⟨sL8, hsL8⟩ : ∃ L, L = sL7 ++ (encH pla ++ (encS rel ++ (encP pol ++ encZ hor))) := ⟨_, rfl⟩
 have sE : sL8 = encC ⟨tx, tm, wa, fi, eA, eC, ents, dA, dC, dels, pA, pC, pla, rA, rC, rel, qA, qC, pol, hA, hC, hor⟩ := by rw [hsL8, hsL7, hsL6, hsL5, hsL4, hsL3, hsL2, hsL1, hsL0]; simp only [encC, encE, encD, List.append_assoc, List.nil_append]
 have sn8 : sL8.length ≤ 100000000000 := by rw [sE]; exact hl
 have sn7 : sL7.length ≤ 100000000000 := by have q := sn8; rw [hsL8, List.length_append] at q; omega
 have sn6 : sL6.length ≤ 100000000000 := by have q := sn7; rw [hsL7, List.length_append] at q; omega
 have sn5 : sL5.length ≤ 100000000000 := by have q := sn6; rw [hsL6, List.length_append] at q; omega
 have sn4 : sL4.length ≤ 100000000000 := by have q := sn5; rw [hsL5, List.length_append] at q; omega
 have sn3 : sL3.length ≤ 100000000000 := by have q := sn4; rw [hsL4, List.length_append] at q; omega
 have sn2 : sL2.length ≤ 100000000000 := by have q := sn3; rw [hsL3, List.length_append] at q; omega
 have sn1 : sL1.length ≤ 100000000000 := by have q := sn2; rw [hsL2, List.length_append] at q; omega
 have sn0 : sL0.length ≤ 100000000000 := by have q := sn1; rw [hsL1, List.length_append] at q; omega
 have sE := Lib.hid sE
 have sn0 := Lib.hid sn0
 have sn1 := Lib.hid sn1
 have sn2 := Lib.hid sn2
 have sn3 := Lib.hid sn3
 have sn4 := Lib.hid sn4
 have sn5 := Lib.hid sn5
 have sn6 := Lib.hid sn6
 have sn7 := Lib.hid sn7
 have sn8 := Lib.hid sn8
 have sK1 : ∀ v W, RdB W (· < W.heap.size) v sL0 → Below W0.heap.size W0 W → Calls Tryz.prog 113 #[v, .int .i64 tx] W (NewB W sL1) := fun v W h hW => by
  rw [hsL1]
  exact refPutInt_any v sL0 tx W (by have := HIN.out.1; omega) (by have := HIN.out.1; omega) h (by have := sn0.out; omega)
 have sK2 : ∀ v W, RdB W (· < W.heap.size) v sL1 → Below W0.heap.size W0 W → Calls Tryz.prog 113 #[v, .int .i64 tm] W (NewB W sL2) := fun v W h hW => by
  rw [hsL2]
  exact refPutInt_any v sL1 tm W (by have := HIN.out.2.1; omega) (by have := HIN.out.2.1; omega) h (by have := sn1.out; omega)
 have sK3 : ∀ v W, RdB W (· < W.heap.size) v sL2 → Below W0.heap.size W0 W → Calls Tryz.prog 113 #[v, .int .i64 wa] W (NewB W sL3) := fun v W h hW => by
  rw [hsL3]
  exact refPutInt_any v sL2 wa W (by have := HIN.out.2.2.1; omega) (by have := HIN.out.2.2.1; omega) h (by have := sn2.out; omega)
 have sK4 : ∀ v W, RdB W (· < W.heap.size) v sL3 → Below W0.heap.size W0 W → Calls Tryz.prog 113 #[v, .int .i64 fi] W (NewB W sL4) := fun v W h hW => by
  rw [hsL4]
  exact refPutInt_any v sL3 fi W (by have := HIN.out.2.2.2; omega) (by have := HIN.out.2.2.2; omega) h (by have := sn3.out; omega)
 have sK5 : ∀ v W, RdB W (· < W.heap.size) v sL4 → Below W0.heap.size W0 W → Calls Tryz.prog 114 #[v, .slice eA ents.length eC] W (NewB W sL5) := fun v W h hW => by
  rw [hsL5]
  exact refPutEntries_any v sL4 eA eC ents W h (HVE.out.below hW) (fun x hx => ⟨(HEN.out x hx).1, (HEN.out x hx).2.below hW⟩) (by have q := sn5.out; rw [hsL5] at q; exact q)
 have sK6 : ∀ v W, RdB W (· < W.heap.size) v sL5 → Below W0.heap.size W0 W → Calls Tryz.prog 113 #[v, .int .i64 (dels.length : Int)] W (NewB W sL6) := fun v W h hW => by
  rw [hsL6]
  exact refPutInt_any v sL5 dels.length W (by omega) (by omega) h (by have := sn5.out; omega)
 have hsL7 := Lib.hid hsL7
 have sK8 : ∀ v W, RdB W (· < W.heap.size) v sL7 → Below W0.heap.size W0 W → Calls Tryz.prog 117 #[v, .slice pA pla.length pC, .slice qA pol.length qC, .slice hA hor.length hC, .slice rA rel.length rC, .bool true] W (NewB W sL8) := fun v W h hW => by
  rw [hsL8]
  exact refPutRules_any v sL7 pA qA hA rA pC qC hC rC pla pol hor rel W h (HVH.out.below hW) (HVP.out.below hW) (HVZ.out.below hW) (HVS.out.below hW) HHB.out HPB.out HZB.out HSB.out (by have q := sn8.out; rw [hsL8] at q; exact q)
 clear hsL1 hsL2 hsL3 hsL4 hsL5 hsL6 hsL8
 rw [← hsL0] at hR0
 clear hsL0 hbW hl hu hi hw hbx
 go_enter Tryz.func59, Tryz.ntmps59
 go_wp2_with fail
 rw [← hW0]
 clear hW0
 refine wp_region_noPanic ?_
 refine wp_region_held_drew (S := (fun w' => Below W0.heap.size W0 w')) (by kernel_rfl) ?_ (fun hHeld => ?_)
 ·exact (Below.refl _ _).drew
 refine heldTake 0 (some 8) (v := ?_) rfl rfl (by kernel_rfl) (by kernel_rfl) (by kernel_rfl) (by rfl) hHeld (fun _ _ _ h => h) ?_ ?_
 rotate_left
 ·intro w' hSw; (try dsimp only at hSw); go_simp <;> with_reducible rfl
 simp only [Act.put, List.setIfInBounds_toArray, List.set_cons_zero, List.set_cons_succ]
 refine heldTake 1 (some 9) (v := ?_) rfl rfl (by kernel_rfl) (by kernel_rfl) (by kernel_rfl) (by rfl) hHeld (fun _ _ _ h => h) ?_ ?_
 rotate_left
 ·intro w' hSw; (try dsimp only at hSw); have q0 : w'.cell? ⟨w.heap.size, 0, none⟩ = some (.int .i64 tx) := cell_of_row w' _ 0 _ _ _ ((hSw.block _ HBL.out).trans HT.out); go_simp <;> with_reducible rfl
 simp only [Act.put, List.setIfInBounds_toArray, List.set_cons_zero, List.set_cons_succ]
 refine heldTake 3 (some 11) (v := ?_) rfl rfl (by kernel_rfl) (by kernel_rfl) (by kernel_rfl) (by rfl) hHeld (fun _ _ _ h => h) ?_ ?_
 rotate_left
 ·intro w' hSw; (try dsimp only at hSw); go_simp <;> with_reducible rfl
 simp only [Act.put, List.setIfInBounds_toArray, List.set_cons_zero, List.set_cons_succ]
 refine heldTake 4 (some 12) (v := ?_) rfl rfl (by kernel_rfl) (by kernel_rfl) (by kernel_rfl) (by rfl) hHeld (fun _ _ _ h => h) ?_ ?_
 rotate_left
 ·intro w' hSw; (try dsimp only at hSw); have q1 : w'.cell? ⟨w.heap.size, 1, none⟩ = some (.int .i64 tm) := cell_of_row w' _ 1 _ _ _ ((hSw.block _ HBL.out).trans HT.out); go_simp <;> with_reducible rfl
 simp only [Act.put, List.setIfInBounds_toArray, List.set_cons_zero, List.set_cons_succ]
 refine heldTake 6 (some 14) (v := ?_) rfl rfl (by kernel_rfl) (by kernel_rfl) (by kernel_rfl) (by rfl) hHeld (fun _ _ _ h => h) ?_ ?_
 rotate_left
 ·intro w' hSw; (try dsimp only at hSw); go_simp <;> with_reducible rfl
 simp only [Act.put, List.setIfInBounds_toArray, List.set_cons_zero, List.set_cons_succ]
 refine heldTake 7 (some 15) (v := ?_) rfl rfl (by kernel_rfl) (by kernel_rfl) (by kernel_rfl) (by rfl) hHeld (fun _ _ _ h => h) ?_ ?_
 rotate_left
 ·intro w' hSw; (try dsimp only at hSw); have q2 : w'.cell? ⟨w.heap.size, 2, none⟩ = some (.int .i64 wa) := cell_of_row w' _ 2 _ _ _ ((hSw.block _ HBL.out).trans HT.out); go_simp <;> with_reducible rfl
 simp only [Act.put, List.setIfInBounds_toArray, List.set_cons_zero, List.set_cons_succ]
 refine heldTake 9 (some 17) (v := ?_) rfl rfl (by kernel_rfl) (by kernel_rfl) (by kernel_rfl) (by rfl) hHeld (fun _ _ _ h => h) ?_ ?_
 rotate_left
 ·intro w' hSw; (try dsimp only at hSw); go_simp <;> with_reducible rfl
 simp only [Act.put, List.setIfInBounds_toArray, List.set_cons_zero, List.set_cons_succ]
 refine heldTake 10 (some 18) (v := ?_) rfl rfl (by kernel_rfl) (by kernel_rfl) (by kernel_rfl) (by rfl) hHeld (fun _ _ _ h => h) ?_ ?_
 rotate_left
 ·intro w' hSw; (try dsimp only at hSw); have q3 : w'.cell? ⟨w.heap.size, 3, none⟩ = some (.int .i64 fi) := cell_of_row w' _ 3 _ _ _ ((hSw.block _ HBL.out).trans HT.out); go_simp <;> with_reducible rfl
 simp only [Act.put, List.setIfInBounds_toArray, List.set_cons_zero, List.set_cons_succ]
 refine heldCall 2 (some 10) (f := ?_) (args := ?_) rfl rfl (by kernel_rfl) (by rfl) ?_ ?_
 rotate_left 2
 ·go_simp <;> first | (constructor <;> with_reducible rfl) | with_reducible rfl
 (with_reducible refine (sK1 _ _ (hR0.below (Below.refl _ _).drew) ((Below.refl W0.heap.size W0).trans ((Below.refl W0.heap.size W0).drew.mono (Below.refl W0.heap.size W0).size))).mono ?_)
 rintro _ y1 ⟨vy1, rfl, hOy1, hby1'⟩
 have hby1 : Below W0.heap.size W0 y1 := Below.undrew hby1'
 have hRy1 := hOy1.rd
 refine ⟨_, rfl, keepAnd ?_ (fun hNew => ?_)⟩
 ·exact hby1
 clear hHeld
 have hHeld := hNew
 clear hNew
 simp only [Act.put, List.setIfInBounds_toArray, List.set_cons_zero, List.set_cons_succ]
 refine heldCall 5 (some 13) (f := ?_) (args := ?_) rfl rfl (by kernel_rfl) (by rfl) ?_ ?_
 rotate_left 2
 ·go_simp <;> first | (constructor <;> with_reducible rfl) | with_reducible rfl
 (with_reducible refine (sK2 _ _ hRy1 ((Below.refl W0.heap.size W0).trans (hby1.mono (Below.refl W0.heap.size W0).size))).mono ?_)
 rintro _ y2 ⟨vy2, rfl, hOy2, hby2'⟩
 have hby2 : Below W0.heap.size W0 y2 := hby1.trans (hby2'.mono hby1.size)
 have hRy2 := hOy2.rd
 refine ⟨_, rfl, keepAnd ?_ (fun hNew => ?_)⟩
 ·exact hby2
 clear hHeld
 have hHeld := hNew
 clear hNew
 simp only [Act.put, List.setIfInBounds_toArray, List.set_cons_zero, List.set_cons_succ]
 refine heldCall 8 (some 16) (f := ?_) (args := ?_) rfl rfl (by kernel_rfl) (by rfl) ?_ ?_
 rotate_left 2
 ·go_simp <;> first | (constructor <;> with_reducible rfl) | with_reducible rfl
 (with_reducible refine (sK3 _ _ hRy2 ((Below.refl W0.heap.size W0).trans (hby2.mono (Below.refl W0.heap.size W0).size))).mono ?_)
 rintro _ y3 ⟨vy3, rfl, hOy3, hby3'⟩
 have hby3 : Below W0.heap.size W0 y3 := hby2.trans (hby3'.mono hby2.size)
 have hRy3 := hOy3.rd
 refine ⟨_, rfl, keepAnd ?_ (fun hNew => ?_)⟩
 ·exact hby3
 clear hHeld
 have hHeld := hNew
 clear hNew
 simp only [Act.put, List.setIfInBounds_toArray, List.set_cons_zero, List.set_cons_succ]
 refine heldCall 11 (some 19) (f := ?_) (args := ?_) rfl rfl (by kernel_rfl) (by rfl) ?_ ?_
 rotate_left 2
 ·go_simp <;> first | (constructor <;> with_reducible rfl) | with_reducible rfl
 (with_reducible refine (sK4 _ _ hRy3 ((Below.refl W0.heap.size W0).trans (hby3.mono (Below.refl W0.heap.size W0).size))).mono ?_)
 rintro _ y4 ⟨vy4, rfl, hOy4, hby4'⟩
 have hby4 : Below W0.heap.size W0 y4 := hby3.trans (hby4'.mono hby3.size)
 have hRy4 := hOy4.rd
 refine ⟨_, rfl, keepAnd ?_ (fun hNew => ?_)⟩
 ·exact hby4
 clear hHeld
 have hHeld := hNew
 clear hNew
 simp only [Act.put, List.setIfInBounds_toArray, List.set_cons_zero, List.set_cons_succ]
 refine heldTake 12 (some 3) (v := ?_) rfl rfl (by kernel_rfl) (by kernel_rfl) (by kernel_rfl) (by rfl) hHeld (fun _ _ _ h => h) ?_ ?_
 rotate_left
 ·intro w' hSw; (try dsimp only at hSw); go_simp <;> with_reducible rfl
 simp only [Act.put, List.setIfInBounds_toArray, List.set_cons_zero, List.set_cons_succ]
 refine wpAnyH_done (by kernel_rfl) ?_ _
 refine NoPanic.normal ?_
 clear hHeld
 have HA1 : Hid (AtB W0 y4 vy4 sL4) := Lib.hid (AtB.next ((Below.refl W0.heap.size W0).trans (hby3.mono (Below.refl W0.heap.size W0).size)) hOy4 hby4')
 clear hRy1 hby1 hby1' hOy1 hRy2 hby2 hby2' hOy2 hRy3 hby3 hby3' hOy3 hRy4 hby4 hby4' hOy4 sK1 sK2 sK3 sK4
 clear hR0
 go_wp2_with fail
 have hR2 := HA1.out.rd
 have HT2 := Lib.hid ((HA1.out.bel.block _ HBL.out).trans HT.out)
 have HBL2 : Hid (w.heap.size < y4.heap.size) := Lib.hid (Nat.lt_of_lt_of_le HBL.out HA1.out.bel.size)
 refine wp_region_noPanic ?_
 refine wp_region_held_drew (S := (fun w' => Below y4.heap.size y4 w')) (by kernel_rfl) ?_ (fun hHeld => ?_)
 ·exact (Below.refl _ _).drew
 refine heldTake 0 (some 20) (v := ?_) rfl rfl (by kernel_rfl) (by kernel_rfl) (by kernel_rfl) (by rfl) hHeld (fun _ _ _ h => h) ?_ ?_
 rotate_left
 ·intro w' hSw; (try dsimp only at hSw); go_simp <;> with_reducible rfl
 simp only [Act.put, List.setIfInBounds_toArray, List.set_cons_zero, List.set_cons_succ]
 refine heldTake 1 (some 21) (v := ?_) rfl rfl (by kernel_rfl) (by kernel_rfl) (by kernel_rfl) (by rfl) hHeld (fun _ _ _ h => h) ?_ ?_
 rotate_left
 ·intro w' hSw; (try dsimp only at hSw); go_simp <;> with_reducible rfl
 simp only [Act.put, List.setIfInBounds_toArray, List.set_cons_zero, List.set_cons_succ]
 refine heldTake 2 (some 22) (v := ?_) rfl rfl (by kernel_rfl) (by kernel_rfl) (by kernel_rfl) (by rfl) hHeld (fun _ _ _ h => h) ?_ ?_
 rotate_left
 ·intro w' hSw; (try dsimp only at hSw); have q4 : w'.cell? ⟨w.heap.size, 4, none⟩ = some (.slice eA ents.length eC) := cell_of_row w' _ 4 _ _ _ ((hSw.block _ HBL2.out).trans HT2.out); go_simp <;> with_reducible rfl
 simp only [Act.put, List.setIfInBounds_toArray, List.set_cons_zero, List.set_cons_succ]
 refine heldTake 4 (some 24) (v := ?_) rfl rfl (by kernel_rfl) (by kernel_rfl) (by kernel_rfl) (by rfl) hHeld (fun _ _ _ h => h) ?_ ?_
 rotate_left
 ·intro w' hSw; (try dsimp only at hSw); go_simp <;> with_reducible rfl
 simp only [Act.put, List.setIfInBounds_toArray, List.set_cons_zero, List.set_cons_succ]
 refine heldTake 5 (some 25) (v := ?_) rfl rfl (by kernel_rfl) (by kernel_rfl) (by kernel_rfl) (by rfl) hHeld (fun _ _ _ h => h) ?_ ?_
 rotate_left
 ·intro w' hSw; (try dsimp only at hSw); have q5 : w'.cell? ⟨w.heap.size, 5, none⟩ = some (.slice dA dels.length dC) := cell_of_row w' _ 5 _ _ _ ((hSw.block _ HBL2.out).trans HT2.out); go_simp <;> with_reducible rfl
 simp only [Act.put, List.setIfInBounds_toArray, List.set_cons_zero, List.set_cons_succ]
 refine heldTake 6 (some 26) (v := ?_) rfl rfl (by kernel_rfl) (by kernel_rfl) (by kernel_rfl) (by rfl) hHeld (fun _ _ _ h => h) ?_ ?_
 rotate_left
 ·intro w' hSw; (try dsimp only at hSw); go_simp <;> with_reducible rfl
 simp only [Act.put, List.setIfInBounds_toArray, List.set_cons_zero, List.set_cons_succ]
 refine heldCall 3 (some 23) (f := ?_) (args := ?_) rfl rfl (by kernel_rfl) (by rfl) ?_ ?_
 rotate_left 2
 ·go_simp <;> first | (constructor <;> with_reducible rfl) | with_reducible rfl
 (with_reducible refine (sK5 _ _ (hR2.below (Below.refl _ _).drew) (HA1.out.bel.trans ((Below.refl y4.heap.size y4).drew.mono HA1.out.bel.size))).mono ?_)
 rintro _ z1 ⟨vz1, rfl, hOz1, hbz1'⟩
 have hbz1 : Below y4.heap.size y4 z1 := Below.undrew hbz1'
 have hRz1 := hOz1.rd
 refine ⟨_, rfl, keepAnd ?_ (fun hNew => ?_)⟩
 ·exact hbz1
 clear hHeld
 have hHeld := hNew
 clear hNew
 simp only [Act.put, List.setIfInBounds_toArray, List.set_cons_zero, List.set_cons_succ]
 refine heldCall 7 (some 27) (f := ?_) (args := ?_) rfl rfl (by kernel_rfl) (by rfl) ?_ ?_
 rotate_left 2
 ·go_simp <;> first | (constructor <;> with_reducible rfl) | with_reducible rfl
 (with_reducible refine (sK6 _ _ hRz1 (HA1.out.bel.trans (hbz1.mono HA1.out.bel.size))).mono ?_)
 rintro _ z2 ⟨vz2, rfl, hOz2, hbz2'⟩
 have hbz2 : Below y4.heap.size y4 z2 := hbz1.trans (hbz2'.mono hbz1.size)
 have hRz2 := hOz2.rd
 refine ⟨_, rfl, keepAnd ?_ (fun hNew => ?_)⟩
 ·exact hbz2
 clear hHeld
 have hHeld := hNew
 clear hNew
 simp only [Act.put, List.setIfInBounds_toArray, List.set_cons_zero, List.set_cons_succ]
 refine heldTake 8 (some 3) (v := ?_) rfl rfl (by kernel_rfl) (by kernel_rfl) (by kernel_rfl) (by rfl) hHeld (fun _ _ _ h => h) ?_ ?_
 rotate_left
 ·intro w' hSw; (try dsimp only at hSw); go_simp <;> with_reducible rfl
 simp only [Act.put, List.setIfInBounds_toArray, List.set_cons_zero, List.set_cons_succ]
 refine wpAnyH_done (by kernel_rfl) ?_ _
 refine NoPanic.normal ?_
 clear hHeld
 have HA2 : Hid (AtB W0 z2 vz2 sL6) := Lib.hid (AtB.next (HA1.out.bel.trans (hbz1.mono HA1.out.bel.size)) hOz2 hbz2')
 clear hRz1 hbz1 hbz1' hOz1 hRz2 hbz2 hbz2' hOz2 sK5 sK6
 clear hR2 HT2 HBL2
 have hT3 := (HA2.out.bel.block _ HBL.out).trans HT.out
 have c5 : z2.cell? ⟨w.heap.size, 5, none⟩ = some (.slice dA dels.length dC) := cell_of_row z2 _ 5 _ _ _ hT3
 clear hT3
 go_wp2_with fail
 clear c5
 go_loopw [3, 31] (fun b i wr => ∃ k : Nat, i = .int .i64 (k : Int) ∧ k ≤ dels.length ∧ Hid (AtB W0 wr b (sL6 ++ (dels.take k).flatMap encDel))) (fun _ i _ => dels.length - (intOf i).toNat)
 case atStart => exact ⟨0, rfl, Nat.zero_le _, Lib.hid (HA2.out.cast (by rw [List.take_zero, List.flatMap_nil, List.append_nil]))⟩
 case round =>
  clear HA2
  obtain ⟨kd, rfl, hkd, HAid⟩ := hrel
  obtain ⟨wid, rfl⟩ : ∃ wid : World, wid = wr := ⟨_, rfl⟩
  by_cases hltd : kd < dels.length
  case neg =>
   have hltZ : ¬ (kd : Int) < (dels.length : Int) := by omega
   have HFd := Lib.hid (HAid.out.cast (show sL6 ++ (dels.take kd).flatMap encDel = sL7 by rw [List.take_of_length_le (by omega), hsL7.out]))
   clear HAid
   have hT3 := (HFd.out.bel.block _ HBL.out).trans HT.out
   have c6 : wid.cell? ⟨w.heap.size, 6, none⟩ = some (.slice pA pla.length pC) := cell_of_row wid _ 6 _ _ _ hT3
   clear hT3
   have hT3 := (HFd.out.bel.block _ HBL.out).trans HT.out
   have c7 : wid.cell? ⟨w.heap.size, 7, none⟩ = some (.slice rA rel.length rC) := cell_of_row wid _ 7 _ _ _ hT3
   clear hT3
   have hT3 := (HFd.out.bel.block _ HBL.out).trans HT.out
   have c8 : wid.cell? ⟨w.heap.size, 8, none⟩ = some (.slice qA pol.length qC) := cell_of_row wid _ 8 _ _ _ hT3
   clear hT3
   have hT3 := (HFd.out.bel.block _ HBL.out).trans HT.out
   have c9 : wid.cell? ⟨w.heap.size, 9, none⟩ = some (.slice hA hor.length hC) := cell_of_row wid _ 9 _ _ _ hT3
   clear hT3
   have KC := sK8 _ _ HFd.out.rd HFd.out.bel
   go_wp2_with fail
   (with_reducible refine KC.mono ?_)
   rintro _ y9 ⟨vy9, rfl, hO, hb⟩
   have HA9 : Hid (AtB W0 y9 vy9 sL8) := Lib.hid (AtB.next HFd.out.bel hO hb)
   clear KC hO hb sK8
   clear c6 c7 c8 c9
   go_wp2_with fail
   go_ret
   exact HA9.out.done HBW.out (by rw [sE.out] <;> first | rfl | (simp only [List.append_assoc]; done) | (simp [*, List.append_assoc]; done))
  case pos =>
   have hltZ : (kd : Int) < (dels.length : Int) := by omega
   have hBi := HAid.out.bel
   obtain ⟨bd, offd, rfl, hF, hcl⟩ := RdE.at_ (K := 3) (enc := RDl.enc) (fun _ => rfl) (by omega) (HVD.out.keep (Keeps.below hBi)) hltd
   have hcx := hcl kd hltd
   have hmem := List.getElem_mem hltd
   have hsn := flat_snoc encDel hltd
   have hle := flat_le encDel hltd
   obtain ⟨xd, hx⟩ : ∃ x, x = dels[kd] := ⟨_, rfl⟩
   rw [← hx] at hcx hmem hsn hle
   obtain ⟨Lkd, hLk⟩ : ∃ L, L = sL6 ++ (dels.take kd).flatMap encDel := ⟨_, rfl⟩
   have hM : (Lkd ++ encDel xd).length ≤ 100000000000 := by
    have q := sn7.out
    rw [hsL7.out] at q
    rw [hLk]
    simp only [List.length_append] at q ⊢
    omega
   have hS : sL6 ++ (dels.take (kd + 1)).flatMap encDel = Lkd ++ encDel xd := by rw [hsn, ← List.append_assoc, ← hLk]
   have HBid := Lib.hid hBi
   have hRi := HAid.out.rd
   rw [← hLk] at hRi
   clear hcl hx hF hsn hle hBi hLk HAid
   have HDW := HDE.out _ hmem
   obtain ⟨dn, dA2, dc2, dcl, oA2, oc2, dops⟩ := xd
   have HDN : Hid (dn.size ≤ 300) := Lib.hid HDW.nm
   have HDC : Hid (RdE 1 intE W0 (· < W0.heap.size) (.slice dA2 dcl.length dc2) dcl) := Lib.hid HDW.cl
   have HDB : Hid (∀ n ∈ dcl, (-9223372036854775808 ≤ n ∧ n ≤ 9223372036854775807)) := Lib.hid HDW.clB
   have HVO : Hid (RdE 3 RF.enc W0 (· < W0.heap.size) (.slice oA2 dops.length oc2) dops) := Lib.hid HDW.ops
   have HDO : Hid (∀ x ∈ dops, facW W0 W0.heap.size x) := Lib.hid HDW.opB
   obtain ⟨z7, z8⟩ := HDW.ops.bd
   obtain ⟨z9, z10⟩ := HDW.cl.bd
   simp only at z7 z8 z9 z10
   clear HDW
   have HSd : Hid (sL6 ++ (dels.take (kd + 1)).flatMap encDel = Lkd ++ encDel ⟨dn, dA2, dc2, dcl, oA2, oc2, dops⟩) := Lib.hid hS
   have hM : (Lkd ++ encDel ⟨dn, dA2, dc2, dcl, oA2, oc2, dops⟩).length ≤ 100000000000 := hM
   have gd0 : wid.cell? ⟨bd, offd + kd * 3, none⟩ = some (.string dn) := hcx 0 _ (by decide) rfl
   have gd1 : wid.cell? ⟨bd, offd + kd * 3 + 1, none⟩ = some (.slice dA2 dcl.length dc2) := hcx 1 _ (by decide) rfl
   have gd2 : wid.cell? ⟨bd, offd + kd * 3 + 2, none⟩ = some (.slice oA2 dops.length oc2) := hcx 2 _ (by decide) rfl
   clear hcx hS hmem
   obtain ⟨wbd, hwbd⟩ : ∃ W, W = wid.alloc (.cells #[.string dn, .slice dA2 dcl.length dc2, .slice oA2 dops.length oc2] 63) := ⟨_, rfl⟩
   have hbb : Below wid.heap.size wid wbd := by rw [hwbd]; exact Below.of_alloc _
   have HBbd : Hid (Below W0.heap.size W0 wbd) := Lib.hid (HBid.out.trans (hbb.mono HBid.out.size))
   have HXLd : Hid (wid.heap.size < wbd.heap.size) := Lib.hid (by rw [hwbd]; simp)
   have HXd : Hid (wbd.heap[wid.heap.size]? = some (.cells #[.string dn, .slice dA2 dcl.length dc2, .slice oA2 dops.length oc2] 63 (0, 0))) := Lib.hid (by rw [hwbd]; exact heap_alloc_new _ _)
   have hRbd := hRi.below hbb
   clear hbb hRi
   obtain ⟨dL1, hdL1⟩ : ∃ L, L = Lkd ++ (encI dn.size ++ dn.data.toList) := ⟨_, rfl⟩
   obtain ⟨dL2, hdL2⟩ : ∃ L, L = dL1 ++ (encI dcl.length ++ dcl.flatMap encI) := ⟨_, rfl⟩
   obtain ⟨dL3, hdL3⟩ : ∃ L, L = dL2 ++ encI dops.length := ⟨_, rfl⟩
   obtain ⟨dL4, hdL4⟩ : ∃ L, L = dL3 ++ dops.flatMap encF := ⟨_, rfl⟩
   have dE : dL4 = Lkd ++ encDel ⟨dn, dA2, dc2, dcl, oA2, oc2, dops⟩ := by rw [hdL4, hdL3, hdL2, hdL1]; simp only [encDel, List.append_assoc]
   have dn4 : dL4.length ≤ 100000000000 := by rw [dE]; exact hM
   have dn3 : dL3.length ≤ 100000000000 := by have q := dn4; rw [hdL4, List.length_append] at q; omega
   have dn2 : dL2.length ≤ 100000000000 := by have q := dn3; rw [hdL3, List.length_append] at q; omega
   have dn1 : dL1.length ≤ 100000000000 := by have q := dn2; rw [hdL2, List.length_append] at q; omega
   have dn0 : Lkd.length ≤ 100000000000 := by have q := dn1; rw [hdL1, List.length_append] at q; omega
   have dE := Lib.hid dE
   have dn0 := Lib.hid dn0
   have dn1 := Lib.hid dn1
   have dn2 := Lib.hid dn2
   have dn3 := Lib.hid dn3
   have dn4 := Lib.hid dn4
   have dK1 : ∀ v W, RdB W (· < W.heap.size) v Lkd → Below W0.heap.size W0 W → Calls Tryz.prog 116 #[v, .string dn] W (NewB W dL1) := fun v W h hW => by
    rw [hdL1]
    exact refPutText_any v Lkd dn W h (by have q1 := dn0.out; have q2 : dn.size ≤ 300 := HDN.out; omega)
   have dK2 : ∀ v W, RdB W (· < W.heap.size) v dL1 → Below W0.heap.size W0 W → Calls Tryz.prog 157 #[v, .slice dA2 dcl.length dc2] W (NewB W dL2) := fun v W h hW => by
    rw [hdL2]
    exact refPutInts_any v dL1 dA2 dc2 dcl W h (HDC.out.below hW) HDB.out (by have q := dn2.out; rw [hdL2] at q; exact q)
   have dK3 : ∀ v W, RdB W (· < W.heap.size) v dL2 → Below W0.heap.size W0 W → Calls Tryz.prog 113 #[v, .int .i64 (dops.length : Int)] W (NewB W dL3) := fun v W h hW => by
    rw [hdL3]
    exact refPutInt_any v dL2 dops.length W (by omega) (by omega) h (by have := dn2.out; omega)
   have hdL4 := Lib.hid hdL4
   clear hdL1 hdL2 hdL3
   clear hM
   go_wp2_with fail
   rw [← hwbd]
   clear hwbd
   refine wp_region_noPanic ?_
   refine wp_region_held_drew (S := (fun w' => Below wbd.heap.size wbd w')) (by kernel_rfl) ?_ (fun hHeld => ?_)
   ·exact (Below.refl _ _).drew
   refine heldTake 0 (some 35) (v := ?_) rfl rfl (by kernel_rfl) (by kernel_rfl) (by kernel_rfl) (by rfl) hHeld (fun _ _ _ h => h) ?_ ?_
   rotate_left
   ·intro w' hSw; (try dsimp only at hSw); go_simp <;> with_reducible rfl
   simp only [Act.put, List.setIfInBounds_toArray, List.set_cons_zero, List.set_cons_succ]
   refine heldTake 1 (some 36) (v := ?_) rfl rfl (by kernel_rfl) (by kernel_rfl) (by kernel_rfl) (by rfl) hHeld (fun _ _ _ h => h) ?_ ?_
   rotate_left
   ·intro w' hSw; (try dsimp only at hSw); go_simp <;> with_reducible rfl
   simp only [Act.put, List.setIfInBounds_toArray, List.set_cons_zero, List.set_cons_succ]
   refine heldTake 2 (some 37) (v := ?_) rfl rfl (by kernel_rfl) (by kernel_rfl) (by kernel_rfl) (by rfl) hHeld (fun _ _ _ h => h) ?_ ?_
   rotate_left
   ·intro w' hSw; (try dsimp only at hSw); have q0 : w'.cell? ⟨wid.heap.size, 0, none⟩ = some (.string dn) := cell_of_row w' _ 0 _ _ _ ((hSw.block _ HXLd.out).trans HXd.out); go_simp <;> with_reducible rfl
   simp only [Act.put, List.setIfInBounds_toArray, List.set_cons_zero, List.set_cons_succ]
   refine heldTake 4 (some 39) (v := ?_) rfl rfl (by kernel_rfl) (by kernel_rfl) (by kernel_rfl) (by rfl) hHeld (fun _ _ _ h => h) ?_ ?_
   rotate_left
   ·intro w' hSw; (try dsimp only at hSw); go_simp <;> with_reducible rfl
   simp only [Act.put, List.setIfInBounds_toArray, List.set_cons_zero, List.set_cons_succ]
   refine heldTake 5 (some 40) (v := ?_) rfl rfl (by kernel_rfl) (by kernel_rfl) (by kernel_rfl) (by rfl) hHeld (fun _ _ _ h => h) ?_ ?_
   rotate_left
   ·intro w' hSw; (try dsimp only at hSw); have q1 : w'.cell? ⟨wid.heap.size, 1, none⟩ = some (.slice dA2 dcl.length dc2) := cell_of_row w' _ 1 _ _ _ ((hSw.block _ HXLd.out).trans HXd.out); go_simp <;> with_reducible rfl
   simp only [Act.put, List.setIfInBounds_toArray, List.set_cons_zero, List.set_cons_succ]
   refine heldTake 7 (some 42) (v := ?_) rfl rfl (by kernel_rfl) (by kernel_rfl) (by kernel_rfl) (by rfl) hHeld (fun _ _ _ h => h) ?_ ?_
   rotate_left
   ·intro w' hSw; (try dsimp only at hSw); go_simp <;> with_reducible rfl
   simp only [Act.put, List.setIfInBounds_toArray, List.set_cons_zero, List.set_cons_succ]
   refine heldTake 8 (some 43) (v := ?_) rfl rfl (by kernel_rfl) (by kernel_rfl) (by kernel_rfl) (by rfl) hHeld (fun _ _ _ h => h) ?_ ?_
   rotate_left
   ·intro w' hSw; (try dsimp only at hSw); have q2 : w'.cell? ⟨wid.heap.size, 2, none⟩ = some (.slice oA2 dops.length oc2) := cell_of_row w' _ 2 _ _ _ ((hSw.block _ HXLd.out).trans HXd.out); go_simp <;> with_reducible rfl
   simp only [Act.put, List.setIfInBounds_toArray, List.set_cons_zero, List.set_cons_succ]
   refine heldTake 9 (some 44) (v := ?_) rfl rfl (by kernel_rfl) (by kernel_rfl) (by kernel_rfl) (by rfl) hHeld (fun _ _ _ h => h) ?_ ?_
   rotate_left
   ·intro w' hSw; (try dsimp only at hSw); go_simp <;> with_reducible rfl
   simp only [Act.put, List.setIfInBounds_toArray, List.set_cons_zero, List.set_cons_succ]
   refine heldCall 3 (some 38) (f := ?_) (args := ?_) rfl rfl (by kernel_rfl) (by rfl) ?_ ?_
   rotate_left 2
   ·go_simp <;> first | (constructor <;> with_reducible rfl) | with_reducible rfl
   (with_reducible refine (dK1 _ _ (hRbd.below (Below.refl _ _).drew) (HBbd.out.trans ((Below.refl wbd.heap.size wbd).drew.mono HBbd.out.size))).mono ?_)
   rintro _ t1 ⟨vt1, rfl, hOt1, hbt1'⟩
   have hbt1 : Below wbd.heap.size wbd t1 := Below.undrew hbt1'
   have hRt1 := hOt1.rd
   refine ⟨_, rfl, keepAnd ?_ (fun hNew => ?_)⟩
   ·exact hbt1
   clear hHeld
   have hHeld := hNew
   clear hNew
   simp only [Act.put, List.setIfInBounds_toArray, List.set_cons_zero, List.set_cons_succ]
   refine heldCall 6 (some 41) (f := ?_) (args := ?_) rfl rfl (by kernel_rfl) (by rfl) ?_ ?_
   rotate_left 2
   ·go_simp <;> first | (constructor <;> with_reducible rfl) | with_reducible rfl
   (with_reducible refine (dK2 _ _ hRt1 (HBbd.out.trans (hbt1.mono HBbd.out.size))).mono ?_)
   rintro _ t2 ⟨vt2, rfl, hOt2, hbt2'⟩
   have hbt2 : Below wbd.heap.size wbd t2 := hbt1.trans (hbt2'.mono hbt1.size)
   have hRt2 := hOt2.rd
   refine ⟨_, rfl, keepAnd ?_ (fun hNew => ?_)⟩
   ·exact hbt2
   clear hHeld
   have hHeld := hNew
   clear hNew
   simp only [Act.put, List.setIfInBounds_toArray, List.set_cons_zero, List.set_cons_succ]
   refine heldCall 10 (some 45) (f := ?_) (args := ?_) rfl rfl (by kernel_rfl) (by rfl) ?_ ?_
   rotate_left 2
   ·go_simp <;> first | (constructor <;> with_reducible rfl) | with_reducible rfl
   (with_reducible refine (dK3 _ _ hRt2 (HBbd.out.trans (hbt2.mono HBbd.out.size))).mono ?_)
   rintro _ t3 ⟨vt3, rfl, hOt3, hbt3'⟩
   have hbt3 : Below wbd.heap.size wbd t3 := hbt2.trans (hbt3'.mono hbt2.size)
   have hRt3 := hOt3.rd
   refine ⟨_, rfl, keepAnd ?_ (fun hNew => ?_)⟩
   ·exact hbt3
   clear hHeld
   have hHeld := hNew
   clear hNew
   simp only [Act.put, List.setIfInBounds_toArray, List.set_cons_zero, List.set_cons_succ]
   refine heldTake 11 (some 3) (v := ?_) rfl rfl (by kernel_rfl) (by kernel_rfl) (by kernel_rfl) (by rfl) hHeld (fun _ _ _ h => h) ?_ ?_
   rotate_left
   ·intro w' hSw; (try dsimp only at hSw); go_simp <;> with_reducible rfl
   simp only [Act.put, List.setIfInBounds_toArray, List.set_cons_zero, List.set_cons_succ]
   refine wpAnyH_done (by kernel_rfl) ?_ _
   refine NoPanic.normal ?_
   clear hHeld
   have HWB := Lib.hid hbt3
   have HAt : Hid (AtB W0 t3 vt3 dL3) := Lib.hid (AtB.next (HBbd.out.trans (hbt2.mono HBbd.out.size)) hOt3 hbt3')
   clear hRt1 hbt1 hbt1' hOt1 hRt2 hbt2 hbt2' hOt2 hRt3 hbt3 hbt3' hOt3 dK1 dK2 dK3
   clear hRbd
   have hT3 := (HWB.out.block _ HXLd.out).trans HXd.out
   have e2 : t3.cell? ⟨wid.heap.size, 2, none⟩ = some (.slice oA2 dops.length oc2) := cell_of_row t3 _ 2 _ _ _ hT3
   clear hT3
   go_wp2_with fail
   clear e2
   go_loopw [3, 49] (fun b i wr => ∃ k : Nat, i = .int .i64 (k : Int) ∧ k ≤ dops.length ∧ Hid (AtB W0 wr b (dL3 ++ (dops.take k).flatMap encF))) (fun _ i _ => dops.length - (intOf i).toNat)
   case atStart => exact ⟨0, rfl, Nat.zero_le _, Lib.hid (HAt.out.cast (by rw [List.take_zero, List.flatMap_nil, List.append_nil]))⟩
   case round =>
    clear HAt
    obtain ⟨kf, rfl, hkf, HAif⟩ := hrel
    obtain ⟨wif, rfl⟩ : ∃ wif : World, wif = wr := ⟨_, rfl⟩
    by_cases hltf : kf < dops.length
    case neg =>
     have hltZ : ¬ (kf : Int) < (dops.length : Int) := by omega
     have HFf := Lib.hid (HAif.out.cast (show dL3 ++ (dops.take kf).flatMap encF = dL4 by rw [List.take_of_length_le (by omega), hdL4.out]))
     clear HAif
     have HAnd := Lib.hid (HFf.out.cast dE.out)
     go_wp2_with fail
     go_roundw
     case rel => exact ⟨kd + 1, by go_num, by omega, Lib.hid (HAnd.out.cast HSd.out.symm)⟩
     case measure => simp [intOf]; omega
    case pos =>
     have hltZ : (kf : Int) < (dops.length : Int) := by omega
     have hBi := HAif.out.bel
     obtain ⟨bf, offf, rfl, hF, hcl⟩ := RdE.at_ (K := 3) (enc := RF.enc) (fun _ => rfl) (by omega) (HVO.out.keep (Keeps.below hBi)) hltf
     have hcx := hcl kf hltf
     have hmem := List.getElem_mem hltf
     have hsn := flat_snoc encF hltf
     have hle := flat_le encF hltf
     obtain ⟨xf, hx⟩ : ∃ x, x = dops[kf] := ⟨_, rfl⟩
     rw [← hx] at hcx hmem hsn hle
     obtain ⟨Lkf, hLk⟩ : ∃ L, L = dL3 ++ (dops.take kf).flatMap encF := ⟨_, rfl⟩
     have hM : (Lkf ++ encF xf).length ≤ 100000000000 := by
      have q := dn4.out
      rw [hdL4.out] at q
      rw [hLk]
      simp only [List.length_append] at q ⊢
      omega
     have hS : dL3 ++ (dops.take (kf + 1)).flatMap encF = Lkf ++ encF xf := by rw [hsn, ← List.append_assoc, ← hLk]
     have HBif := Lib.hid hBi
     have hRi := HAif.out.rd
     rw [← hLk] at hRi
     clear hcl hx hF hsn hle hBi hLk HAif
     have HFW := Lib.hid (HDO.out _ hmem)
     obtain ⟨rA2, rn2, rc2, row2, v2, t2⟩ := xf
     have HSf : Hid (dL3 ++ (dops.take (kf + 1)).flatMap encF = Lkf ++ encF ⟨rA2, rn2, rc2, row2, v2, t2⟩) := Lib.hid hS
     have hM : (Lkf ++ encF ⟨rA2, rn2, rc2, row2, v2, t2⟩).length ≤ 100000000000 := hM
     have gf0 : wif.cell? ⟨bf, offf + kf * 3, none⟩ = some (.slice rA2 rn2 rc2) := hcx 0 _ (by decide) rfl
     have gf1 : wif.cell? ⟨bf, offf + kf * 3 + 1, none⟩ = some (.int .i64 v2) := hcx 1 _ (by decide) rfl
     have gf2 : wif.cell? ⟨bf, offf + kf * 3 + 2, none⟩ = some (.int .i64 t2) := hcx 2 _ (by decide) rfl
     clear hcx hS hmem
     obtain ⟨wbf, hwbf⟩ : ∃ W, W = wif.alloc (.cells #[.slice rA2 rn2 rc2, .int .i64 v2, .int .i64 t2] 68) := ⟨_, rfl⟩
     have hbb : Below wif.heap.size wif wbf := by rw [hwbf]; exact Below.of_alloc _
     have HBbf : Hid (Below W0.heap.size W0 wbf) := Lib.hid (HBif.out.trans (hbb.mono HBif.out.size))
     have HXLf : Hid (wif.heap.size < wbf.heap.size) := Lib.hid (by rw [hwbf]; simp)
     have HXf : Hid (wbf.heap[wif.heap.size]? = some (.cells #[.slice rA2 rn2 rc2, .int .i64 v2, .int .i64 t2] 68 (0, 0))) := Lib.hid (by rw [hwbf]; exact heap_alloc_new _ _)
     have hRbf := hRi.below hbb
     clear hbb hRi
     obtain ⟨fL1, hfL1⟩ : ∃ L, L = Lkf ++ encR row2 := ⟨_, rfl⟩
     obtain ⟨fL2, hfL2⟩ : ∃ L, L = fL1 ++ (encI v2 ++ encI t2) := ⟨_, rfl⟩
     have fE : fL2 = Lkf ++ encF ⟨rA2, rn2, rc2, row2, v2, t2⟩ := by rw [hfL2, hfL1]; simp only [encF, List.append_assoc]
     have fn2 : fL2.length ≤ 100000000000 := by rw [fE]; exact hM
     have fn1 : fL1.length ≤ 100000000000 := by have q := fn2; rw [hfL2, List.length_append] at q; omega
     have fn0 : Lkf.length ≤ 100000000000 := by have q := fn1; rw [hfL1, List.length_append] at q; omega
     have fE := Lib.hid fE
     have fn0 := Lib.hid fn0
     have fn1 := Lib.hid fn1
     have fn2 := Lib.hid fn2
     have fK1 : ∀ v W, RdB W (· < W.heap.size) v Lkf → Below W0.heap.size W0 W → Calls Tryz.prog 159 #[v, .slice rA2 rn2 rc2] W (NewB W fL1) := fun v W h hW => by
      rw [hfL1]
      exact refPutRow_any v _ Lkf row2 W h ((Rd.keep HFW.out.rd (Keeps.below hW)).wide (fun b (hb : b < W0.heap.size) => by show b < W.heap.size; have := hW.size; omega)) HFW.out.ok (by have q1 := fn0.out; have q2 : (encR row2).length ≤ 4000 := HFW.out.len; omega)
     have fK2 : ∀ v W, RdB W (· < W.heap.size) v fL1 → Below W0.heap.size W0 W → Calls Tryz.prog 158 #[v, .agg #[.int .i64 v2, .int .i64 t2]] W (NewB W fL2) := fun v W h hW => by
      rw [hfL2]
      exact refPutPeriod_any v fL1 v2 t2 W HFW.out.vf.1 HFW.out.vf.2 HFW.out.vt.1 HFW.out.vt.2 h (by have := fn1.out; omega)
     clear hfL1 hfL2
     clear hM
     go_wp2_with fail
     rw [← hwbf]
     clear hwbf
     refine wp_region_noPanic ?_
     refine wp_region_held_drew (S := (fun w' => Below wbf.heap.size wbf w')) (by kernel_rfl) ?_ (fun hHeld => ?_)
     ·exact (Below.refl _ _).drew
     refine heldTake 0 (some 53) (v := ?_) rfl rfl (by kernel_rfl) (by kernel_rfl) (by kernel_rfl) (by rfl) hHeld (fun _ _ _ h => h) ?_ ?_
     rotate_left
     ·intro w' hSw; (try dsimp only at hSw); go_simp <;> with_reducible rfl
     simp only [Act.put, List.setIfInBounds_toArray, List.set_cons_zero, List.set_cons_succ]
     refine heldTake 1 (some 54) (v := ?_) rfl rfl (by kernel_rfl) (by kernel_rfl) (by kernel_rfl) (by rfl) hHeld (fun _ _ _ h => h) ?_ ?_
     rotate_left
     ·intro w' hSw; (try dsimp only at hSw); go_simp <;> with_reducible rfl
     simp only [Act.put, List.setIfInBounds_toArray, List.set_cons_zero, List.set_cons_succ]
     refine heldTake 2 (some 55) (v := ?_) rfl rfl (by kernel_rfl) (by kernel_rfl) (by kernel_rfl) (by rfl) hHeld (fun _ _ _ h => h) ?_ ?_
     rotate_left
     ·intro w' hSw; (try dsimp only at hSw); have q0 : w'.cell? ⟨wif.heap.size, 0, none⟩ = some (.slice rA2 rn2 rc2) := cell_of_row w' _ 0 _ _ _ ((hSw.block _ HXLf.out).trans HXf.out); go_simp <;> with_reducible rfl
     simp only [Act.put, List.setIfInBounds_toArray, List.set_cons_zero, List.set_cons_succ]
     refine heldTake 4 (some 57) (v := ?_) rfl rfl (by kernel_rfl) (by kernel_rfl) (by kernel_rfl) (by rfl) hHeld (fun _ _ _ h => h) ?_ ?_
     rotate_left
     ·intro w' hSw; (try dsimp only at hSw); go_simp <;> with_reducible rfl
     simp only [Act.put, List.setIfInBounds_toArray, List.set_cons_zero, List.set_cons_succ]
     refine heldTake 5 (some 58) (v := ?_) rfl rfl (by kernel_rfl) (by kernel_rfl) (by kernel_rfl) (by rfl) hHeld (fun _ _ _ h => h) ?_ ?_
     rotate_left
     ·intro w' hSw; (try dsimp only at hSw); have q1 : w'.cell? ⟨wif.heap.size, 1, none⟩ = some (.int .i64 v2) := cell_of_row w' _ 1 _ _ _ ((hSw.block _ HXLf.out).trans HXf.out); have q2 : w'.cell? ⟨wif.heap.size, 2, none⟩ = some (.int .i64 t2) := cell_of_row w' _ 2 _ _ _ ((hSw.block _ HXLf.out).trans HXf.out); go_simp <;> with_reducible rfl
     simp only [Act.put, List.setIfInBounds_toArray, List.set_cons_zero, List.set_cons_succ]
     refine heldCall 3 (some 56) (f := ?_) (args := ?_) rfl rfl (by kernel_rfl) (by rfl) ?_ ?_
     rotate_left 2
     ·go_simp <;> first | (constructor <;> with_reducible rfl) | with_reducible rfl
     (with_reducible refine (fK1 _ _ (hRbf.below (Below.refl _ _).drew) (HBbf.out.trans ((Below.refl wbf.heap.size wbf).drew.mono HBbf.out.size))).mono ?_)
     rintro _ q1 ⟨vq1, rfl, hOq1, hbq1'⟩
     have hbq1 : Below wbf.heap.size wbf q1 := Below.undrew hbq1'
     have hRq1 := hOq1.rd
     refine ⟨_, rfl, keepAnd ?_ (fun hNew => ?_)⟩
     ·exact hbq1
     clear hHeld
     have hHeld := hNew
     clear hNew
     simp only [Act.put, List.setIfInBounds_toArray, List.set_cons_zero, List.set_cons_succ]
     refine heldCall 6 (some 59) (f := ?_) (args := ?_) rfl rfl (by kernel_rfl) (by rfl) ?_ ?_
     rotate_left 2
     ·go_simp <;> first | (constructor <;> with_reducible rfl) | with_reducible rfl
     (with_reducible refine (fK2 _ _ hRq1 (HBbf.out.trans (hbq1.mono HBbf.out.size))).mono ?_)
     rintro _ q2 ⟨vq2, rfl, hOq2, hbq2'⟩
     have hbq2 : Below wbf.heap.size wbf q2 := hbq1.trans (hbq2'.mono hbq1.size)
     have hRq2 := hOq2.rd
     refine ⟨_, rfl, keepAnd ?_ (fun hNew => ?_)⟩
     ·exact hbq2
     clear hHeld
     have hHeld := hNew
     clear hNew
     simp only [Act.put, List.setIfInBounds_toArray, List.set_cons_zero, List.set_cons_succ]
     refine heldTake 7 (some 3) (v := ?_) rfl rfl (by kernel_rfl) (by kernel_rfl) (by kernel_rfl) (by rfl) hHeld (fun _ _ _ h => h) ?_ ?_
     rotate_left
     ·intro w' hSw; (try dsimp only at hSw); go_simp <;> with_reducible rfl
     simp only [Act.put, List.setIfInBounds_toArray, List.set_cons_zero, List.set_cons_succ]
     refine wpAnyH_done (by kernel_rfl) ?_ _
     refine NoPanic.normal ?_
     clear hHeld
     have HAq : Hid (AtB W0 q2 vq2 fL2) := Lib.hid (AtB.next (HBbf.out.trans (hbq1.mono HBbf.out.size)) hOq2 hbq2')
     clear hRq1 hbq1 hbq1' hOq1 hRq2 hbq2 hbq2' hOq2 fK1 fK2
     have HAnf := Lib.hid (HAq.out.cast fE.out)
     clear hRbf HAq
     go_wp2_with fail
     go_roundw
     case rel => exact ⟨kf + 1, by go_num, by omega, Lib.hid (HAnf.out.cast HSf.out.symm)⟩
     case measure => simp [intOf]; omega
set_option maxRecDepth 1000000 in
set_option maxHeartbeats 16000000 in
theorem refEncode_any (c : RCm) (w : World) (hc : c.is w (· < w.heap.size)) (hl : c.lim w) : Calls Tryz.prog 15 #[.agg c.enc.toArray] w (EncCO c w) := by
 obtain ⟨k, hk⟩ : ∃ k, k = checkF c := ⟨_, rfl⟩
 have HK := Lib.hid hk
 have KCa : ∀ W : World, Below w.heap.size w W → Calls Tryz.prog 12 #[.agg c.enc.toArray] W fun e w' => e = .returned (.int .i64 (checkF c)) ∧ Below W.heap.size W w' := fun W h => kcheck_any c W (hc.below h) (hl.below h)
 have KBa : k = 0 → ∀ W : World, Below w.heap.size w W → Calls Tryz.prog 59 #[.agg c.enc.toArray] W (NewB W (encC c)) := fun h0 W h => refBytes_any c W (hc.below h) (by rw [← hk]; exact h0) (hl.below h)
 rw [← hk] at KCa
 obtain ⟨C, hC⟩ : ∃ C, C = c := ⟨_, rfl⟩
 rw [← hC]
 have HKC : Hid (k = checkF C) := Lib.hid (by rw [hC]; exact hk)
 have KBa : k = 0 → ∀ W : World, Below w.heap.size w W → Calls Tryz.prog 59 #[.agg c.enc.toArray] W (NewB W (encC C)) := by rw [hC]; exact KBa
 have hCe : C.enc = c.enc := by rw [hC]
 rw [hCe]
 clear hC hCe hk HK hc hl
 obtain ⟨tx, tm, wa, fi, eA, eC, ents, dA, dC, dels, pA, pC, pla, rA, rC, rel, qA, qC, pol, hA, hC, hor⟩ := c
 have KCa : ∀ W : World, Below w.heap.size w W → Calls Tryz.prog 12 #[.agg #[.int .i64 tx, .int .i64 tm, .int .i64 wa, .int .i64 fi, .slice eA ents.length eC, .slice dA dels.length dC, .slice pA pla.length pC, .slice rA rel.length rC, .slice qA pol.length qC, .slice hA hor.length hC]] W fun e w' => e = .returned (.int .i64 k) ∧ Below W.heap.size W w' := KCa
 have KBa : k = 0 → ∀ W : World, Below w.heap.size w W → Calls Tryz.prog 59 #[.agg #[.int .i64 tx, .int .i64 tm, .int .i64 wa, .int .i64 fi, .slice eA ents.length eC, .slice dA dels.length dC, .slice pA pla.length pC, .slice rA rel.length rC, .slice qA pol.length qC, .slice hA hor.length hC]] W (NewB W (encC C)) := KBa
 show Calls Tryz.prog 15 #[.agg #[.int .i64 tx, .int .i64 tm, .int .i64 wa, .int .i64 fi, .slice eA ents.length eC, .slice dA dels.length dC, .slice pA pla.length pC, .slice rA rel.length rC, .slice qA pol.length qC, .slice hA hor.length hC]] w (EncCO C w)
 obtain ⟨W0, hW0⟩ : ∃ W, W = w.alloc (.cells #[.int .i64 tx, .int .i64 tm, .int .i64 wa, .int .i64 fi, .slice eA ents.length eC, .slice dA dels.length dC, .slice pA pla.length pC, .slice rA rel.length rC, .slice qA pol.length qC, .slice hA hor.length hC] 29) := ⟨_, rfl⟩
 have hbW : Below w.heap.size w W0 := by rw [hW0]; exact Below.of_alloc _
 have HBW := Lib.hid hbW
 have HBL : Hid (w.heap.size < W0.heap.size) := Lib.hid (by rw [hW0]; simp)
 have HT : Hid (W0.heap[w.heap.size]? = some (.cells #[.int .i64 tx, .int .i64 tm, .int .i64 wa, .int .i64 fi, .slice eA ents.length eC, .slice dA dels.length dC, .slice pA pla.length pC, .slice rA rel.length rC, .slice qA pol.length qC, .slice hA hor.length hC] 29 (0, 0))) := Lib.hid (by rw [hW0]; exact heap_alloc_new _ _)
 have hT := HT.out
 have c0 : W0.cell? ⟨w.heap.size, 0, none⟩ = some (.int .i64 tx) := cell_of_row W0 _ 0 _ _ _ hT
 have c1 : W0.cell? ⟨w.heap.size, 1, none⟩ = some (.int .i64 tm) := cell_of_row W0 _ 1 _ _ _ hT
 have c2 : W0.cell? ⟨w.heap.size, 2, none⟩ = some (.int .i64 wa) := cell_of_row W0 _ 2 _ _ _ hT
 have c3 : W0.cell? ⟨w.heap.size, 3, none⟩ = some (.int .i64 fi) := cell_of_row W0 _ 3 _ _ _ hT
 have c4 : W0.cell? ⟨w.heap.size, 4, none⟩ = some (.slice eA ents.length eC) := cell_of_row W0 _ 4 _ _ _ hT
 have c5 : W0.cell? ⟨w.heap.size, 5, none⟩ = some (.slice dA dels.length dC) := cell_of_row W0 _ 5 _ _ _ hT
 have c6 : W0.cell? ⟨w.heap.size, 6, none⟩ = some (.slice pA pla.length pC) := cell_of_row W0 _ 6 _ _ _ hT
 have c7 : W0.cell? ⟨w.heap.size, 7, none⟩ = some (.slice rA rel.length rC) := cell_of_row W0 _ 7 _ _ _ hT
 have c8 : W0.cell? ⟨w.heap.size, 8, none⟩ = some (.slice qA pol.length qC) := cell_of_row W0 _ 8 _ _ _ hT
 have c9 : W0.cell? ⟨w.heap.size, 9, none⟩ = some (.slice hA hor.length hC) := cell_of_row W0 _ 9 _ _ _ hT
 clear hT hbW
 have KC := KCa W0 HBW.out
 clear KCa
 go_enter Tryz.func15, Tryz.ntmps15
 go_wp2_with fail
 rw [← hW0]
 clear hW0
 (with_reducible refine KC.mono ?_)
 rintro _ w1 ⟨rfl, hb1⟩
 have HB1 := Lib.hid (HBW.out.trans (hb1.mono HBW.out.size))
 have hT := (hb1.block _ HBL.out).trans HT.out
 clear KC c0 c1 c2 c3 c4 c5 c6 c7 c8 c9
 by_cases h0 : k = 0
 case neg =>
  clear hT hb1
  go_wp2_with fail
  go_ret2
  have q := encCE_err (c := C) (by rw [← HKC.out]; exact h0)
  refine ⟨.slice none 0 0, by rw [q.1, ← HKC.out] <;> rfl, ?_, HB1.out⟩
  rw [q.2]
  exact Rd.nil _ _ _
 case pos =>
  have KB := KBa h0 w1 HB1.out
  subst h0
  clear KBa hb1
  have c0 : w1.cell? ⟨w.heap.size, 0, none⟩ = some (.int .i64 tx) := cell_of_row w1 _ 0 _ _ _ hT
  have c1 : w1.cell? ⟨w.heap.size, 1, none⟩ = some (.int .i64 tm) := cell_of_row w1 _ 1 _ _ _ hT
  have c2 : w1.cell? ⟨w.heap.size, 2, none⟩ = some (.int .i64 wa) := cell_of_row w1 _ 2 _ _ _ hT
  have c3 : w1.cell? ⟨w.heap.size, 3, none⟩ = some (.int .i64 fi) := cell_of_row w1 _ 3 _ _ _ hT
  have c4 : w1.cell? ⟨w.heap.size, 4, none⟩ = some (.slice eA ents.length eC) := cell_of_row w1 _ 4 _ _ _ hT
  have c5 : w1.cell? ⟨w.heap.size, 5, none⟩ = some (.slice dA dels.length dC) := cell_of_row w1 _ 5 _ _ _ hT
  have c6 : w1.cell? ⟨w.heap.size, 6, none⟩ = some (.slice pA pla.length pC) := cell_of_row w1 _ 6 _ _ _ hT
  have c7 : w1.cell? ⟨w.heap.size, 7, none⟩ = some (.slice rA rel.length rC) := cell_of_row w1 _ 7 _ _ _ hT
  have c8 : w1.cell? ⟨w.heap.size, 8, none⟩ = some (.slice qA pol.length qC) := cell_of_row w1 _ 8 _ _ _ hT
  have c9 : w1.cell? ⟨w.heap.size, 9, none⟩ = some (.slice hA hor.length hC) := cell_of_row w1 _ 9 _ _ _ hT
  clear hT
  go_wp2_with fail
  (with_reducible refine KB.mono ?_)
  rintro _ w2 ⟨u, rfl, hO, hb2⟩
  have HB2 := Lib.hid (HB1.out.trans (hb2.mono HB1.out.size))
  have HO := Lib.hid ((Rd.of_own hO).wide (fun b hb => (⟨by have := hb.1; have := HB1.out.size; omega, hb.2⟩ : w.heap.size ≤ b ∧ b < w2.heap.size)))
  obtain ⟨Av, cv, rfl, x1, x2, x3⟩ := Rd.open_ (Rd.of_own hO)
  clear KB hO hb2 x1 x2 x3 c0 c1 c2 c3 c4 c5 c6 c7 c8 c9
  obtain ⟨n, hn⟩ : ∃ n, n = (encC C).length := ⟨_, rfl⟩
  rw [← hn] at HO ⊢
  have HN := Lib.hid hn
  clear hn
  by_cases hbig : 1048576 < n
  case pos =>
   have i1 : (1048576 : Int) < (n : Int) := by omega
   go_wp2_with fail
   go_ret2
   have q := encCE_long HKC.out.symm (by rw [← HN.out]; exact hbig)
   refine ⟨.slice none 0 0, by rw [q.1] <;> rfl, ?_, HB2.out⟩
   rw [q.2]
   exact Rd.nil _ _ _
  case neg =>
   have i1 : ¬ (1048576 : Int) < (n : Int) := by omega
   go_wp2_with fail
   go_ret2
   have q := encCE_ok HKC.out.symm (by rw [← HN.out]; exact hbig)
   refine ⟨_, by rw [q.1] <;> rfl, ?_, HB2.out⟩
   rw [q.2]
   have hR : RdB w2 (fun b => w.heap.size ≤ b ∧ b < w2.heap.size) (.slice Av n cv) (encC C) := by unfold RdB; rw [← HN.out]; exact HO.out
   exact hR
end Go.Proofs.YtbfdegkickjbpaaGreat
