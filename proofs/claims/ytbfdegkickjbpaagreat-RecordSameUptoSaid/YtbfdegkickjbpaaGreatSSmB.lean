/-
 SmB
-/
import Derived.Lib.Bytealg
import Derived.Test.YtbfdegkickjbpaaGreatSSmA
namespace Go.Proofs.YtbfdegkickjbpaaGreat
open Go.RowKit Go.Lib Go.IntWalk Go.Sort Go.Shelf
theorem nan_any (n : Int) (w : World) : Calls Tryz.prog 251 #[.int .i64 n] w fun e w' => e = .returned (.bool false) ∧ w' = w := by
 go_enter Tryz.func251, Tryz.ntmps251
 go_wp2
 all_goals
  go_ret
  simp
theorem compare_any (a b : Int) (w : World) : Calls Tryz.prog 249 #[.int .i64 a, .int .i64 b] w fun e w' => e = .returned (.int .i64 (cmpI a b)) ∧ w' = w := by
 unfold cmpI
 by_cases h1 : a < b
 ·rw [if_pos h1]
  go_enter Tryz.func249, Tryz.ntmps249
  go_wp2_with fail
  (with_reducible refine (nan_any a _).mono ?_)
  rintro _ _ ⟨rfl, rfl⟩
  go_wp2_with fail
  (with_reducible refine (nan_any b _).mono ?_)
  rintro _ _ ⟨rfl, rfl⟩
  go_wp2_with fail
  all_goals
   go_ret
   exact ⟨rfl, rfl⟩
 ·rw [if_neg h1]
  by_cases h2 : b < a
  ·rw [if_pos h2]
   go_enter Tryz.func249, Tryz.ntmps249
   go_wp2_with fail
   (with_reducible refine (nan_any a _).mono ?_)
   rintro _ _ ⟨rfl, rfl⟩
   go_wp2_with fail
   (with_reducible refine (nan_any b _).mono ?_)
   rintro _ _ ⟨rfl, rfl⟩
   go_wp2_with fail
   all_goals
    go_ret
    exact ⟨rfl, rfl⟩
  ·rw [if_neg h2]
   go_enter Tryz.func249, Tryz.ntmps249
   go_wp2_with fail
   (with_reducible refine (nan_any a _).mono ?_)
   rintro _ _ ⟨rfl, rfl⟩
   go_wp2_with fail
   (with_reducible refine (nan_any b _).mono ?_)
   rintro _ _ ⟨rfl, rfl⟩
   go_wp2_with fail
   all_goals
    go_ret
    exact ⟨rfl, rfl⟩
set_option maxHeartbeats 2000000 in
theorem or_any (a b c : Int) (bb : Nat) (w : World) (c0 : w.cell? ⟨bb, 0, none⟩ = some (.int .i64 a)) (c1 : w.cell? ⟨bb, 1, none⟩ = some (.int .i64 b)) (c2 : w.cell? ⟨bb, 2, none⟩ = some (.int .i64 c)) :
  Calls Tryz.prog 248 #[.slice (some ⟨bb, 0, none⟩) 3 3] w fun e w' => e = .returned (.int .i64 (or3 a b c)) ∧ w' = w := by
 go_enter Tryz.func248, Tryz.ntmps248
 go_wp2_with fail
 go_loopw [8] (fun vi wr => ∃ i : Nat, vi = .int .i64 (i : Int) ∧ i ≤ 3 ∧ (0 < i → a = 0) ∧ (1 < i → b = 0) ∧ (2 < i → c = 0) ∧ wr = w) (fun vi _ => 3 - (RowKit.intOf vi).toNat)
 case atStart => exact ⟨0, rfl, by omega, by omega, by omega, by omega, rfl⟩
 case round =>
  obtain ⟨i, rfl, hi, q0, q1, q2, rfl⟩ := hrel
  by_cases h3 : i = 3
  ·subst h3
   have ha := q0 (by omega)
   have hb := q1 (by omega)
   have hc := q2 (by omega)
   subst ha; subst hb; subst hc
   go_wp2_with fail
   go_ret
   exact ⟨rfl, rfl⟩
  ·by_cases h0 : i = 0
   ·subst h0
    by_cases hz : a = 0
    ·subst hz
     go_wp2_with fail
     go_roundw
     case rel => exact ⟨1, rfl, by omega, by simp, by omega, by omega, by first | rfl | trivial⟩
     case measure => simp [RowKit.intOf]
    ·go_wp2_with fail
     all_goals
      go_ret
      refine ⟨?_, rfl⟩
      show Ending.returned (.int .i64 a) = _
      rw [or3, if_pos hz]
   ·by_cases h1 : i = 1
    ·subst h1
     have ha := q0 (by omega)
     subst ha
     by_cases hz : b = 0
     ·subst hz
      go_wp2_with fail
      go_roundw
      case rel => exact ⟨2, rfl, by omega, by simp, by simp, by omega, by first | rfl | trivial⟩
      case measure => simp [RowKit.intOf]
     ·go_wp2_with fail
      all_goals
       go_ret
       refine ⟨?_, rfl⟩
       show Ending.returned (.int .i64 b) = _
       rw [or3, if_neg (by simp), if_pos hz]
    ·obtain rfl : i = 2 := by omega
     have ha := q0 (by omega)
     have hb := q1 (by omega)
     subst ha; subst hb
     by_cases hz : c = 0
     ·subst hz
      go_wp2_with fail
      go_roundw
      case rel => exact ⟨3, rfl, by omega, by simp, by simp, by simp, trivial⟩
      case measure => simp [RowKit.intOf]
     ·go_wp2_with fail
      all_goals
       go_ret
       refine ⟨?_, rfl⟩
       show Ending.returned (.int .i64 c) = _
       rw [or3, if_neg (by simp), if_neg (by simp)]
set_option maxHeartbeats 1000000 in
set_option maxRecDepth 100000 in
theorem cmpString_any (a b : ByteArray) (w : World) :
  Calls Tryz.prog 252 #[.string a, .string b] w fun e w' => e = .returned (.int .i64 (Lib.compareBytes a.data.toList b.data.toList)) ∧ w' = w := by
 go_enter Tryz.func252, Tryz.ntmps252
 go_wp2
 rw [run_callFunc_extern Tryz.func253 (by kernel_rfl) (by kernel_rfl) (by kernel_rfl) (e := Extern.BytealgCompare.compare) (by kernel_rfl), Lib.run_compareString]
 simp only [Result.andThen]
 rw [Oper.upon_value]
 go_wp2
 go_ret
 exact ⟨rfl, rfl⟩
theorem strsCompare_any (a b : ByteArray) (w : World) :
  Calls Tryz.prog 250 #[.string a, .string b] w fun e w' => e = .returned (.int .i64 (Lib.compareBytes a.data.toList b.data.toList)) ∧ w' = w := by
 go_enter Tryz.func250, Tryz.ntmps250
 go_wp2_with fail
 (with_reducible refine (cmpString_any a b _).mono ?_)
 rintro _ _ ⟨rfl, rfl⟩
 go_wp2_with fail
 go_ret
 exact ⟨rfl, rfl⟩
set_option maxRecDepth 1000000 in
set_option maxHeartbeats 4000000 in
theorem valueCompare_any (x y : Val) (w : World) :
  Calls Tryz.prog 246 #[.agg x.cells.toArray, .agg y.cells.toArray] w fun e w' => e = .returned (.int .i64 (cmpW x y)) ∧ Below w.heap.size w w' := by
 obtain ⟨x1, x2, x3⟩ := x
 obtain ⟨y1, y2, y3⟩ := y
 show Calls Tryz.prog 246 #[.agg #[.int .i64 x1, .int .i64 x2, .string x3], .agg #[.int .i64 y1, .int .i64 y2, .string y3]] w (fun e w' => e = .returned (.int .i64 (or3 (cmpI x1 y1) (cmpI x2 y2) (Lib.compareBytes x3.data.toList y3.data.toList))) ∧ Below w.heap.size w w')
 go_enter Tryz.func246, Tryz.ntmps246
 go_wp2_with fail
 obtain ⟨W, hW⟩ : ∃ W, W = (w.alloc (.cells #[.int .i64 x1, .int .i64 x2, .string x3] 79)).alloc (.cells #[.int .i64 y1, .int .i64 y2, .string y3] 79) := ⟨_, rfl⟩
 have hb : Below w.heap.size w W := by subst hW; exact (Below.of_alloc _).alloc (by simp) _
 have hs : W.heap.size = w.heap.size + 2 := by subst hW; simp
 have CX : Hid (∀ w', Below W.heap.size W w' → ∀ j u, [.int .i64 x1, .int .i64 x2, .string x3][j]? = some u → w'.cell? ⟨w.heap.size, j, none⟩ = some u) := Lib.hid (fun w' h j u hj => boxCell (cs := [.int .i64 x1, .int .i64 x2, .string x3]) (e := 79) (by subst hW; have := Below.of_alloc (w := w.alloc (.cells #[.int .i64 x1, .int .i64 x2, .string x3] 79)) (.cells #[.int .i64 y1, .int .i64 y2, .string y3] 79); simpa using this) (by omega) h j u hj)
 have CY : Hid (∀ w', Below W.heap.size W w' → ∀ j u, [.int .i64 y1, .int .i64 y2, .string y3][j]? = some u → w'.cell? ⟨w.heap.size + 1, j, none⟩ = some u) := Lib.hid (fun w' h j u hj => by
  have := boxCell (w := w.alloc (.cells #[.int .i64 x1, .int .i64 x2, .string x3] 79)) (cs := [.int .i64 y1, .int .i64 y2, .string y3]) (e := 79) (W := W) (w' := w') (by subst hW; exact Below.refl _ _) (by simp; omega) h j u hj
  simpa using this)
 rw [← hW]
 clear hW
 refine wp_region_noPanic ?_
 refine wp_region_held_drew (S := (fun w' => Below W.heap.size W w')) (by kernel_rfl) ?_ (fun hHeld => ?_)
 ·exact (Below.refl _ _).drew
 refine heldTake 0 (some 5) (v := ?_) rfl rfl (by kernel_rfl) (by kernel_rfl) (by kernel_rfl) (by rfl) hHeld (fun _ _ _ h => h) ?_ ?_
 rotate_left
 ·intro w' hSw; (try dsimp only at hSw); go_simp <;> with_reducible rfl
 simp only [Act.put, List.setIfInBounds_toArray, List.set_cons_zero, List.set_cons_succ]
 refine heldTake 1 (some 6) (v := ?_) rfl rfl (by kernel_rfl) (by kernel_rfl) (by kernel_rfl) (by rfl) hHeld (fun _ _ _ h => h) ?_ ?_
 rotate_left
 ·intro w' hSw; (try dsimp only at hSw); have q := CX.out w' hSw 0 _ rfl; go_simp <;> with_reducible rfl
 simp only [Act.put, List.setIfInBounds_toArray, List.set_cons_zero, List.set_cons_succ]
 refine heldTake 2 (some 7) (v := ?_) rfl rfl (by kernel_rfl) (by kernel_rfl) (by kernel_rfl) (by rfl) hHeld (fun _ _ _ h => h) ?_ ?_
 rotate_left
 ·intro w' hSw; (try dsimp only at hSw); go_simp <;> with_reducible rfl
 simp only [Act.put, List.setIfInBounds_toArray, List.set_cons_zero, List.set_cons_succ]
 refine heldTake 3 (some 8) (v := ?_) rfl rfl (by kernel_rfl) (by kernel_rfl) (by kernel_rfl) (by rfl) hHeld (fun _ _ _ h => h) ?_ ?_
 rotate_left
 ·intro w' hSw; (try dsimp only at hSw); have q := CY.out w' hSw 0 _ rfl; go_simp <;> with_reducible rfl
 simp only [Act.put, List.setIfInBounds_toArray, List.set_cons_zero, List.set_cons_succ]
 refine heldTake 5 (some 10) (v := ?_) rfl rfl (by kernel_rfl) (by kernel_rfl) (by kernel_rfl) (by rfl) hHeld (fun _ _ _ h => h) ?_ ?_
 rotate_left
 ·intro w' hSw; (try dsimp only at hSw); go_simp <;> with_reducible rfl
 simp only [Act.put, List.setIfInBounds_toArray, List.set_cons_zero, List.set_cons_succ]
 refine heldTake 6 (some 11) (v := ?_) rfl rfl (by kernel_rfl) (by kernel_rfl) (by kernel_rfl) (by rfl) hHeld (fun _ _ _ h => h) ?_ ?_
 rotate_left
 ·intro w' hSw; (try dsimp only at hSw); have q := CX.out w' hSw 1 _ rfl; go_simp <;> with_reducible rfl
 simp only [Act.put, List.setIfInBounds_toArray, List.set_cons_zero, List.set_cons_succ]
 refine heldTake 7 (some 12) (v := ?_) rfl rfl (by kernel_rfl) (by kernel_rfl) (by kernel_rfl) (by rfl) hHeld (fun _ _ _ h => h) ?_ ?_
 rotate_left
 ·intro w' hSw; (try dsimp only at hSw); go_simp <;> with_reducible rfl
 simp only [Act.put, List.setIfInBounds_toArray, List.set_cons_zero, List.set_cons_succ]
 refine heldTake 8 (some 13) (v := ?_) rfl rfl (by kernel_rfl) (by kernel_rfl) (by kernel_rfl) (by rfl) hHeld (fun _ _ _ h => h) ?_ ?_
 rotate_left
 ·intro w' hSw; (try dsimp only at hSw); have q := CY.out w' hSw 1 _ rfl; go_simp <;> with_reducible rfl
 simp only [Act.put, List.setIfInBounds_toArray, List.set_cons_zero, List.set_cons_succ]
 refine heldTake 10 (some 15) (v := ?_) rfl rfl (by kernel_rfl) (by kernel_rfl) (by kernel_rfl) (by rfl) hHeld (fun _ _ _ h => h) ?_ ?_
 rotate_left
 ·intro w' hSw; (try dsimp only at hSw); go_simp <;> with_reducible rfl
 simp only [Act.put, List.setIfInBounds_toArray, List.set_cons_zero, List.set_cons_succ]
 refine heldTake 11 (some 16) (v := ?_) rfl rfl (by kernel_rfl) (by kernel_rfl) (by kernel_rfl) (by rfl) hHeld (fun _ _ _ h => h) ?_ ?_
 rotate_left
 ·intro w' hSw; (try dsimp only at hSw); have q := CX.out w' hSw 2 _ rfl; go_simp <;> with_reducible rfl
 simp only [Act.put, List.setIfInBounds_toArray, List.set_cons_zero, List.set_cons_succ]
 refine heldTake 12 (some 17) (v := ?_) rfl rfl (by kernel_rfl) (by kernel_rfl) (by kernel_rfl) (by rfl) hHeld (fun _ _ _ h => h) ?_ ?_
 rotate_left
 ·intro w' hSw; (try dsimp only at hSw); go_simp <;> with_reducible rfl
 simp only [Act.put, List.setIfInBounds_toArray, List.set_cons_zero, List.set_cons_succ]
 refine heldTake 13 (some 18) (v := ?_) rfl rfl (by kernel_rfl) (by kernel_rfl) (by kernel_rfl) (by rfl) hHeld (fun _ _ _ h => h) ?_ ?_
 rotate_left
 ·intro w' hSw; (try dsimp only at hSw); have q := CY.out w' hSw 2 _ rfl; go_simp <;> with_reducible rfl
 simp only [Act.put, List.setIfInBounds_toArray, List.set_cons_zero, List.set_cons_succ]
 refine heldCall 4 (some 9) (f := ?_) (args := ?_) rfl rfl (by kernel_rfl) (by rfl) ?_ ?_
 rotate_left 2
 ·go_simp <;> first | (constructor <;> with_reducible rfl) | with_reducible rfl
 (with_reducible refine (compare_any x1 y1 _).mono ?_)
 rintro _ _ ⟨rfl, rfl⟩
 refine ⟨_, rfl, keepAnd ?_ (fun hNew => ?_)⟩
 ·exact hHeld
 clear hHeld
 have hHeld := hNew
 clear hNew
 simp only [Act.put, List.setIfInBounds_toArray, List.set_cons_zero, List.set_cons_succ]
 refine heldCall 9 (some 14) (f := ?_) (args := ?_) rfl rfl (by kernel_rfl) (by rfl) ?_ ?_
 rotate_left 2
 ·go_simp <;> first | (constructor <;> with_reducible rfl) | with_reducible rfl
 (with_reducible refine (compare_any x2 y2 _).mono ?_)
 rintro _ _ ⟨rfl, rfl⟩
 refine ⟨_, rfl, keepAnd ?_ (fun hNew => ?_)⟩
 ·exact hHeld
 clear hHeld
 have hHeld := hNew
 clear hNew
 simp only [Act.put, List.setIfInBounds_toArray, List.set_cons_zero, List.set_cons_succ]
 refine heldCall 14 (some 19) (f := ?_) (args := ?_) rfl rfl (by kernel_rfl) (by rfl) ?_ ?_
 rotate_left 2
 ·go_simp <;> first | (constructor <;> with_reducible rfl) | with_reducible rfl
 (with_reducible refine (strsCompare_any x3 y3 _).mono ?_)
 rintro _ _ ⟨rfl, rfl⟩
 refine ⟨_, rfl, keepAnd ?_ (fun hNew => ?_)⟩
 ·exact hHeld
 clear hHeld
 have hHeld := hNew
 clear hNew
 simp only [Act.put, List.setIfInBounds_toArray, List.set_cons_zero, List.set_cons_succ]
 have hNew : (fun w' => Below W.heap.size W w') ((W.drew.alloc (.cells #[.int .i64 (cmpI x1 y1), .int .i64 (cmpI x2 y2), .int .i64 (Lib.compareBytes x3.data.toList y3.data.toList)] 3))) := by exact (hHeld.alloc (Nat.le_refl _) _)
 refine heldRun 15 (some 20) (v := .slice (some ⟨W.drew.heap.size, 0, none⟩) 3 3) (w' := (W.drew.alloc (.cells #[.int .i64 (cmpI x1 y1), .int .i64 (cmpI x2 y2), .int .i64 (Lib.compareBytes x3.data.toList y3.data.toList)] 3))) rfl rfl (by kernel_rfl) (by rfl) ?_ hNew ?_
 ·go_simp <;> with_reducible rfl
 clear hHeld
 have hHeld := hNew
 clear hNew
 simp only [Act.put, List.setIfInBounds_toArray, List.set_cons_zero, List.set_cons_succ]
 refine heldCall 16 (some 21) (f := ?_) (args := ?_) rfl rfl (by kernel_rfl) (by rfl) ?_ ?_
 rotate_left 2
 ·go_simp <;> first | (constructor <;> with_reducible rfl) | with_reducible rfl
 obtain ⟨k0, k1, k2⟩ := row3 W.drew (cmpI x1 y1) (cmpI x2 y2) (Lib.compareBytes x3.data.toList y3.data.toList)
 rw [show W.drew.heap.size = w.heap.size + 2 from hs] at k0 k1 k2
 (with_reducible refine (or_any (cmpI x1 y1) (cmpI x2 y2) (Lib.compareBytes x3.data.toList y3.data.toList) _ _ k0 k1 k2).mono ?_)
 rintro _ _ ⟨rfl, rfl⟩
 refine ⟨_, rfl, keepAnd ?_ (fun hNew => ?_)⟩
 ·exact hHeld
 clear hHeld
 have hHeld := hNew
 clear hNew
 simp only [Act.put, List.setIfInBounds_toArray, List.set_cons_zero, List.set_cons_succ]
 refine heldTake 17 (some 4) (v := ?_) rfl rfl (by kernel_rfl) (by kernel_rfl) (by kernel_rfl) (by rfl) hHeld (fun _ _ _ h => h) ?_ ?_
 rotate_left
 ·intro w' hSw; (try dsimp only at hSw); go_simp <;> with_reducible rfl
 simp only [Act.put, List.setIfInBounds_toArray, List.set_cons_zero, List.set_cons_succ]
 refine wpAnyH_done (by kernel_rfl) ?_ _
 refine NoPanic.normal ?_
 go_wp2_with fail
 go_ret
 refine ⟨rfl, ?_⟩
 exact hb.trans ((hHeld).mono (by omega))
set_option maxRecDepth 1000000 in
set_option maxHeartbeats 8000000 in
theorem cmpRow_any (v u : Value) (l m : List Val) (w : World) (hv : RdE 3 Val.cells w (· < w.heap.size) v l) (hu : RdE 3 Val.cells w (· < w.heap.size) u m) :
  Calls Tryz.prog 245 #[v, u, .func (.func 246) #[] #[]] w fun e w' => e = .returned (.int .i64 (cmpRow l m)) ∧ Below w.heap.size w w' := by
 obtain ⟨A, c, rfl, a1, a2, a3⟩ := Rd.open_ (show Rd w _ 3 v l.length (l.flatMap Val.cells) from hv)
 obtain ⟨A', c', rfl, b1, b2, b3⟩ := Rd.open_ (show Rd w _ 3 u m.length (m.flatMap Val.cells) from hu)
 unfold maxLen at a2 b2
 have HV := Lib.hid hv
 have HU := Lib.hid hu
 obtain ⟨res, hres⟩ : ∃ r, r = cmpRow l m := ⟨_, rfl⟩
 rw [← hres]
 have HRES := Lib.hid hres
 clear hv hu hres a3 b3
 go_enter Tryz.func245, Tryz.ntmps245
 go_wp2_with fail
 go_loopw [13] (fun i wr => ∃ k : Nat, i = .int .i64 (k : Int) ∧ k ≤ l.length ∧ Hid (cmpRow (l.drop k) (m.drop k) = res) ∧ Hid (Below w.heap.size w wr)) (fun i _ => l.length - (intOf i).toNat)
 case atStart => exact ⟨0, rfl, Nat.zero_le _, Lib.hid HRES.out.symm, Lib.hid (Below.refl _ _)⟩
 case round =>
  obtain ⟨k, rfl, hk, HG, HB⟩ := hrel
  obtain ⟨wi, rfl⟩ : ∃ wi : World, wi = wr := ⟨_, rfl⟩
  by_cases hlt : k < l.length
  case neg =>
   have hlt3 : ¬ (k : Int) < (l.length : Int) := by omega
   by_cases hmm : k < m.length
   case pos =>
    have HE : Hid (res = -1) := Lib.hid (by rw [← HG.out]; exact cmpRow_lt (by omega) hmm)
    have hm3 : (l.length : Int) < (m.length : Int) := by omega
    go_wp2_with fail
    go_ret
    exact ⟨by rw [HE.out] <;> rfl, HB.out⟩
   case neg =>
    have HE : Hid (res = 0) := Lib.hid (by rw [← HG.out]; exact cmpRow_end (by omega) (by omega))
    have hm3 : ¬ (l.length : Int) < (m.length : Int) := by omega
    go_wp2_with fail
    go_ret
    exact ⟨by rw [HE.out] <;> rfl, HB.out⟩
  case pos =>
   have hlt3 : (k : Int) < (l.length : Int) := by omega
   obtain ⟨b, off, rfl, hF, hcl⟩ := RdE.at_ (K := 3) (enc := Val.cells) (fun _ => rfl) (by omega) (HV.out.below HB.out) hlt
   have hcx := hcl k hlt
   by_cases hlt' : k < m.length
   case neg =>
    have HE : Hid (res = 1) := Lib.hid (by rw [← HG.out]; exact cmpRow_gt hlt (by omega))
    have hm3 : (m.length : Int) ≤ (k : Int) := by omega
    obtain ⟨x, hx⟩ : ∃ x, x = l[k] := ⟨_, rfl⟩
    rw [← hx] at hcx
    clear hx hcl
    obtain ⟨x1, x2, x3⟩ := x
    have g0 : wi.cell? ⟨b, off + k * 3, none⟩ = some (.int .i64 x1) := hcx 0 _ (by decide) rfl
    have g1 : wi.cell? ⟨b, off + k * 3 + 1, none⟩ = some (.int .i64 x2) := hcx 1 _ (by decide) rfl
    have g2 : wi.cell? ⟨b, off + k * 3 + 2, none⟩ = some (.string x3) := hcx 2 _ (by decide) rfl
    clear hcx
    go_wp2_with fail
    go_ret
    exact ⟨by rw [HE.out] <;> rfl, HB.out.trans (((Below.of_alloc _)).mono HB.out.size)⟩
   case pos =>
   have hlt4 : ¬ (m.length : Int) ≤ (k : Int) := by omega
   have hlt5 : (k : Int) < (m.length : Int) := by omega
   obtain ⟨b', off', rfl, hF', hcl'⟩ := RdE.at_ (K := 3) (enc := Val.cells) (fun _ => rfl) (by omega) (HU.out.below HB.out) hlt'
   have hcy := hcl' k hlt'
   have hg := HG.out
   rw [cmpRow_at hlt hlt'] at hg
   obtain ⟨x, hx⟩ : ∃ x, x = l[k] := ⟨_, rfl⟩
   obtain ⟨y, hy⟩ : ∃ y, y = m[k] := ⟨_, rfl⟩
   rw [← hx] at hcx hg
   rw [← hy] at hcy hg
   have KK := fun V => valueCompare_any x y V
   obtain ⟨bo, hbo⟩ : ∃ bo, bo = cmpW x y := ⟨_, rfl⟩
   rw [← hbo] at hg KK
   have HG2 := Lib.hid hg
   clear hx hy hcl hcl' hbo hg HG
   obtain ⟨x1, x2, x3⟩ := x
   obtain ⟨y1, y2, y3⟩ := y
   have g0 : wi.cell? ⟨b, off + k * 3, none⟩ = some (.int .i64 x1) := hcx 0 _ (by decide) rfl
   have g1 : wi.cell? ⟨b, off + k * 3 + 1, none⟩ = some (.int .i64 x2) := hcx 1 _ (by decide) rfl
   have g2 : wi.cell? ⟨b, off + k * 3 + 2, none⟩ = some (.string x3) := hcx 2 _ (by decide) rfl
   have h0 : wi.cell? ⟨b', off' + k * 3, none⟩ = some (.int .i64 y1) := hcy 0 _ (by decide) rfl
   have h1 : wi.cell? ⟨b', off' + k * 3 + 1, none⟩ = some (.int .i64 y2) := hcy 1 _ (by decide) rfl
   have h2 : wi.cell? ⟨b', off' + k * 3 + 2, none⟩ = some (.string y3) := hcy 2 _ (by decide) rfl
   clear hcx hcy
   have hbx : Below wi.heap.size wi ((wi.alloc (.cells #[.int .i64 x1, .int .i64 x2, .string x3] 79)).alloc (.cells #[.int .i64 y1, .int .i64 y2, .string y3] 79)) := (Below.of_alloc _).alloc (by simp) _
   have KX : Calls Tryz.prog 246 #[.agg #[.int .i64 x1, .int .i64 x2, .string x3], .agg #[.int .i64 y1, .int .i64 y2, .string y3]] ((wi.alloc (.cells #[.int .i64 x1, .int .i64 x2, .string x3] 79)).alloc (.cells #[.int .i64 y1, .int .i64 y2, .string y3] 79)) (fun e w' => e = .returned (.int .i64 bo) ∧ Below ((wi.alloc (.cells #[.int .i64 x1, .int .i64 x2, .string x3] 79)).alloc (.cells #[.int .i64 y1, .int .i64 y2, .string y3] 79)).heap.size ((wi.alloc (.cells #[.int .i64 x1, .int .i64 x2, .string x3] 79)).alloc (.cells #[.int .i64 y1, .int .i64 y2, .string y3] 79)) w') := KK _
   have HBX : Hid (Below w.heap.size w ((wi.alloc (.cells #[.int .i64 x1, .int .i64 x2, .string x3] 79)).alloc (.cells #[.int .i64 y1, .int .i64 y2, .string y3] 79))) := Lib.hid (HB.out.trans (hbx.mono HB.out.size))
   clear KK hbx
   go_wp2_with fail
   (with_reducible refine KX.mono ?_)
   rintro _ w2 ⟨rfl, hb2⟩
   have HB2 : Hid (Below w.heap.size w w2) := Lib.hid (HBX.out.trans (hb2.mono HBX.out.size))
   clear hb2 KX HBX g0 h0 g1 h1 g2 h2
   by_cases hz : bo = 0
   case neg =>
    have HE : Hid (res = bo) := Lib.hid (by rw [← HG2.out, if_pos hz])
    have hz2 : (bo != 0) = true := by simpa using hz
    go_wp2_with fail
    go_ret
    exact ⟨by rw [HE.out] <;> rfl, HB2.out⟩
   case pos =>
    subst hz
    have HN : Hid (cmpRow (l.drop (k + 1)) (m.drop (k + 1)) = res) := Lib.hid (by rw [← HG2.out]; simp)
    go_wp2_with fail
    go_roundw
    case rel => exact ⟨k + 1, by go_num, hlt, HN, HB2⟩
    case measure => simp [intOf]; omega
theorem tupleCompare_any (v u : Value) (l m : List Val) (w : World) (hv : RdE 3 Val.cells w (· < w.heap.size) v l) (hu : RdE 3 Val.cells w (· < w.heap.size) u m) :
  Calls Tryz.prog 232 #[v, u] w fun e w' => e = .returned (.int .i64 (cmpRow l m)) ∧ Below w.heap.size w w' := by
 have K := cmpRow_any v u l m w hv hu
 clear hv hu
 go_enter Tryz.func232, Tryz.ntmps232
 go_wp2_with fail
 (with_reducible refine K.mono ?_)
 rintro _ w2 ⟨rfl, hb⟩
 go_wp2_with fail
 go_ret
 exact ⟨rfl, hb⟩
theorem tupleEqual_any (v u : Value) (l m : List Val) (w : World) (hv : RdE 3 Val.cells w (· < w.heap.size) v l) (hu : RdE 3 Val.cells w (· < w.heap.size) u m) :
  Calls Tryz.prog 182 #[v, u] w fun e w' => e = .returned (.bool (sameL sVal l m)) ∧ Below w.heap.size w w' := by
 have K := tupleCompare_any v u l m w hv hu
 have hz := cmpRow_zero l m
 rw [← hz]
 clear hv hu hz
 generalize cmpRow l m = c at K ⊢
 by_cases hc : c = 0
 case pos =>
  subst hc
  go_enter Tryz.func182, Tryz.ntmps182
  go_wp2_with fail
  (with_reducible refine K.mono ?_)
  rintro _ w2 ⟨rfl, hb⟩
  go_wp2_with fail
  go_ret
  exact ⟨rfl, hb⟩
 case neg =>
  have hc2 : (c == 0) = false := by simpa using hc
  rw [decide_eq_false hc]
  go_enter Tryz.func182, Tryz.ntmps182
  go_wp2_with fail
  (with_reducible refine K.mono ?_)
  rintro _ w2 ⟨rfl, hb⟩
  go_wp2_with fail
  go_ret
  exact ⟨by first | rfl | simp [hc2, hc], hb⟩
end Go.Proofs.YtbfdegkickjbpaaGreat
