/-
  Rows: which are valid; rows that are equal.
-/
import Derived.Test.YthfclmkeadpcbaaCodecQ
import Derived.Test.YthfclmkeadpcbaaMem3
namespace Go.Proofs.Ythfclmkeadpcbaa
open Go.RowKit Go.Lib

/-- values of Go's types -/
def goV (x : Val) : Prop := -9223372036854775808 ≤ x.int ∧ x.int ≤ 9223372036854775807 ∧ x.text.size ≤ maxLen
def AllRel (w0 : World) (xs : List Val) (i : Value) (w : World) : Prop :=
  ∃ k : Nat, k ≤ xs.length ∧ i = .int .i64 k ∧ (xs.take k).all validV = true ∧ Below w0.heap.size w0 w
theorem all_snoc {xs : List Val} {k : Nat} (hk : k < xs.length) : (xs.take (k + 1)).all validV = ((xs.take k).all validV && validV xs[k]) := by
  rw [List.take_succ_eq_append_getElem hk, List.all_append]; simp
theorem all_no {xs : List Val} {k : Nat} (hk : k < xs.length) (h : validV xs[k] = false) : xs.all validV = false := by
  rw [← Bool.not_eq_true, List.all_eq_true]
  intro hh
  have := hh xs[k] (List.getElem_mem hk)
  rw [h] at this
  cases this

set_option maxRecDepth 100000 in
set_option maxHeartbeats 800000 in
theorem refValidRow_any (v : Value) (xs : List Val) (w : World) (hv : RdV w (· < w.heap.size) v xs) (hok : ∀ x ∈ xs, goV x) :
    Calls Try.prog 40 #[v] w fun e w' => e = .returned (.bool (xs.all validV && decide (xs.length ≤ 12))) ∧ Below w.heap.size w w' := by
  obtain ⟨A, c, rfl, hc1, hc2, hc3⟩ := hv.open_
  unfold maxLen at hc2
  have HO := Lib.hid hok
  clear hok
  go_enter Try.func40, Try.ntmps40
  go_wp2_with fail
  go_loopw [7] (fun i wr => AllRel w xs i wr) (fun i _ => xs.length - (intOf i).toNat)
  case atStart => exact ⟨0, Nat.zero_le _, rfl, rfl, Below.refl _ _⟩
  case round =>
    obtain ⟨k, hk, rfl, hall, hB⟩ := hrel
    obtain ⟨wo, rfl⟩ : ∃ wo : World, wo = wr := ⟨_, rfl⟩
    have HA := Lib.hid hall
    clear hall
    have hsz := hB.size
    by_cases hlt : k < xs.length
    · obtain ⟨bb, off, rfl, hF, g0, g1, g2⟩ := RdV.at_ (Rd.below hv hB) hlt
      have hx := HO.out xs[k] (List.getElem_mem hlt)
      have hs := all_snoc hlt
      have hn := all_no hlt
      generalize xs[k] = x at *
      obtain ⟨kd, n, s⟩ := x
      obtain ⟨_, _, x3⟩ := hx
      simp only at g0 g1 g2 x3
      have HS := Lib.hid hs
      have HN := Lib.hid hn
      clear hs hn
      go_wp2_with fail
      (with_reducible refine (refValidValue_any kd n s _ x3).mono ?_)
      cases hval : validV ⟨kd, n, s⟩
      · rintro e w2 ⟨rfl, rfl⟩
        have HV := Lib.hid hval
        clear hval
        go_wp2_with fail
        go_ret
        exact ⟨ret_bool (by simp [HN.out HV.out]), (hB.alloc hsz _).alloc (by simp; omega) _⟩
      · rintro e w2 ⟨rfl, rfl⟩
        have HV := Lib.hid hval
        clear hval
        go_wp2_with fail
        go_roundw
        case rel => exact ⟨k + 1, by omega, by go_num, by rw [HS.out, HA.out, HV.out]; rfl, (hB.alloc hsz _).alloc (by simp; omega) _⟩
        case measure => simp [intOf]; omega
    · have hke : k = xs.length := by omega
      subst hke
      go_wp2_with fail
      go_ret
      have h := HA.out
      rw [List.take_length] at h
      exact ⟨ret_bool (by simp [h]; try omega), hB⟩

set_option maxRecDepth 100000 in
set_option maxHeartbeats 800000 in
theorem lawValid_any (v : Value) (xs : List Val) (w : World) (hv : RdV w (· < w.heap.size) v xs) (hok : ∀ x ∈ xs, goV x) :
    Calls Try.prog 17 #[v] w fun e w' => e = .returned (.bool (xs.all validV)) ∧ Below w.heap.size w w' := by
  obtain ⟨A, c, rfl, hc1, hc2, hc3⟩ := hv.open_
  unfold maxLen at hc2
  have HO := Lib.hid hok
  clear hok
  go_enter Try.func17, Try.ntmps17
  go_wp2_with fail
  go_loopw [7] (fun i wr => AllRel w xs i wr) (fun i _ => xs.length - (intOf i).toNat)
  case atStart => exact ⟨0, Nat.zero_le _, rfl, rfl, Below.refl _ _⟩
  case round =>
    obtain ⟨k, hk, rfl, hall, hB⟩ := hrel
    obtain ⟨wo, rfl⟩ : ∃ wo : World, wo = wr := ⟨_, rfl⟩
    have HA := Lib.hid hall
    clear hall
    have hsz := hB.size
    by_cases hlt : k < xs.length
    · obtain ⟨bb, off, rfl, hF, g0, g1, g2⟩ := RdV.at_ (Rd.below hv hB) hlt
      have hx := HO.out xs[k] (List.getElem_mem hlt)
      have hs := all_snoc hlt
      have hn := all_no hlt
      generalize xs[k] = x at *
      obtain ⟨kd, n, s⟩ := x
      obtain ⟨_, _, x3⟩ := hx
      simp only at g0 g1 g2 x3
      have HS := Lib.hid hs
      have HN := Lib.hid hn
      clear hs hn
      go_wp2_with fail
      (with_reducible refine (refValidValue_any kd n s _ x3).mono ?_)
      cases hval : validV ⟨kd, n, s⟩
      · rintro e w2 ⟨rfl, rfl⟩
        have HV := Lib.hid hval
        clear hval
        go_wp2_with fail
        go_ret
        exact ⟨ret_bool (by simp [HN.out HV.out]), (hB.alloc hsz _).alloc (by simp; omega) _⟩
      · rintro e w2 ⟨rfl, rfl⟩
        have HV := Lib.hid hval
        clear hval
        go_wp2_with fail
        go_roundw
        case rel => exact ⟨k + 1, by omega, by go_num, by rw [HS.out, HA.out, HV.out]; rfl, (hB.alloc hsz _).alloc (by simp; omega) _⟩
        case measure => simp [intOf]; omega
    · have hke : k = xs.length := by omega
      subst hke
      go_wp2_with fail
      go_ret
      have h := HA.out
      rw [List.take_length] at h
      exact ⟨ret_bool (by rw [h]), hB⟩

def SameRel (w0 : World) (n : Nat) (i : Value) (w : World) : Prop := ∃ k : Nat, k ≤ n ∧ i = .int .i64 k ∧ Below w0.heap.size w0 w
set_option maxRecDepth 100000 in
set_option maxHeartbeats 800000 in
theorem rows_same (v u : Value) (xs : List Val) (w : World) (hv : RdV w (· < w.heap.size) v xs) (hu : RdV w (· < w.heap.size) u xs) :
    Calls Try.prog 39 #[v, u] w fun e w' => e = .returned (.bool true) ∧ Below w.heap.size w w' := by
  obtain ⟨A, c, rfl, hc1, hc2, hc3⟩ := hv.open_
  obtain ⟨A', c', rfl, hc1', hc2', hc3'⟩ := hu.open_
  unfold maxLen at hc2 hc2'
  go_enter Try.func39, Try.ntmps39
  go_wp2_with fail
  go_loopw [13] (fun i wr => SameRel w xs.length i wr) (fun i _ => xs.length - (intOf i).toNat)
  case atStart => exact ⟨0, Nat.zero_le _, rfl, Below.refl _ _⟩
  case round =>
    obtain ⟨k, hk, rfl, hB⟩ := hrel
    obtain ⟨wo, rfl⟩ : ∃ wo : World, wo = wr := ⟨_, rfl⟩
    by_cases hlt : k < xs.length
    · obtain ⟨b1, o1, rfl, hF1, g0, g1, g2⟩ := RdV.at_ (Rd.below hv hB) hlt
      obtain ⟨b2, o2, rfl, hF2, f0, f1, f2⟩ := RdV.at_ (Rd.below hu hB) hlt
      generalize xs[k] = x at *
      obtain ⟨kd, n, s⟩ := x
      simp only at g0 g1 g2 f0 f1 f2
      have i1 : (0 : Int) ≤ (k : Int) := by omega
      have i2 : (k : Int) < (xs.length : Int) := by omega
      go_wp2_with fail
      refine wp_region_noPanic ?_
      refine wp_region_held_drew (S := (fun w' => w'.cell? ⟨b1, o1 + k * 3, none⟩ = some (.int .i64 kd) ∧ w'.cell? ⟨b1, o1 + k * 3 + 1, none⟩ = some (.int .i64 n) ∧ w'.cell? ⟨b1, o1 + k * 3 + 2, none⟩ = some (.string s) ∧ w'.cell? ⟨b2, o2 + k * 3, none⟩ = some (.int .i64 kd) ∧ w'.cell? ⟨b2, o2 + k * 3 + 1, none⟩ = some (.int .i64 n) ∧ w'.cell? ⟨b2, o2 + k * 3 + 2, none⟩ = some (.string s))) (by kernel_rfl) ?_ (fun hHeld => ?_)
      · exact ⟨g0, g1, g2, f0, f1, f2⟩
      refine heldTake 0 (some 16) (v := ?_) rfl rfl (by kernel_rfl) (by kernel_rfl) (by kernel_rfl) (by rfl) hHeld (fun _ _ _ h => h) ?_ ?_
      rotate_left
      · intro w' hSw; (try dsimp only at hSw); go_simp <;> with_reducible rfl
      simp only [Act.put, List.setIfInBounds_toArray, List.set_cons_zero, List.set_cons_succ]
      refine heldTake 1 (some 17) (v := ?_) rfl rfl (by kernel_rfl) (by kernel_rfl) (by kernel_rfl) (by rfl) hHeld (fun _ _ _ h => h) ?_ ?_
      rotate_left
      · intro w' hSw; (try dsimp only at hSw); go_simp <;> with_reducible rfl
      simp only [Act.put, List.setIfInBounds_toArray, List.set_cons_zero, List.set_cons_succ]
      refine heldTake 2 (some 18) (v := ?_) rfl rfl (by kernel_rfl) (by kernel_rfl) (by kernel_rfl) (by rfl) hHeld (fun _ _ _ h => h) ?_ ?_
      rotate_left
      · intro w' hSw; (try dsimp only at hSw); go_simp <;> with_reducible rfl
      simp only [Act.put, List.setIfInBounds_toArray, List.set_cons_zero, List.set_cons_succ]
      refine heldTake 3 (some 19) (v := ?_) rfl rfl (by kernel_rfl) (by kernel_rfl) (by kernel_rfl) (by rfl) hHeld (fun _ _ _ h => h) ?_ ?_
      rotate_left
      · intro w' hSw; (try dsimp only at hSw); go_simp <;> with_reducible rfl
      simp only [Act.put, List.setIfInBounds_toArray, List.set_cons_zero, List.set_cons_succ]
      refine heldTake 4 (some 20) (v := ?_) rfl rfl (by kernel_rfl) (by kernel_rfl) (by kernel_rfl) (by rfl) hHeld (fun _ _ _ h => h) ?_ ?_
      rotate_left
      · intro w' hSw; (try dsimp only at hSw); go_simp <;> with_reducible rfl
      simp only [Act.put, List.setIfInBounds_toArray, List.set_cons_zero, List.set_cons_succ]
      refine heldTake 5 (some 21) (v := ?_) rfl rfl (by kernel_rfl) (by kernel_rfl) (by kernel_rfl) (by rfl) hHeld (fun _ _ _ h => h) ?_ ?_
      rotate_left
      · intro w' hSw; (try dsimp only at hSw); go_simp <;> with_reducible rfl
      simp only [Act.put, List.setIfInBounds_toArray, List.set_cons_zero, List.set_cons_succ]
      refine heldTake 6 (some 22) (v := ?_) rfl rfl (by kernel_rfl) (by kernel_rfl) (by kernel_rfl) (by rfl) hHeld (fun _ _ _ h => h) ?_ ?_
      rotate_left
      · intro w' hSw; (try dsimp only at hSw); go_simp <;> with_reducible rfl
      simp only [Act.put, List.setIfInBounds_toArray, List.set_cons_zero, List.set_cons_succ]
      refine heldTake 7 (some 23) (v := ?_) rfl rfl (by kernel_rfl) (by kernel_rfl) (by kernel_rfl) (by rfl) hHeld (fun _ _ _ h => h) ?_ ?_
      rotate_left
      · intro w' hSw; (try dsimp only at hSw); go_simp <;> with_reducible rfl
      simp only [Act.put, List.setIfInBounds_toArray, List.set_cons_zero, List.set_cons_succ]
      refine heldTake 8 (some 24) (v := ?_) rfl rfl (by kernel_rfl) (by kernel_rfl) (by kernel_rfl) (by rfl) hHeld (fun _ _ _ h => h) ?_ ?_
      rotate_left
      · intro w' hSw; (try dsimp only at hSw); go_simp <;> with_reducible rfl
      simp only [Act.put, List.setIfInBounds_toArray, List.set_cons_zero, List.set_cons_succ]
      refine wpAnyH_done (by kernel_rfl) ?_ _
      refine NoPanic.normal ?_
      go_wp2_with fail
      go_roundw
      case rel => exact ⟨k + 1, by omega, by go_num, hB.drew⟩
      case measure => simp [intOf]; omega
    · go_wp2_with fail
      go_ret
      exact ⟨rfl, hB⟩

end Go.Proofs.Ythfclmkeadpcbaa
