/-
  The reference of frames: number, Append, Next, Scan.
-/
import Derived.Test.YtacjiocffbgkkaaGreatRtA
namespace Go.Proofs.YtacjiocffbgkkaaGreat
open Go.RowKit Go.Lib Go.IntWalk

theorem num_word (c0 c1 c2 c3 : UInt8) : IntKind.u32.wrap (IntKind.u32.wrap (IntKind.u32.wrap (IntKind.u32.wrap (IntKind.u32.wrap (c0.toNat : Int) * 16777216) + IntKind.u32.wrap (IntKind.u32.wrap (c1.toNat : Int) * 65536)) + IntKind.u32.wrap (IntKind.u32.wrap (c2.toNat : Int) * 256)) + IntKind.u32.wrap (c3.toNat : Int)) = ((num4 c0 c1 c2 c3 : Nat) : Int) := by
  have h0 := c0.toNat_lt
  have h1 := c1.toNat_lt
  have h2 := c2.toNat_lt
  have h3 := c3.toNat_lt
  simp only [wrap_u32, num4]
  omega
set_option maxRecDepth 100000 in
set_option maxHeartbeats 2000000 in
theorem tnum_raw (b off c : Nat) (c0 c1 c2 c3 : UInt8) (w : World) (g0 : w.cell? ⟨b, off, none⟩ = some (.int .u8 (c0.toNat : Int))) (g1 : w.cell? ⟨b, off + 1, none⟩ = some (.int .u8 (c1.toNat : Int))) (g2 : w.cell? ⟨b, off + 2, none⟩ = some (.int .u8 (c2.toNat : Int))) (g3 : w.cell? ⟨b, off + 3, none⟩ = some (.int .u8 (c3.toNat : Int))) :
    Calls Tryz.prog 79 #[.slice (some ⟨b, off, none⟩) 4 c] w fun e w' => e = .returned (.int .u32 ((num4 c0 c1 c2 c3 : Nat) : Int)) ∧ Below w.heap.size w w' := by
  go_enter Tryz.func79, Tryz.ntmps79
  go_wp2_with fail
  refine wp_region_noPanic ?_
  refine wp_region_held_drew (S := (fun w' => w'.cell? ⟨b, off, none⟩ = some (.int .u8 (c0.toNat : Int)) ∧ w'.cell? ⟨b, off + 1, none⟩ = some (.int .u8 (c1.toNat : Int)) ∧ w'.cell? ⟨b, off + 2, none⟩ = some (.int .u8 (c2.toNat : Int)) ∧ w'.cell? ⟨b, off + 3, none⟩ = some (.int .u8 (c3.toNat : Int)))) (by kernel_rfl) ?_ (fun hHeld => ?_)
  · exact ⟨g0, g1, g2, g3⟩
  refine heldTake 0 (some 3) (v := ?_) rfl rfl (by kernel_rfl) (by kernel_rfl) (by kernel_rfl) (by rfl) hHeld (fun _ _ _ h => h) ?_ ?_
  rotate_left
  · intro w' hSw; (try dsimp only at hSw); go_simp <;> with_reducible rfl
  simp only [Act.put, List.setIfInBounds_toArray, List.set_cons_zero, List.set_cons_succ]
  refine heldTake 1 (some 4) (v := ?_) rfl rfl (by kernel_rfl) (by kernel_rfl) (by kernel_rfl) (by rfl) hHeld (fun _ _ _ h => h) ?_ ?_
  rotate_left
  · intro w' hSw; (try dsimp only at hSw); go_simp <;> with_reducible rfl
  simp only [Act.put, List.setIfInBounds_toArray, List.set_cons_zero, List.set_cons_succ]
  refine heldTake 2 (some 5) (v := ?_) rfl rfl (by kernel_rfl) (by kernel_rfl) (by kernel_rfl) (by rfl) hHeld (fun _ _ _ h => h) ?_ ?_
  rotate_left
  · intro w' hSw; (try dsimp only at hSw); go_simp <;> with_reducible rfl
  simp only [Act.put, List.setIfInBounds_toArray, List.set_cons_zero, List.set_cons_succ]
  refine heldTake 3 (some 6) (v := ?_) rfl rfl (by kernel_rfl) (by kernel_rfl) (by kernel_rfl) (by rfl) hHeld (fun _ _ _ h => h) ?_ ?_
  rotate_left
  · intro w' hSw; (try dsimp only at hSw); go_simp <;> with_reducible rfl
  simp only [Act.put, List.setIfInBounds_toArray, List.set_cons_zero, List.set_cons_succ]
  refine heldTake 4 (some 7) (v := ?_) rfl rfl (by kernel_rfl) (by kernel_rfl) (by kernel_rfl) (by rfl) hHeld (fun _ _ _ h => h) ?_ ?_
  rotate_left
  · intro w' hSw; (try dsimp only at hSw); go_simp <;> with_reducible rfl
  simp only [Act.put, List.setIfInBounds_toArray, List.set_cons_zero, List.set_cons_succ]
  refine heldTake 5 (some 8) (v := ?_) rfl rfl (by kernel_rfl) (by kernel_rfl) (by kernel_rfl) (by rfl) hHeld (fun _ _ _ h => h) ?_ ?_
  rotate_left
  · intro w' hSw; (try dsimp only at hSw); go_simp <;> with_reducible rfl
  simp only [Act.put, List.setIfInBounds_toArray, List.set_cons_zero, List.set_cons_succ]
  refine heldTake 6 (some 9) (v := ?_) rfl rfl (by kernel_rfl) (by kernel_rfl) (by kernel_rfl) (by rfl) hHeld (fun _ _ _ h => h) ?_ ?_
  rotate_left
  · intro w' hSw; (try dsimp only at hSw); go_simp <;> with_reducible rfl
  simp only [Act.put, List.setIfInBounds_toArray, List.set_cons_zero, List.set_cons_succ]
  refine heldTake 7 (some 10) (v := ?_) rfl rfl (by kernel_rfl) (by kernel_rfl) (by kernel_rfl) (by rfl) hHeld (fun _ _ _ h => h) ?_ ?_
  rotate_left
  · intro w' hSw; (try dsimp only at hSw); go_simp <;> with_reducible rfl
  simp only [Act.put, List.setIfInBounds_toArray, List.set_cons_zero, List.set_cons_succ]
  refine heldTake 8 (some 11) (v := ?_) rfl rfl (by kernel_rfl) (by kernel_rfl) (by kernel_rfl) (by rfl) hHeld (fun _ _ _ h => h) ?_ ?_
  rotate_left
  · intro w' hSw; (try dsimp only at hSw); go_simp <;> with_reducible rfl
  simp only [Act.put, List.setIfInBounds_toArray, List.set_cons_zero, List.set_cons_succ]
  refine heldTake 9 (some 12) (v := ?_) rfl rfl (by kernel_rfl) (by kernel_rfl) (by kernel_rfl) (by rfl) hHeld (fun _ _ _ h => h) ?_ ?_
  rotate_left
  · intro w' hSw; (try dsimp only at hSw); go_simp <;> with_reducible rfl
  simp only [Act.put, List.setIfInBounds_toArray, List.set_cons_zero, List.set_cons_succ]
  refine heldTake 10 (some 13) (v := ?_) rfl rfl (by kernel_rfl) (by kernel_rfl) (by kernel_rfl) (by rfl) hHeld (fun _ _ _ h => h) ?_ ?_
  rotate_left
  · intro w' hSw; (try dsimp only at hSw); go_simp <;> with_reducible rfl
  simp only [Act.put, List.setIfInBounds_toArray, List.set_cons_zero, List.set_cons_succ]
  refine heldTake 11 (some 14) (v := ?_) rfl rfl (by kernel_rfl) (by kernel_rfl) (by kernel_rfl) (by rfl) hHeld (fun _ _ _ h => h) ?_ ?_
  rotate_left
  · intro w' hSw; (try dsimp only at hSw); go_simp <;> with_reducible rfl
  simp only [Act.put, List.setIfInBounds_toArray, List.set_cons_zero, List.set_cons_succ]
  refine heldTake 12 (some 15) (v := ?_) rfl rfl (by kernel_rfl) (by kernel_rfl) (by kernel_rfl) (by rfl) hHeld (fun _ _ _ h => h) ?_ ?_
  rotate_left
  · intro w' hSw; (try dsimp only at hSw); go_simp <;> with_reducible rfl
  simp only [Act.put, List.setIfInBounds_toArray, List.set_cons_zero, List.set_cons_succ]
  refine heldTake 13 (some 16) (v := ?_) rfl rfl (by kernel_rfl) (by kernel_rfl) (by kernel_rfl) (by rfl) hHeld (fun _ _ _ h => h) ?_ ?_
  rotate_left
  · intro w' hSw; (try dsimp only at hSw); go_simp <;> with_reducible rfl
  simp only [Act.put, List.setIfInBounds_toArray, List.set_cons_zero, List.set_cons_succ]
  refine heldTake 14 (some 17) (v := ?_) rfl rfl (by kernel_rfl) (by kernel_rfl) (by kernel_rfl) (by rfl) hHeld (fun _ _ _ h => h) ?_ ?_
  rotate_left
  · intro w' hSw; (try dsimp only at hSw); go_simp <;> with_reducible rfl
  simp only [Act.put, List.setIfInBounds_toArray, List.set_cons_zero, List.set_cons_succ]
  refine heldTake 15 (some 18) (v := ?_) rfl rfl (by kernel_rfl) (by kernel_rfl) (by kernel_rfl) (by rfl) hHeld (fun _ _ _ h => h) ?_ ?_
  rotate_left
  · intro w' hSw; (try dsimp only at hSw); go_simp <;> with_reducible rfl
  simp only [Act.put, List.setIfInBounds_toArray, List.set_cons_zero, List.set_cons_succ]
  refine heldTake 16 (some 19) (v := ?_) rfl rfl (by kernel_rfl) (by kernel_rfl) (by kernel_rfl) (by rfl) hHeld (fun _ _ _ h => h) ?_ ?_
  rotate_left
  · intro w' hSw; (try dsimp only at hSw); go_simp <;> with_reducible rfl
  simp only [Act.put, List.setIfInBounds_toArray, List.set_cons_zero, List.set_cons_succ]
  refine heldTake 17 (some 20) (v := ?_) rfl rfl (by kernel_rfl) (by kernel_rfl) (by kernel_rfl) (by rfl) hHeld (fun _ _ _ h => h) ?_ ?_
  rotate_left
  · intro w' hSw; (try dsimp only at hSw); go_simp <;> with_reducible rfl
  simp only [Act.put, List.setIfInBounds_toArray, List.set_cons_zero, List.set_cons_succ]
  refine heldTake 18 (some 21) (v := ?_) rfl rfl (by kernel_rfl) (by kernel_rfl) (by kernel_rfl) (by rfl) hHeld (fun _ _ _ h => h) ?_ ?_
  rotate_left
  · intro w' hSw; (try dsimp only at hSw); go_simp <;> with_reducible rfl
  simp only [Act.put, List.setIfInBounds_toArray, List.set_cons_zero, List.set_cons_succ]
  refine heldTake 19 (some 22) (v := ?_) rfl rfl (by kernel_rfl) (by kernel_rfl) (by kernel_rfl) (by rfl) hHeld (fun _ _ _ h => h) ?_ ?_
  rotate_left
  · intro w' hSw; (try dsimp only at hSw); go_simp <;> with_reducible rfl
  simp only [Act.put, List.setIfInBounds_toArray, List.set_cons_zero, List.set_cons_succ]
  refine heldTake 20 (some 23) (v := ?_) rfl rfl (by kernel_rfl) (by kernel_rfl) (by kernel_rfl) (by rfl) hHeld (fun _ _ _ h => h) ?_ ?_
  rotate_left
  · intro w' hSw; (try dsimp only at hSw); go_simp <;> with_reducible rfl
  simp only [Act.put, List.setIfInBounds_toArray, List.set_cons_zero, List.set_cons_succ]
  refine heldTake 21 (some 24) (v := ?_) rfl rfl (by kernel_rfl) (by kernel_rfl) (by kernel_rfl) (by rfl) hHeld (fun _ _ _ h => h) ?_ ?_
  rotate_left
  · intro w' hSw; (try dsimp only at hSw); go_simp <;> with_reducible rfl
  simp only [Act.put, List.setIfInBounds_toArray, List.set_cons_zero, List.set_cons_succ]
  refine heldTake 22 (some 2) (v := ?_) rfl rfl (by kernel_rfl) (by kernel_rfl) (by kernel_rfl) (by rfl) hHeld (fun _ _ _ h => h) ?_ ?_
  rotate_left
  · intro w' hSw; (try dsimp only at hSw); go_simp <;> with_reducible rfl
  simp only [Act.put, List.setIfInBounds_toArray, List.set_cons_zero, List.set_cons_succ]
  refine wpAnyH_done (by kernel_rfl) ?_ _
  refine NoPanic.normal ?_
  go_wp2_with fail
  go_ret
  exact ⟨ret_intF (num_word c0 c1 c2 c3), (Below.refl _ _).drew⟩
theorem tnum_any (F : Nat → Prop) (A : Option Addr) (c : Nat) (l : List UInt8) (w : World) (hv : RdB w F (.slice A 4 c) l) (hl : l.length = 4) :
    Calls Tryz.prog 79 #[.slice A 4 c] w fun e w' => e = .returned (.int .u32 ((num4L l 0 : Nat) : Int)) ∧ Below w.heap.size w w' := by
  match l, hl with
  | [c0, c1, c2, c3], _ =>
  have hv' : RdB w F (.slice A ([c0, c1, c2, c3] : List UInt8).length c) [c0, c1, c2, c3] := hv
  obtain ⟨b, off, rfl, _, g0⟩ := RdB.byte hv' (k := 0) (by simp)
  obtain ⟨b1, off1, e1, _, g1⟩ := RdB.byte hv' (k := 1) (by simp)
  obtain ⟨b2, off2, e2, _, g2⟩ := RdB.byte hv' (k := 2) (by simp)
  obtain ⟨b3, off3, e3, _, g3⟩ := RdB.byte hv' (k := 3) (by simp)
  simp only [Option.some.injEq, Addr.mk.injEq, and_true] at e1 e2 e3
  obtain ⟨rfl, rfl⟩ := e1
  obtain ⟨rfl, rfl⟩ := e2
  obtain ⟨rfl, rfl⟩ := e3
  exact tnum_raw b off c c0 c1 c2 c3 w g0 g1 g2 g3
theorem num4_cut {l : List UInt8} {k : Nat} : num4L ((l.drop k).take 4) 0 = num4L l k := by
  have key : ∀ i, i < 4 → ((l.drop k).take 4).getD (0 + i) 0 = l.getD (k + i) 0 := by
    intro i hi
    simp only [List.getD_eq_getElem?_getD, Nat.zero_add]
    rw [List.getElem?_take, if_pos hi, List.getElem?_drop]
  unfold num4L
  rw [show (0 : Nat) + 1 = 0 + 1 from rfl, key 1 (by omega), key 2 (by omega), key 3 (by omega)]
  have := key 0 (by omega)
  rw [Nat.zero_add] at this
  rw [this]
  rfl

theorem own_app {w : World} {base : Nat} {v : Value} {a b : List UInt8} (h : w.ownsRow base 5 1 v (a.length + b.length) (bv a ++ bv b)) : OwnB w base v (a ++ b) := by
  unfold OwnB; rw [List.length_append, show bv (a ++ b) = bv a ++ bv b from by simp [bv]]; exact h
theorem FrNil {w0 w : World} {k e : Int} (hb : Below w0.heap.size w0 w) : Fr3 ([], k, e) w0 (.returned (.tuple #[.slice none 0 0, .int .i64 k, .int .i64 e])) w := ⟨_, rfl, World.ownsRow_nil _ _ _ _, hb⟩
set_option maxRecDepth 100000 in
set_option maxHeartbeats 4000000 in
theorem tnext_any (v : Value) (l : List UInt8) (k : Int) (w : World) (hv : RdB w (· < w.heap.size) v l) :
    Calls Tryz.prog 40 #[v, .int .i64 k] w (Fr3 (nextF l k) w) := by
  have hnf : nextF l k = nextF l k := rfl
  conv at hnf => rhs; unfold nextF
  obtain ⟨A, c, rfl, hc1, hc2, hc3⟩ := hv.open_
  have HC3 := Lib.hid hc3
  have HC2 := Lib.hid hc2
  unfold maxLen at hc2
  clear hc3
  by_cases h1 : k < 0
  · rw [if_pos (.inl h1)] at hnf
    rw [hnf]
    go_enter Tryz.func40, Tryz.ntmps40
    go_wp2_with fail
    go_ret3
    exact FrNil (Below.refl _ _)
  by_cases h2 : (l.length : Int) < k
  · rw [if_pos (.inr h2)] at hnf
    rw [hnf]
    go_enter Tryz.func40, Tryz.ntmps40
    go_wp2_with fail
    go_ret3
    exact FrNil (Below.refl _ _)
  obtain ⟨p, rfl⟩ : ∃ p : Nat, k = (p : Int) := ⟨k.toNat, by omega⟩
  rw [if_neg (by omega), Int.toNat_natCast] at hnf
  by_cases h3 : l.length < p + 8
  · rw [if_pos h3] at hnf
    rw [hnf]
    have q3 : (l.length : Int) - (p : Int) < 8 := by omega
    go_enter Tryz.func40, Tryz.ntmps40
    go_wp2_with fail
    go_ret3
    exact FrNil (Below.refl _ _)
  rw [if_neg h3] at hnf
  have q3 : ¬ (l.length : Int) - (p : Int) < 8 := by omega
  obtain ⟨i0, hi, hz0, hz1, hz2⟩ := info_parts infoB
  have hsl := fun (lo hi' : Nat) (e1 : lo ≤ hi') (e2 : hi' ≤ c) (w : World) => run_slice_lohi (P := Tryz.prog) (size := 1) Tryz.underlying29 hi hz1 A l.length c lo hi' e1 e2 w
  have hs1 := hsl p (p + 4) (by omega) (by omega)
  rw [show p + 4 - p = 4 by omega] at hs1
  have hcut : ∀ lo hi' : Nat, lo ≤ hi' → hi' ≤ l.length → RdB w (· < w.heap.size) (.slice (cutA A c lo 1) (hi' - lo) (c - lo)) ((l.drop lo).take (hi' - lo)) := fun lo hi' e1 e2 => by
    have := Rd.cut' hv e1 e2 (show hi' ≤ c by omega) (Nat.le_refl c)
    unfold RdB
    rw [List.length_take, List.length_drop, Nat.min_eq_left (by omega)]
    rwa [Nat.mul_one, Nat.mul_one, show (bv l).drop lo = bv (l.drop lo) from by simp [bv], show (bv (l.drop lo)).take (hi' - lo) = bv ((l.drop lo).take (hi' - lo)) from by simp [bv]] at this
  have hr1 := hcut p (p + 4) (by omega) (by omega)
  rw [show p + 4 - p = 4 by omega] at hr1
  have hl4 : ((l.drop p).take 4).length = 4 := by rw [List.length_take, List.length_drop]; omega
  have CN := tnum_any _ _ _ _ w hr1 hl4
  rw [num4_cut] at CN
  have HCN := Lib.hid CN
  have hnlt : num4L l p < 4294967296 := num4_lt _ _ _ _
  have HI := Lib.hid hi
  have HZ0 := Lib.hid hz0
  have HZ1 := Lib.hid hz1
  have HZ2 := Lib.hid hz2
  have HSL := Lib.hid hsl
  have HCUT := Lib.hid hcut
  clear CN hi hz0 hz1 hz2 hsl hcut
  have hcast : ((p + 4 : Nat) : Int) = (p : Int) + 4 := by omega
  rw [hcast] at hs1
  by_cases h4 : 1048576 < num4L l p
  · rw [if_pos h4] at hnf
    rw [hnf]
    have q4 : (1048576 : Int) < ((num4L l p : Nat) : Int) := by omega
    generalize num4L l p = n at *
    go_enter Tryz.func40, Tryz.ntmps40
    go_wp2_with fail
    (with_reducible refine HCN.out.mono ?_)
    rintro e w1 ⟨rfl, hb1⟩
    go_wp2_with fail
    go_ret3
    exact FrNil hb1
  rw [if_neg h4] at hnf
  have q4 : ¬ (1048576 : Int) < ((num4L l p : Nat) : Int) := by omega
  by_cases h5 : l.length < p + 8 + num4L l p
  · rw [if_pos h5] at hnf
    rw [hnf]
    have q5 : (l.length : Int) - (p : Int) - 8 < ((num4L l p : Nat) : Int) := by omega
    generalize num4L l p = n at *
    go_enter Tryz.func40, Tryz.ntmps40
    go_wp2_with fail
    (with_reducible refine HCN.out.mono ?_)
    rintro e w1 ⟨rfl, hb1⟩
    go_wp2_with fail
    go_ret3
    exact FrNil hb1
  rw [if_neg h5] at hnf
  have q5 : ¬ (l.length : Int) - (p : Int) - 8 < ((num4L l p : Nat) : Int) := by omega
  have hs2 := HSL.out (p + 8) (p + 8 + num4L l p) (by omega) (by omega)
  have hs3 := HSL.out (p + 4) (p + 8) (by omega) (by omega)
  have hr2 := HCUT.out (p + 8) (p + 8 + num4L l p) (by omega) (by omega)
  have hr3 := HCUT.out (p + 4) (p + 8) (by omega) (by omega)
  rw [show p + 8 + num4L l p - (p + 8) = num4L l p by omega] at hs2 hr2
  rw [show p + 8 - (p + 4) = 4 by omega] at hs3 hr3
  have hl43 : ((l.drop (p + 4)).take 4).length = 4 := by rw [List.length_take, List.length_drop]; omega
  have hlb : ((l.drop (p + 8)).take (num4L l p)).length = num4L l p := by rw [List.length_take, List.length_drop]; omega
  have HNC : Hid (num4L ((l.drop (p + 4)).take 4) 0 = num4L l (p + 4)) := Lib.hid num4_cut
  have hn2lt : num4L l (p + 4) < 4294967296 := num4_lt _ _ _ _
  have HRS : Hid (rSum ((l.drop p).take 4 ++ (l.drop (p + 8)).take (num4L l p)) = crcSum ((l.drop p).take 4) ((l.drop (p + 8)).take (num4L l p))) := Lib.hid (rSum_append _ _)
  rw [show ((p + 8 : Nat) : Int) = (p : Int) + 8 by omega, show ((p + 8 + num4L l p : Nat) : Int) = (p : Int) + 8 + ((num4L l p : Nat) : Int) by omega] at hs2
  rw [show ((p + 4 : Nat) : Int) = (p : Int) + 4 by omega, show ((p + 8 : Nat) : Int) = (p : Int) + 8 by omega] at hs3
  have HNF := Lib.hid hnf
  clear hnf HSL HCUT
  generalize nextF l (p : Int) = res at *
  generalize (l.drop p).take 4 = hd at *
  generalize (l.drop (p + 4)).take 4 = hd2 at *
  generalize (l.drop (p + 8)).take (num4L l p) = body at *
  generalize num4L l (p + 4) = n2 at *
  generalize num4L l p = n at *
  go_enter Tryz.func40, Tryz.ntmps40
  go_wp2_with fail
  (with_reducible refine HCN.out.mono ?_)
  rintro e w1 ⟨rfl, hb1⟩
  clear HCN
  have hsz1 := hb1.size
  have hown0 := own_empty w1 w1.heap.size 5 1 (Nat.le_refl _)
  have hrb : Rd (w1.alloc (.cells #[] 5)) (· < w.heap.size) 1 (.slice (cutA A c (p + 8) 1) n (c - (p + 8))) n (bv body) := by
    have h := Rd.keep (w' := w1.alloc (.cells #[] 5)) hr2 (fun b hb' => (Below.heap_alloc w1 _ b (by omega)).trans (hb1.block b hb'))
    rw [hlb] at h; exact h
  have hi := HI.out
  have hz0 := HZ0.out
  have hz1 := HZ1.out
  have hz2 := HZ2.out
  go_wp2_with (at_builtin; refine wpList_append_app _ rfl (.tmp 38) (.tmp 46) 29 rfl w1.heap.size 5 i0 _ 1 1 Tryz.underlying29 hi hz0 hz1 hz2 rfl (by omega) _ 0 [] rfl (.inl hown0) (· < w.heap.size) _ n (bv body) rfl hrb (bv_one body) (by unfold maxLen; omega) (by omega) (by simp) ?_; intro vA wA _ hA hgA hbA _; have hA := hA (.inr hown0); rw [Nat.zero_add, List.nil_append] at hA; obtain ⟨AA, cA, rfl, _, _, _⟩ := Rd.open_ (Rd.of_own hA); have hbA1 : Below w1.heap.size w1 wA := (Below.of_alloc _).trans hbA; have hsA := hbA1.size)
  clear hi hz0 hz1 hz2
  have hOA : OwnB wA w1.heap.size (.slice AA n cA) body := by unfold OwnB; rw [hlb]; exact hA
  have hw4 : IntKind.i64.wrap ((p : Int) + 4) = (p : Int) + 4 := IntWalk.i64_in _ (by omega)
  have hw8 : IntKind.i64.wrap ((p : Int) + 8) = (p : Int) + 8 := IntWalk.i64_in _ (by omega)
  refine wp_region_noPanic ?_
  refine wp_region_held_drew (S := (fun w' => Below wA.heap.size wA w')) (by kernel_rfl) ?_ (fun hHeld => ?_)
  · exact (Below.refl _ _).drew
  refine heldTake 1 (some 49) (v := ?_) rfl rfl (by kernel_rfl) (by kernel_rfl) (by kernel_rfl) (by rfl) hHeld (fun _ _ _ h => h) ?_ ?_
  rotate_left
  · intro w' hSw; (try dsimp only at hSw); go_simp <;> with_reducible rfl
  simp only [Act.put, List.setIfInBounds_toArray, List.set_cons_zero, List.set_cons_succ]
  refine heldTake 2 (some 50) (v := ?_) rfl rfl (by kernel_rfl) (by kernel_rfl) (by kernel_rfl) (by rfl) hHeld (fun _ _ _ h => h) ?_ ?_
  rotate_left
  · intro w' hSw; (try dsimp only at hSw); go_simp <;> with_reducible rfl
  simp only [Act.put, List.setIfInBounds_toArray, List.set_cons_zero, List.set_cons_succ]
  refine heldTake 3 (some 51) (v := ?_) rfl rfl (by kernel_rfl) (by kernel_rfl) (by kernel_rfl) (by rfl) hHeld (fun _ _ _ h => h) ?_ ?_
  rotate_left
  · intro w' hSw; (try dsimp only at hSw); go_simp <;> with_reducible rfl
  simp only [Act.put, List.setIfInBounds_toArray, List.set_cons_zero, List.set_cons_succ]
  refine heldTake 4 (some 52) (v := ?_) rfl rfl (by kernel_rfl) (by kernel_rfl) (by kernel_rfl) (by rfl) hHeld (fun _ _ _ h => h) ?_ ?_
  rotate_left
  · intro w' hSw; (try dsimp only at hSw); go_simp <;> with_reducible rfl
  simp only [Act.put, List.setIfInBounds_toArray, List.set_cons_zero, List.set_cons_succ]
  refine heldTake 5 (some 53) (v := ?_) rfl rfl (by kernel_rfl) (by kernel_rfl) (by kernel_rfl) (by rfl) hHeld (fun _ _ _ h => h) ?_ ?_
  rotate_left
  · intro w' hSw; (try dsimp only at hSw); go_simp <;> with_reducible rfl
  simp only [Act.put, List.setIfInBounds_toArray, List.set_cons_zero, List.set_cons_succ]
  refine heldTake 7 (some 55) (v := ?_) rfl rfl (by kernel_rfl) (by kernel_rfl) (by kernel_rfl) (by rfl) hHeld (fun _ _ _ h => h) ?_ ?_
  rotate_left
  · intro w' hSw; (try dsimp only at hSw); go_simp <;> with_reducible rfl
  simp only [Act.put, List.setIfInBounds_toArray, List.set_cons_zero, List.set_cons_succ]
  refine heldTake 10 (some 58) (v := ?_) rfl rfl (by kernel_rfl) (by kernel_rfl) (by kernel_rfl) (by rfl) hHeld (fun _ _ _ h => h) ?_ ?_
  rotate_left
  · intro w' hSw; (try dsimp only at hSw); go_simp <;> with_reducible rfl
  simp only [Act.put, List.setIfInBounds_toArray, List.set_cons_zero, List.set_cons_succ]
  refine heldTake 11 (some 59) (v := ?_) rfl rfl (by kernel_rfl) (by kernel_rfl) (by kernel_rfl) (by rfl) hHeld (fun _ _ _ h => h) ?_ ?_
  rotate_left
  · intro w' hSw; (try dsimp only at hSw); go_simp <;> with_reducible rfl
  simp only [Act.put, List.setIfInBounds_toArray, List.set_cons_zero, List.set_cons_succ]
  refine heldTake 12 (some 60) (v := ?_) rfl rfl (by kernel_rfl) (by kernel_rfl) (by kernel_rfl) (by rfl) hHeld (fun _ _ _ h => h) ?_ ?_
  rotate_left
  · intro w' hSw; (try dsimp only at hSw); go_simp <;> with_reducible rfl
  simp only [Act.put, List.setIfInBounds_toArray, List.set_cons_zero, List.set_cons_succ]
  refine heldTake 13 (some 61) (v := ?_) rfl rfl (by kernel_rfl) (by kernel_rfl) (by kernel_rfl) (by rfl) hHeld (fun _ _ _ h => h) ?_ ?_
  rotate_left
  · intro w' hSw; (try dsimp only at hSw); go_simp <;> with_reducible rfl
  simp only [Act.put, List.setIfInBounds_toArray, List.set_cons_zero, List.set_cons_succ]
  refine heldTake 14 (some 62) (v := ?_) rfl rfl (by kernel_rfl) (by kernel_rfl) (by kernel_rfl) (by rfl) hHeld (fun _ _ _ h => h) ?_ ?_
  rotate_left
  · intro w' hSw; (try dsimp only at hSw); go_simp <;> with_reducible rfl
  simp only [Act.put, List.setIfInBounds_toArray, List.set_cons_zero, List.set_cons_succ]
  refine heldTake 15 (some 63) (v := ?_) rfl rfl (by kernel_rfl) (by kernel_rfl) (by kernel_rfl) (by rfl) hHeld (fun _ _ _ h => h) ?_ ?_
  rotate_left
  · intro w' hSw; (try dsimp only at hSw); go_simp <;> with_reducible rfl
  simp only [Act.put, List.setIfInBounds_toArray, List.set_cons_zero, List.set_cons_succ]
  have hNew : (fun w' => Below wA.heap.size wA w') (wA.drew.alloc (.cells #[] 5)) := by exact (Below.refl _ _).drew.alloc (Nat.le_refl _) _
  refine heldRun 0 (some 48) (v := .slice (some ⟨wA.drew.heap.size, 0, none⟩) 0 0) (w' := wA.drew.alloc (.cells #[] 5)) rfl rfl (by kernel_rfl) (by rfl) ?_ hNew ?_
  · go_simp <;> with_reducible rfl
  clear hHeld
  have hHeld := hNew
  clear hNew
  simp only [Act.put, List.setIfInBounds_toArray, List.set_cons_zero, List.set_cons_succ]
  refine heldOp 6 rfl (by kernel_rfl) (by rfl) ?_
  obtain ⟨x0, hx0⟩ : ∃ w', w' = wA.drew.alloc (.cells #[] 5) := ⟨_, rfl⟩
  rw [← hx0]
  have hE : x0.ownsRow wA.heap.size 5 1 (.slice (some ⟨wA.drew.heap.size, 0, none⟩) 0 0) 0 [] := by rw [hx0]; exact own_empty _ _ _ 1 (Nat.le_refl _)
  have hbx0 : Below wA.heap.size wA x0 := by rw [hx0]; exact (Below.refl _ _).drew.alloc (Nat.le_refl _) _
  have hsx0 := hbx0.size
  have hrd1 : Rd x0 (· < w.heap.size) 1 (.slice (cutA A c p 1) 4 (c - p)) 4 (bv hd) := by have h := Rd.keep (w' := x0) hr1 (fun b hb' => (hbx0.block b (by omega)).trans ((hbA1.block b (by omega)).trans (hb1.block b hb'))); rw [hl4] at h; exact h
  refine wp_append_app _ (.tmp 48) (.tmp 53) 29 rfl wA.heap.size 5 i0 _ 1 1 Tryz.underlying29 HI.out HZ0.out HZ1.out HZ2.out rfl (by omega) _ 0 [] rfl (.inl hE) _ _ 4 (bv hd) rfl hrd1 (bv_one hd) (by unfold maxLen; omega) (by omega) (by omega) ?_
  intro v6 x6 _ h6 hg6 hb6 _
  have h6 := h6 (.inr hE)
  rw [Nat.zero_add, List.nil_append] at h6
  obtain ⟨A6, c6, rfl, z1, z2, z3⟩ := Rd.open_ (Rd.of_own h6)
  clear z3
  have hbx6 : Below wA.heap.size wA x6 := hbx0.trans hb6
  refine keepAnd ?_ (fun hNew => ?_)
  · exact hbx6
  clear hHeld
  have hHeld := hNew
  clear hNew
  simp only [Act.put, List.setIfInBounds_toArray, List.set_cons_zero, List.set_cons_succ]
  refine heldOp 8 rfl (by kernel_rfl) (by rfl) ?_
  have hsx6 := hbx6.size
  have hrd8 : Rd x6 (· < wA.heap.size) 1 (.slice AA n cA) n (bv body) := by have h := Rd.keep (w' := x6) hOA.rd (fun b hb' => hbx6.block b hb'); rw [hlb] at h; exact h
  refine wp_append_app _ (.tmp 54) (.tmp 55) 29 rfl wA.heap.size 5 i0 _ 1 1 Tryz.underlying29 HI.out HZ0.out HZ1.out HZ2.out rfl (by omega) _ 4 (bv hd) rfl (.inl h6) _ _ n (bv body) rfl hrd8 (bv_one body) (by unfold maxLen; omega) (by omega) (by omega) ?_
  intro v8 x8 _ h8 hg8 hb8 _
  have h8 := h8 (.inr h6)
  obtain ⟨A8, c8, rfl, z1', z2', z3'⟩ := Rd.open_ (Rd.of_own h8)
  clear z3'
  have hbx8 : Below wA.heap.size wA x8 := hbx6.trans hb8
  have hO8 : OwnB x8 wA.heap.size (.slice A8 (4 + n) c8) (hd ++ body) := own_app (by rw [hl4, hlb]; exact h8)
  have hsx8 := hbx8.size
  refine keepAnd ?_ (fun hNew => ?_)
  · exact hbx8
  clear hHeld
  have hHeld := hNew
  clear hNew
  simp only [Act.put, List.setIfInBounds_toArray, List.set_cons_zero, List.set_cons_succ]
  refine heldCall 9 (some 57) (f := ?_) (args := ?_) rfl rfl (by kernel_rfl) (by rfl) ?_ ?_
  rotate_left 2
  · go_simp <;> first | (constructor <;> with_reducible rfl) | with_reducible rfl
  (with_reducible refine (tsum_any _ _ (hd ++ body) x8 hO8.rd).mono ?_)
  rintro e x9 ⟨he, rfl⟩
  rw [HRS.out] at he
  subst he
  have hcl : crcSum hd body < 4294967296 := by unfold crcSum; omega
  refine ⟨_, rfl, keepAnd ?_ (fun hNew => ?_)⟩
  · exact hbx8
  clear hHeld
  have hHeld := hNew
  clear hNew
  simp only [Act.put, List.setIfInBounds_toArray, List.set_cons_zero, List.set_cons_succ]
  refine heldCall 16 (some 64) (f := ?_) (args := ?_) rfl rfl (by kernel_rfl) (by rfl) ?_ ?_
  rotate_left 2
  · go_simp <;> first | (constructor <;> with_reducible rfl) | with_reducible rfl
  have hr3' : RdB x8 (· < w.heap.size) (.slice (cutA A c (p + 4) 1) 4 (c - (p + 4))) hd2 := Rd.keep hr3 (fun b hb' => (hbx8.block b (by omega)).trans ((hbA1.block b (by omega)).trans (hb1.block b hb')))
  (with_reducible refine (tnum_any _ _ _ hd2 x8 hr3' hl43).mono ?_)
  rintro e x16 ⟨he, hb16⟩
  rw [HNC.out] at he
  subst he
  have hbx16 : Below wA.heap.size wA x16 := hbx8.trans (hb16.mono hsx8)
  have hOF : OwnB x16 w1.heap.size (.slice AA n cA) body := hOA.below hbx16
  have hbF : Below w.heap.size w x16 := (hb1.trans (hbA1.mono hsz1)).trans (hbx16.mono (by omega))
  refine ⟨_, rfl, keepAnd ?_ (fun hNew => ?_)⟩
  · exact hbx16
  clear hHeld
  have hHeld := hNew
  clear hNew
  simp only [Act.put, List.setIfInBounds_toArray, List.set_cons_zero, List.set_cons_succ]
  refine heldTake 17 (some 65) (v := ?_) rfl rfl (by kernel_rfl) (by kernel_rfl) (by kernel_rfl) (by rfl) hHeld (fun _ _ _ h => h) ?_ ?_
  rotate_left
  · intro w' hSw; (try dsimp only at hSw); go_simp <;> with_reducible rfl
  simp only [Act.put, List.setIfInBounds_toArray, List.set_cons_zero, List.set_cons_succ]
  refine wpAnyH_done (by kernel_rfl) ?_ _
  refine NoPanic.normal ?_
  by_cases hce : n2 = crcSum hd body
  · have HR : Hid (res = (body, (p : Int) + 8 + (n : Nat), 0)) := Lib.hid (by rw [HNF.out, if_neg (fun h => h hce)])
    have b1 : (((crcSum hd body : Nat) : Int) != ((n2 : Nat) : Int)) = false := by rw [hce]; simp
    clear HNF
    generalize crcSum hd body = cs at *
    go_wp2_with fail
    go_ret3
    rw [HR.out]
    exact ⟨_, rfl, OwnB.base hOF hsz1, hbF⟩
  · have HR : Hid (res = ([], 0, 4)) := Lib.hid (by rw [HNF.out, if_pos hce])
    have b1 : (((crcSum hd body : Nat) : Int) != ((n2 : Nat) : Int)) = true := by rw [bne_iff_ne]; omega
    clear HNF
    generalize crcSum hd body = cs at *
    go_wp2_with fail
    go_ret3
    rw [HR.out]
    exact FrNil hbF

end Go.Proofs.YtacjiocffbgkkaaGreat
