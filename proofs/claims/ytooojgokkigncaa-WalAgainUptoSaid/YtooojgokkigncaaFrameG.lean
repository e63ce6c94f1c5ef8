/-
  Frames: reading the next one.
-/
import Derived.Test.YtooojgokkigncaaFrameF
namespace Go.Proofs.Ytooojgokkigncaa
open Go.RowKit Go.Lib Go.IntWalk

theorem cut_at' {b off c k : Nat} (h : ¬ c = k) : cutA (some ⟨b, off, none⟩) c k 1 = some ⟨b, off + k, none⟩ := by
  unfold cutA Addr.add
  rw [if_neg h]
  by_cases hk : k = 0 <;> simp [hk]
theorem sl_lo (b off n c k : Nat) (h1 : k ≤ n) (h2 : ¬ c = k) (w : World) : (Instr.slice 23 (.slice (some ⟨b, off, none⟩) n c) (some (.int .i64 (k : Int))) none none).run Try.prog w = .ok (.slice (some ⟨b, off + k, none⟩) (n - k) (c - k)) w := by
  obtain ⟨i0, hi, hz0, hz1, hz2⟩ := info_parts infoB
  rw [run_slice_lo (P := Try.prog) Try.underlying23 hi hz1 _ n c k h1, cut_at' h2]
theorem sl_hi (b off n c k : Nat) (h1 : k ≤ c) (w : World) : (Instr.slice 23 (.slice (some ⟨b, off, none⟩) n c) none (some (.int .i64 (k : Int))) none).run Try.prog w = .ok (.slice (some ⟨b, off, none⟩) k c) w := by
  obtain ⟨i0, hi, hz0, hz1, hz2⟩ := info_parts infoB
  exact run_slice_hi (P := Try.prog) Try.underlying23 hi _ n c k h1 w
theorem sl_lohi (b off n c k j : Nat) (h1 : k ≤ j) (h2 : j ≤ c) (w : World) : (Instr.slice 23 (.slice (some ⟨b, off, none⟩) n c) (some (.int .i64 (k : Int))) (some (.int .i64 (j : Int))) none).run Try.prog w = .ok (.slice (cutA (some ⟨b, off, none⟩) c k 1) (j - k) (c - k)) w := by
  obtain ⟨i0, hi, hz0, hz1, hz2⟩ := info_parts infoB
  exact run_slice_lohi (P := Try.prog) Try.underlying23 hi hz1 _ n c k j h1 h2 w
theorem rd_empty (w : World) (F : Nat → Prop) (x : Addr) (c : Nat) (hc : c ≤ maxLen) : RdB w F (.slice (some x) 0 c) [] :=
  ⟨rfl, _, c, rfl, Nat.zero_le _, hc, fun h => (Option.some_ne_none _ h).elim, fun h => absurd h (by simp)⟩
theorem rd_lohi {w : World} {F : Nat → Prop} {b off n c : Nat} {l : List UInt8} (h : RdB w F (.slice (some ⟨b, off, none⟩) l.length c) l) (h1 : 8 + n ≤ l.length) (h2 : l.length ≤ c) (h3 : c ≤ maxLen) :
    ∃ x, cutA (some ⟨b, off, none⟩) c 8 1 = some x ∧ RdB w F (.slice (some x) n (c - 8)) ((l.drop 8).take n) := by
  by_cases hc : c = 8
  · have hn : n = 0 := by omega
    subst hn
    refine ⟨⟨b, off, none⟩, by unfold cutA; rw [if_pos hc], ?_⟩
    rw [List.take_zero]
    exact rd_empty w F _ _ (by omega)
  · refine ⟨⟨b, off + 8, none⟩, cut_at' hc, ?_⟩
    exact h.sub (o := 8) (k := n) h1 (by omega) (by omega) (by omega)

set_option maxRecDepth 100000 in
set_option maxHeartbeats 1000000 in
theorem next_long (b off c k n : Nat) (l : List UInt8) (w : World) (hv : RdB w (· < w.heap.size) (.slice (some ⟨b, off, none⟩) l.length c) l) (hlc : l.length ≤ c) (hk : k + 8 ≤ l.length) (hn : num4L l k = n) (h : 1048576 < n) :
    Calls Try.prog 66 #[.slice (some ⟨b, off, none⟩) l.length c, .int .i64 (k : Int)] w (Fr3 ([], 0, 5) w) := by
  have hm := num4_lt (l.getD k 0) (l.getD (k + 1) 0) (l.getD (k + 2) 0) (l.getD (k + 3) 0)
  obtain ⟨b', off', e, hF, hcell⟩ := bytes_at hv (by omega)
  simp only [Option.some.injEq, Addr.mk.injEq, and_true] at e
  obtain ⟨rfl, rfl⟩ := e
  have hG := Lib.hid (fun W (hW : Below w.heap.size w W) => get4_any b (off + k) (l.length - k) (c - k) (l.getD k 0) (l.getD (k + 1) 0) (l.getD (k + 2) 0) (l.getD (k + 3) 0) W (by omega)
    ((hW.cell (p := ⟨b, off + k, none⟩) hF).trans (hcell k (by omega))) ((hW.cell (p := ⟨b, off + k + 1, none⟩) hF).trans (hcell (k + 1) (by omega))) ((hW.cell (p := ⟨b, off + k + 2, none⟩) hF).trans (hcell (k + 2) (by omega))) ((hW.cell (p := ⟨b, off + k + 3, none⟩) hF).trans (hcell (k + 3) (by omega))))
  rw [show num4 (l.getD k 0) (l.getD (k + 1) 0) (l.getD (k + 2) 0) (l.getD (k + 3) 0) = n from hn] at hG hm
  have hsl := sl_lo b off l.length c k (by omega) (by omega)
  have q0 : ¬ (k : Int) < 0 := by omega
  have q1 : ¬ (l.length : Int) < (k : Int) := by omega
  have q2 : ¬ ((l.length - k : Nat) : Int) < 8 := by omega
  have q3 : (1048576 : Int) < (n : Int) := by omega
  go_enter Try.func66, Try.ntmps66
  go_wp2_with fail
  (with_reducible refine (hG.out _ (Below.refl _ _)).mono ?_)
  rintro e w1 ⟨rfl, hb1⟩
  go_wp2_with fail
  all_goals
    go_ret3
    exact ⟨_, rfl, OwnB.nil _ _, hb1⟩

set_option maxRecDepth 100000 in
set_option maxHeartbeats 1000000 in
theorem next_cut (b off c k n : Nat) (l : List UInt8) (w : World) (hv : RdB w (· < w.heap.size) (.slice (some ⟨b, off, none⟩) l.length c) l) (hlc : l.length ≤ c) (hk : k + 8 ≤ l.length) (hn : num4L l k = n) (h : ¬ 1048576 < n) (h2 : l.length < k + 8 + n) :
    Calls Try.prog 66 #[.slice (some ⟨b, off, none⟩) l.length c, .int .i64 (k : Int)] w (Fr3 ([], 0, 2) w) := by
  have hm := num4_lt (l.getD k 0) (l.getD (k + 1) 0) (l.getD (k + 2) 0) (l.getD (k + 3) 0)
  obtain ⟨b', off', e, hF, hcell⟩ := bytes_at hv (by omega)
  simp only [Option.some.injEq, Addr.mk.injEq, and_true] at e
  obtain ⟨rfl, rfl⟩ := e
  have hG := Lib.hid (fun W (hW : Below w.heap.size w W) => get4_any b (off + k) (l.length - k) (c - k) (l.getD k 0) (l.getD (k + 1) 0) (l.getD (k + 2) 0) (l.getD (k + 3) 0) W (by omega)
    ((hW.cell (p := ⟨b, off + k, none⟩) hF).trans (hcell k (by omega))) ((hW.cell (p := ⟨b, off + k + 1, none⟩) hF).trans (hcell (k + 1) (by omega))) ((hW.cell (p := ⟨b, off + k + 2, none⟩) hF).trans (hcell (k + 2) (by omega))) ((hW.cell (p := ⟨b, off + k + 3, none⟩) hF).trans (hcell (k + 3) (by omega))))
  rw [show num4 (l.getD k 0) (l.getD (k + 1) 0) (l.getD (k + 2) 0) (l.getD (k + 3) 0) = n from hn] at hG hm
  have hsl := sl_lo b off l.length c k (by omega) (by omega)
  have q0 : ¬ (k : Int) < 0 := by omega
  have q1 : ¬ (l.length : Int) < (k : Int) := by omega
  have q2 : ¬ ((l.length - k : Nat) : Int) < 8 := by omega
  have q3 : ¬ (1048576 : Int) < (n : Int) := by omega
  have q4 : ((l.length - k : Nat) : Int) - 8 < (n : Int) := by omega
  go_enter Try.func66, Try.ntmps66
  go_wp2_with fail
  (with_reducible refine (hG.out _ (Below.refl _ _)).mono ?_)
  rintro e w1 ⟨rfl, hb1⟩
  go_wp2_with fail
  all_goals
    go_ret3
    exact ⟨_, rfl, OwnB.nil _ _, hb1⟩

set_option maxRecDepth 100000 in
set_option maxHeartbeats 2000000 in
theorem next_bad (b off c k n : Nat) (l : List UInt8) (w : World) (hv : RdB w (· < w.heap.size) (.slice (some ⟨b, off, none⟩) l.length c) l) (hlc : l.length ≤ c) (hk : k + 8 ≤ l.length) (hn : num4L l k = n) (s4 cs : Nat) (hs : num4L l (k + 4) = s4) (hc : crcSum ((l.drop k).take 4) ((l.drop (k + 8)).take n) = cs) (h : ¬ 1048576 < n) (h2 : ¬ l.length < k + 8 + n) (hcm : c ≤ maxLen) (h8 : ¬ c - k = 8) (hne : ¬ s4 = cs) :
    Calls Try.prog 66 #[.slice (some ⟨b, off, none⟩) l.length c, .int .i64 (k : Int)] w (Fr3 ([], 0, 4) w) := by
  have hm := num4_lt (l.getD k 0) (l.getD (k + 1) 0) (l.getD (k + 2) 0) (l.getD (k + 3) 0)
  obtain ⟨b', off', e, hF, hcell⟩ := bytes_at hv (by omega)
  simp only [Option.some.injEq, Addr.mk.injEq, and_true] at e
  obtain ⟨rfl, rfl⟩ := e
  have hG := Lib.hid (fun W (hW : Below w.heap.size w W) => get4_any b (off + k) (l.length - k) (c - k) (l.getD k 0) (l.getD (k + 1) 0) (l.getD (k + 2) 0) (l.getD (k + 3) 0) W (by omega)
    ((hW.cell (p := ⟨b, off + k, none⟩) hF).trans (hcell k (by omega))) ((hW.cell (p := ⟨b, off + k + 1, none⟩) hF).trans (hcell (k + 1) (by omega))) ((hW.cell (p := ⟨b, off + k + 2, none⟩) hF).trans (hcell (k + 2) (by omega))) ((hW.cell (p := ⟨b, off + k + 3, none⟩) hF).trans (hcell (k + 3) (by omega))))
  rw [show num4 (l.getD k 0) (l.getD (k + 1) 0) (l.getD (k + 2) 0) (l.getD (k + 3) 0) = n from hn] at hG hm
  have hsl := sl_lo b off l.length c k (by omega) (by omega)
  have q0 : ¬ (k : Int) < 0 := by omega
  have q1 : ¬ (l.length : Int) < (k : Int) := by omega
  have q2 : ¬ ((l.length - k : Nat) : Int) < 8 := by omega
  have hfl : (l.drop k).length = l.length - k := List.length_drop
  have hvf : RdB w (· < w.heap.size) (.slice (some ⟨b, off + k, none⟩) (l.drop k).length (c - k)) (l.drop k) := by
    have h := hv.sub (o := k) (k := l.length - k) (c' := c - k) (by omega) (by omega) (by omega) (by omega)
    rw [List.take_of_length_le (by rw [List.length_drop]; exact Nat.le_refl _)] at h
    rw [hfl]; exact h
  have hr4 : RdB w (· < w.heap.size) (.slice (some ⟨b, off + k, none⟩) 4 (c - k)) ((l.drop k).take 4) := hvf.sub (o := 0) (k := 4) (c' := c - k) (by omega) (by omega) (by omega) (by omega)
  obtain ⟨x, hx, hrn⟩ := rd_lohi (n := n) hvf (by omega) (by omega) (by omega)
  rw [List.drop_drop] at hrn
  have hG2 := Lib.hid (fun W (hW : Below w.heap.size w W) => get4_any b (off + k + 4) (l.length - k - 4) (c - k - 4) (l.getD (k + 4) 0) (l.getD (k + 4 + 1) 0) (l.getD (k + 4 + 2) 0) (l.getD (k + 4 + 3) 0) W (by omega)
    ((hW.cell (p := ⟨b, off + k + 4, none⟩) hF).trans (hcell (k + 4) (by omega))) ((hW.cell (p := ⟨b, off + k + 4 + 1, none⟩) hF).trans (hcell (k + 4 + 1) (by omega))) ((hW.cell (p := ⟨b, off + k + 4 + 2, none⟩) hF).trans (hcell (k + 4 + 2) (by omega))) ((hW.cell (p := ⟨b, off + k + 4 + 3, none⟩) hF).trans (hcell (k + 4 + 3) (by omega))))
  rw [show num4 (l.getD (k + 4) 0) (l.getD (k + 4 + 1) 0) (l.getD (k + 4 + 2) 0) (l.getD (k + 4 + 3) 0) = s4 from hs] at hG2
  have hs4 := sl_lo b (off + k) (l.length - k) (c - k) 4 (by omega) (by omega)
  rw [show ((4 : Nat) : Int) = 4 from rfl] at hs4
  have hh4 := sl_hi b (off + k) (l.length - k) (c - k) 4 (by omega)
  rw [show ((4 : Nat) : Int) = 4 from rfl] at hh4
  have hlh := sl_lohi b (off + k) (l.length - k) (c - k) 8 (8 + n) (by omega) (by omega)
  rw [hx, show ((8 : Nat) : Int) = 8 from rfl, show (((8 + n : Nat)) : Int) = 8 + (n : Int) by omega, Nat.add_sub_cancel_left] at hlh
  have q3 : ¬ (1048576 : Int) < (n : Int) := by omega
  have q7 : ((l.length - k : Nat) : Int) ≤ 9223372036854775807 := by unfold maxLen at hcm; omega
  have q4 : ¬ ((l.length - k : Nat) : Int) - 8 < (n : Int) := by omega
  have hw8 : IntKind.i64.wrap (8 + (n : Int)) = 8 + (n : Int) := IntWalk.i64_in _ (by omega)
  have q8 : (8 : Int) + (n : Int) ≤ ((c - k : Nat) : Int) := by omega
  have q9 : (0 : Int) ≤ 8 + (n : Int) := by omega
  have q10 : ((8 : Int) + (n : Int)).toNat - 8 = n := by omega
  have q11 : (8 : Int) ≤ max (8 + (n : Int)) 0 := by omega
  obtain rfl : x = ⟨b, off + k + 8, none⟩ := by rw [cut_at' h8] at hx; exact (Option.some.inj hx).symm
  have hsum := Lib.hid (fun W (hW : Below w.heap.size w W) => sum_any (· < w.heap.size) (· < w.heap.size) _ _ _ _ W (Rd.below hr4 hW) (Rd.below hrn hW))
  rw [hc] at hsum
  have q5 : ((s4 : Int) != (cs : Int)) = true := by rw [bne_iff_ne]; omega
  have q6 : ¬ s4 = cs := hne
  clear hx hs hc hn
  go_enter Try.func66, Try.ntmps66
  go_wp2_with fail
  (with_reducible refine (hG.out _ (Below.refl _ _)).mono ?_)
  rintro e w1 ⟨rfl, hb1⟩
  go_wp2_with fail
  refine wp_region_noPanic ?_
  refine wp_region_held_drew (S := (fun _ => True)) (by kernel_rfl) ?_ (fun hHeld => ?_)
  · trivial
  refine heldTake 0 (some 37) (v := ?_) rfl rfl (by kernel_rfl) (by kernel_rfl) (by kernel_rfl) (by rfl) hHeld (fun _ _ _ h => h) ?_ ?_
  rotate_left
  · intro w' hSw; (try dsimp only at hSw); go_simp <;> with_reducible rfl
  simp only [Act.put, List.setIfInBounds_toArray, List.set_cons_zero, List.set_cons_succ]
  refine heldTake 1 (some 38) (v := ?_) rfl rfl (by kernel_rfl) (by kernel_rfl) (by kernel_rfl) (by rfl) hHeld (fun _ _ _ h => h) ?_ ?_
  rotate_left
  · intro w' hSw; (try dsimp only at hSw); go_simp <;> with_reducible rfl
  simp only [Act.put, List.setIfInBounds_toArray, List.set_cons_zero, List.set_cons_succ]
  refine heldTake 3 (some 40) (v := ?_) rfl rfl (by kernel_rfl) (by kernel_rfl) (by kernel_rfl) (by rfl) hHeld (fun _ _ _ h => h) ?_ ?_
  rotate_left
  · intro w' hSw; (try dsimp only at hSw); go_simp <;> with_reducible rfl
  simp only [Act.put, List.setIfInBounds_toArray, List.set_cons_zero, List.set_cons_succ]
  refine heldTake 4 (some 41) (v := ?_) rfl rfl (by kernel_rfl) (by kernel_rfl) (by kernel_rfl) (by rfl) hHeld (fun _ _ _ h => h) ?_ ?_
  rotate_left
  · intro w' hSw; (try dsimp only at hSw); go_simp <;> with_reducible rfl
  simp only [Act.put, List.setIfInBounds_toArray, List.set_cons_zero, List.set_cons_succ]
  refine heldTake 5 (some 42) (v := ?_) rfl rfl (by kernel_rfl) (by kernel_rfl) (by kernel_rfl) (by rfl) hHeld (fun _ _ _ h => h) ?_ ?_
  rotate_left
  · intro w' hSw; (try dsimp only at hSw); go_simp <;> with_reducible rfl
  simp only [Act.put, List.setIfInBounds_toArray, List.set_cons_zero, List.set_cons_succ]
  refine heldTake 6 (some 43) (v := ?_) rfl rfl (by kernel_rfl) (by kernel_rfl) (by kernel_rfl) (by rfl) hHeld (fun _ _ _ h => h) ?_ ?_
  rotate_left
  · intro w' hSw; (try dsimp only at hSw); go_simp <;> with_reducible rfl
  simp only [Act.put, List.setIfInBounds_toArray, List.set_cons_zero, List.set_cons_succ]
  refine heldTake 7 (some 44) (v := ?_) rfl rfl (by kernel_rfl) (by kernel_rfl) (by kernel_rfl) (by rfl) hHeld (fun _ _ _ h => h) ?_ ?_
  rotate_left
  · intro w' hSw; (try dsimp only at hSw); go_simp <;> with_reducible rfl
  simp only [Act.put, List.setIfInBounds_toArray, List.set_cons_zero, List.set_cons_succ]
  refine heldTake 8 (some 45) (v := ?_) rfl rfl (by kernel_rfl) (by kernel_rfl) (by kernel_rfl) (by rfl) hHeld (fun _ _ _ h => h) ?_ ?_
  rotate_left
  · intro w' hSw; (try dsimp only at hSw); go_simp <;> with_reducible rfl
  simp only [Act.put, List.setIfInBounds_toArray, List.set_cons_zero, List.set_cons_succ]
  refine heldCall 2 (some 39) (f := ?_) (args := ?_) rfl rfl (by kernel_rfl) (by rfl) ?_ ?_
  rotate_left 2
  · go_simp <;> first | (constructor <;> with_reducible rfl) | with_reducible rfl
  (with_reducible refine (hG2.out _ hb1.drew).mono ?_)
  rintro e w2 ⟨rfl, hb2⟩
  have hB2 := hb1.drew.trans (hb2.mono hb1.drew.size)
  refine ⟨_, rfl, keepAnd ?_ (fun hNew => ?_)⟩
  · trivial
  clear hHeld
  have hHeld := hNew
  clear hNew
  simp only [Act.put, List.setIfInBounds_toArray, List.set_cons_zero, List.set_cons_succ]
  refine heldCall 9 (some 46) (f := ?_) (args := ?_) rfl rfl (by kernel_rfl) (by rfl) ?_ ?_
  rotate_left 2
  · go_simp <;> first | (constructor <;> with_reducible rfl) | with_reducible rfl
  (with_reducible refine (hsum.out _ hB2).mono ?_)
  rintro e w3 ⟨rfl, rfl⟩
  refine ⟨_, rfl, keepAnd ?_ (fun hNew => ?_)⟩
  · trivial
  clear hHeld
  have hHeld := hNew
  clear hNew
  simp only [Act.put, List.setIfInBounds_toArray, List.set_cons_zero, List.set_cons_succ]
  refine heldTake 10 (some 47) (v := ?_) rfl rfl (by kernel_rfl) (by kernel_rfl) (by kernel_rfl) (by rfl) hHeld (fun _ _ _ h => h) ?_ ?_
  rotate_left
  · intro w' hSw; (try dsimp only at hSw); go_simp <;> with_reducible rfl
  simp only [Act.put, List.setIfInBounds_toArray, List.set_cons_zero, List.set_cons_succ]
  refine heldTake 11 (some 36) (v := ?_) rfl rfl (by kernel_rfl) (by kernel_rfl) (by kernel_rfl) (by rfl) hHeld (fun _ _ _ h => h) ?_ ?_
  rotate_left
  · intro w' hSw; (try dsimp only at hSw); go_simp <;> with_reducible rfl
  simp only [Act.put, List.setIfInBounds_toArray, List.set_cons_zero, List.set_cons_succ]
  refine wpAnyH_done (by kernel_rfl) ?_ _
  refine NoPanic.normal ?_
  go_wp2_with fail
  all_goals
    go_ret3
    exact ⟨_, rfl, OwnB.nil _ _, hB2⟩

set_option maxRecDepth 100000 in
set_option maxHeartbeats 2000000 in
theorem next_ok (b off c k n : Nat) (l : List UInt8) (w : World) (hv : RdB w (· < w.heap.size) (.slice (some ⟨b, off, none⟩) l.length c) l) (hlc : l.length ≤ c) (hk : k + 8 ≤ l.length) (hn : num4L l k = n) (s4 cs : Nat) (hs : num4L l (k + 4) = s4) (hc : crcSum ((l.drop k).take 4) ((l.drop (k + 8)).take n) = cs) (h : ¬ 1048576 < n) (h2 : ¬ l.length < k + 8 + n) (hcm : c ≤ maxLen) (h8 : ¬ c - k = 8) (hne : s4 = cs) (hpos : 0 < n) :
    Calls Try.prog 66 #[.slice (some ⟨b, off, none⟩) l.length c, .int .i64 (k : Int)] w (Fr3 ((l.drop (k + 8)).take n, (k : Int) + 8 + (n : Int), 0) w) := by
  have hm := num4_lt (l.getD k 0) (l.getD (k + 1) 0) (l.getD (k + 2) 0) (l.getD (k + 3) 0)
  obtain ⟨b', off', e, hF, hcell⟩ := bytes_at hv (by omega)
  simp only [Option.some.injEq, Addr.mk.injEq, and_true] at e
  obtain ⟨rfl, rfl⟩ := e
  have hG := Lib.hid (fun W (hW : Below w.heap.size w W) => get4_any b (off + k) (l.length - k) (c - k) (l.getD k 0) (l.getD (k + 1) 0) (l.getD (k + 2) 0) (l.getD (k + 3) 0) W (by omega)
    ((hW.cell (p := ⟨b, off + k, none⟩) hF).trans (hcell k (by omega))) ((hW.cell (p := ⟨b, off + k + 1, none⟩) hF).trans (hcell (k + 1) (by omega))) ((hW.cell (p := ⟨b, off + k + 2, none⟩) hF).trans (hcell (k + 2) (by omega))) ((hW.cell (p := ⟨b, off + k + 3, none⟩) hF).trans (hcell (k + 3) (by omega))))
  rw [show num4 (l.getD k 0) (l.getD (k + 1) 0) (l.getD (k + 2) 0) (l.getD (k + 3) 0) = n from hn] at hG hm
  have hsl := sl_lo b off l.length c k (by omega) (by omega)
  have q0 : ¬ (k : Int) < 0 := by omega
  have q1 : ¬ (l.length : Int) < (k : Int) := by omega
  have q2 : ¬ ((l.length - k : Nat) : Int) < 8 := by omega
  have hfl : (l.drop k).length = l.length - k := List.length_drop
  have hvf : RdB w (· < w.heap.size) (.slice (some ⟨b, off + k, none⟩) (l.drop k).length (c - k)) (l.drop k) := by
    have h := hv.sub (o := k) (k := l.length - k) (c' := c - k) (by omega) (by omega) (by omega) (by omega)
    rw [List.take_of_length_le (by rw [List.length_drop]; exact Nat.le_refl _)] at h
    rw [hfl]; exact h
  have hr4 : RdB w (· < w.heap.size) (.slice (some ⟨b, off + k, none⟩) 4 (c - k)) ((l.drop k).take 4) := hvf.sub (o := 0) (k := 4) (c' := c - k) (by omega) (by omega) (by omega) (by omega)
  obtain ⟨x, hx, hrn⟩ := rd_lohi (n := n) hvf (by omega) (by omega) (by omega)
  rw [List.drop_drop] at hrn
  have hG2 := Lib.hid (fun W (hW : Below w.heap.size w W) => get4_any b (off + k + 4) (l.length - k - 4) (c - k - 4) (l.getD (k + 4) 0) (l.getD (k + 4 + 1) 0) (l.getD (k + 4 + 2) 0) (l.getD (k + 4 + 3) 0) W (by omega)
    ((hW.cell (p := ⟨b, off + k + 4, none⟩) hF).trans (hcell (k + 4) (by omega))) ((hW.cell (p := ⟨b, off + k + 4 + 1, none⟩) hF).trans (hcell (k + 4 + 1) (by omega))) ((hW.cell (p := ⟨b, off + k + 4 + 2, none⟩) hF).trans (hcell (k + 4 + 2) (by omega))) ((hW.cell (p := ⟨b, off + k + 4 + 3, none⟩) hF).trans (hcell (k + 4 + 3) (by omega))))
  rw [show num4 (l.getD (k + 4) 0) (l.getD (k + 4 + 1) 0) (l.getD (k + 4 + 2) 0) (l.getD (k + 4 + 3) 0) = s4 from hs] at hG2
  have hs4 := sl_lo b (off + k) (l.length - k) (c - k) 4 (by omega) (by omega)
  rw [show ((4 : Nat) : Int) = 4 from rfl] at hs4
  have hh4 := sl_hi b (off + k) (l.length - k) (c - k) 4 (by omega)
  rw [show ((4 : Nat) : Int) = 4 from rfl] at hh4
  have hlh := sl_lohi b (off + k) (l.length - k) (c - k) 8 (8 + n) (by omega) (by omega)
  rw [hx, show ((8 : Nat) : Int) = 8 from rfl, show (((8 + n : Nat)) : Int) = 8 + (n : Int) by omega, Nat.add_sub_cancel_left] at hlh
  have q3 : ¬ (1048576 : Int) < (n : Int) := by omega
  have q7 : ((l.length - k : Nat) : Int) ≤ 9223372036854775807 := by unfold maxLen at hcm; omega
  have q4 : ¬ ((l.length - k : Nat) : Int) - 8 < (n : Int) := by omega
  have hw8 : IntKind.i64.wrap (8 + (n : Int)) = 8 + (n : Int) := IntWalk.i64_in _ (by omega)
  have q8 : (8 : Int) + (n : Int) ≤ ((c - k : Nat) : Int) := by omega
  have q9 : (0 : Int) ≤ 8 + (n : Int) := by omega
  have q10 : ((8 : Int) + (n : Int)).toNat - 8 = n := by omega
  have q11 : (8 : Int) ≤ max (8 + (n : Int)) 0 := by omega
  obtain rfl : x = ⟨b, off + k + 8, none⟩ := by rw [cut_at' h8] at hx; exact (Option.some.inj hx).symm
  have hsum := Lib.hid (fun W (hW : Below w.heap.size w W) => sum_any (· < w.heap.size) (· < w.heap.size) _ _ _ _ W (Rd.below hr4 hW) (Rd.below hrn hW))
  rw [hc] at hsum
  subst hne
  have q12 : (k : Int) + 8 + (n : Int) ≤ 9223372036854775807 := by unfold maxLen at hcm; omega
  have hs8 := sl_lo b (off + k) (l.length - k) (c - k) 8 (by omega) (by omega)
  rw [show ((8 : Nat) : Int) = 8 from rfl] at hs8
  have hbl : ((l.drop (k + 8)).take n).length = n := by rw [List.length_take, List.length_drop]; omega
  generalize (l.drop (k + 8)).take n = body at *
  have HBL := Lib.hid hbl
  have hmk := make_bytes n (by omega)
  have hrl : (List.replicate n (0 : UInt8)).length = n := by simp
  have hrp : splice (bv (List.replicate n (0 : UInt8))) 0 (bv body) = bv body := by
    unfold splice
    rw [List.take_zero, List.nil_append, List.drop_eq_nil_of_le (by rw [bv_length, bv_length, hrl]; omega), List.append_nil]
  generalize List.replicate n (0 : UInt8) = Z at *
  have HRP := Lib.hid hrp
  have HRL := Lib.hid hrl
  clear hx hs hc hn hrp hrl hbl
  go_enter Try.func66, Try.ntmps66
  go_wp2_with fail
  (with_reducible refine (hG.out _ (Below.refl _ _)).mono ?_)
  rintro e w1 ⟨rfl, hb1⟩
  go_wp2_with fail
  refine wp_region_noPanic ?_
  refine wp_region_held_drew (S := (fun _ => True)) (by kernel_rfl) ?_ (fun hHeld => ?_)
  · trivial
  refine heldTake 0 (some 37) (v := ?_) rfl rfl (by kernel_rfl) (by kernel_rfl) (by kernel_rfl) (by rfl) hHeld (fun _ _ _ h => h) ?_ ?_
  rotate_left
  · intro w' hSw; (try dsimp only at hSw); go_simp <;> with_reducible rfl
  simp only [Act.put, List.setIfInBounds_toArray, List.set_cons_zero, List.set_cons_succ]
  refine heldTake 1 (some 38) (v := ?_) rfl rfl (by kernel_rfl) (by kernel_rfl) (by kernel_rfl) (by rfl) hHeld (fun _ _ _ h => h) ?_ ?_
  rotate_left
  · intro w' hSw; (try dsimp only at hSw); go_simp <;> with_reducible rfl
  simp only [Act.put, List.setIfInBounds_toArray, List.set_cons_zero, List.set_cons_succ]
  refine heldTake 3 (some 40) (v := ?_) rfl rfl (by kernel_rfl) (by kernel_rfl) (by kernel_rfl) (by rfl) hHeld (fun _ _ _ h => h) ?_ ?_
  rotate_left
  · intro w' hSw; (try dsimp only at hSw); go_simp <;> with_reducible rfl
  simp only [Act.put, List.setIfInBounds_toArray, List.set_cons_zero, List.set_cons_succ]
  refine heldTake 4 (some 41) (v := ?_) rfl rfl (by kernel_rfl) (by kernel_rfl) (by kernel_rfl) (by rfl) hHeld (fun _ _ _ h => h) ?_ ?_
  rotate_left
  · intro w' hSw; (try dsimp only at hSw); go_simp <;> with_reducible rfl
  simp only [Act.put, List.setIfInBounds_toArray, List.set_cons_zero, List.set_cons_succ]
  refine heldTake 5 (some 42) (v := ?_) rfl rfl (by kernel_rfl) (by kernel_rfl) (by kernel_rfl) (by rfl) hHeld (fun _ _ _ h => h) ?_ ?_
  rotate_left
  · intro w' hSw; (try dsimp only at hSw); go_simp <;> with_reducible rfl
  simp only [Act.put, List.setIfInBounds_toArray, List.set_cons_zero, List.set_cons_succ]
  refine heldTake 6 (some 43) (v := ?_) rfl rfl (by kernel_rfl) (by kernel_rfl) (by kernel_rfl) (by rfl) hHeld (fun _ _ _ h => h) ?_ ?_
  rotate_left
  · intro w' hSw; (try dsimp only at hSw); go_simp <;> with_reducible rfl
  simp only [Act.put, List.setIfInBounds_toArray, List.set_cons_zero, List.set_cons_succ]
  refine heldTake 7 (some 44) (v := ?_) rfl rfl (by kernel_rfl) (by kernel_rfl) (by kernel_rfl) (by rfl) hHeld (fun _ _ _ h => h) ?_ ?_
  rotate_left
  · intro w' hSw; (try dsimp only at hSw); go_simp <;> with_reducible rfl
  simp only [Act.put, List.setIfInBounds_toArray, List.set_cons_zero, List.set_cons_succ]
  refine heldTake 8 (some 45) (v := ?_) rfl rfl (by kernel_rfl) (by kernel_rfl) (by kernel_rfl) (by rfl) hHeld (fun _ _ _ h => h) ?_ ?_
  rotate_left
  · intro w' hSw; (try dsimp only at hSw); go_simp <;> with_reducible rfl
  simp only [Act.put, List.setIfInBounds_toArray, List.set_cons_zero, List.set_cons_succ]
  refine heldCall 2 (some 39) (f := ?_) (args := ?_) rfl rfl (by kernel_rfl) (by rfl) ?_ ?_
  rotate_left 2
  · go_simp <;> first | (constructor <;> with_reducible rfl) | with_reducible rfl
  (with_reducible refine (hG2.out _ hb1.drew).mono ?_)
  rintro e w2 ⟨rfl, hb2⟩
  have hB2 := hb1.drew.trans (hb2.mono hb1.drew.size)
  refine ⟨_, rfl, keepAnd ?_ (fun hNew => ?_)⟩
  · trivial
  clear hHeld
  have hHeld := hNew
  clear hNew
  simp only [Act.put, List.setIfInBounds_toArray, List.set_cons_zero, List.set_cons_succ]
  refine heldCall 9 (some 46) (f := ?_) (args := ?_) rfl rfl (by kernel_rfl) (by rfl) ?_ ?_
  rotate_left 2
  · go_simp <;> first | (constructor <;> with_reducible rfl) | with_reducible rfl
  (with_reducible refine (hsum.out _ hB2).mono ?_)
  rintro e w3 ⟨rfl, rfl⟩
  refine ⟨_, rfl, keepAnd ?_ (fun hNew => ?_)⟩
  · trivial
  clear hHeld
  have hHeld := hNew
  clear hNew
  simp only [Act.put, List.setIfInBounds_toArray, List.set_cons_zero, List.set_cons_succ]
  refine heldTake 10 (some 47) (v := ?_) rfl rfl (by kernel_rfl) (by kernel_rfl) (by kernel_rfl) (by rfl) hHeld (fun _ _ _ h => h) ?_ ?_
  rotate_left
  · intro w' hSw; (try dsimp only at hSw); go_simp <;> with_reducible rfl
  simp only [Act.put, List.setIfInBounds_toArray, List.set_cons_zero, List.set_cons_succ]
  refine heldTake 11 (some 36) (v := ?_) rfl rfl (by kernel_rfl) (by kernel_rfl) (by kernel_rfl) (by rfl) hHeld (fun _ _ _ h => h) ?_ ?_
  rotate_left
  · intro w' hSw; (try dsimp only at hSw); go_simp <;> with_reducible rfl
  simp only [Act.put, List.setIfInBounds_toArray, List.set_cons_zero, List.set_cons_succ]
  refine wpAnyH_done (by kernel_rfl) ?_ _
  refine NoPanic.normal ?_
  clear hw8 q8 q9 q10 q11 hs4 hh4 hlh
  have hrn2 := Rd.below hrn hB2
  have x2 : 0 < (bv body).length → ∃ ad, (some ⟨b, off + k + 8, none⟩ : Option Addr) = some ad ∧ ∀ j v, (bv body)[j]? = some v → (w2.alloc (.cells (bv Z).toArray 5)).cell? (ad.add j) = some v := fun _ => by
    have hr' : RdB (w2.alloc (.cells (bv Z).toArray 5)) (· < w.heap.size) (.slice (some ⟨b, off + k + 8, none⟩) body.length (c - k - 8)) body := by rw [HBL.out]; exact Rd.alloc hrn2 hB2.size _
    obtain ⟨ad, e1, _, e2⟩ := Rd.at_ hr' (by rw [HBL.out]; omega)
    exact ⟨ad, e1, e2⟩
  have x1 : (bv body).length = Nat.min (l.length - k - 8) n := by
    rw [bv_length, HBL.out]; exact (Nat.min_eq_right (by omega)).symm
  have x3 : 0 + (bv body).length ≤ (bv Z).length := by rw [bv_length, bv_length, HBL.out, HRL.out]; omega
  have X1 := Lib.hid x1
  have X2 := Lib.hid x2
  have X3 := Lib.hid x3
  have hBa := hB2.alloc hB2.size (.cells (bv Z).toArray 5)
  have hBs := hB2.size
  clear x1 x2 x3 hrn2
  go_wp2_with (refine wpList_copy_splice (by rfl) (.tmp 50) (.tmp 52) 23 23 (by rfl) 5 Try.underlying23 infoB1 (some ⟨w2.heap.size, 0, none⟩) (some ⟨b, off + k + 8, none⟩) n n (l.length - k - 8) (c - k - 8) (by rfl) (by rfl) w2.heap.size 0 (bv Z) 5 (heap_alloc_new w2 _) (bv body) X1.out (fun h => ⟨rfl, X2.out h⟩) X3.out (bv_one _) w.heap.size w hBa hBs ?_; intro w4 hK4 hB4)
  go_wp2_with fail
  go_ret3
  refine ⟨_, rfl, ?_, hB4⟩
  have h4 := hK4.out
  rw [HRP.out] at h4
  have hbl := HBL.out
  unfold OwnB
  show w4.ownsRow w.heap.size 5 1 (.slice (some ⟨w2.heap.size, 0, none⟩) n n) body.length (bv body)
  rw [hbl]
  refine ⟨by rw [bv_length, hbl, Nat.mul_one], .inr ⟨w2.heap.size, n, _, rfl, hBs, h4, Nat.le_refl _, by unfold maxLen; omega, by simp [bv_length, hbl], ?_⟩⟩
  simp [List.take_of_length_le, bv_length, hbl]

set_option maxRecDepth 100000 in
set_option maxHeartbeats 2000000 in
theorem next_none (b off c k n : Nat) (l : List UInt8) (w : World) (hv : RdB w (· < w.heap.size) (.slice (some ⟨b, off, none⟩) l.length c) l) (hlc : l.length ≤ c) (hk : k + 8 ≤ l.length) (hn : num4L l k = n) (s4 cs : Nat) (hs : num4L l (k + 4) = s4) (hc : crcSum ((l.drop k).take 4) ((l.drop (k + 8)).take n) = cs) (h : ¬ 1048576 < n) (h2 : ¬ l.length < k + 8 + n) (hcm : c ≤ maxLen) (h8 : ¬ c - k = 8) (hne : s4 = cs) (hz : n = 0) :
    Calls Try.prog 66 #[.slice (some ⟨b, off, none⟩) l.length c, .int .i64 (k : Int)] w (Fr3 ((l.drop (k + 8)).take n, (k : Int) + 8 + (n : Int), 0) w) := by
  have hm := num4_lt (l.getD k 0) (l.getD (k + 1) 0) (l.getD (k + 2) 0) (l.getD (k + 3) 0)
  obtain ⟨b', off', e, hF, hcell⟩ := bytes_at hv (by omega)
  simp only [Option.some.injEq, Addr.mk.injEq, and_true] at e
  obtain ⟨rfl, rfl⟩ := e
  have hG := Lib.hid (fun W (hW : Below w.heap.size w W) => get4_any b (off + k) (l.length - k) (c - k) (l.getD k 0) (l.getD (k + 1) 0) (l.getD (k + 2) 0) (l.getD (k + 3) 0) W (by omega)
    ((hW.cell (p := ⟨b, off + k, none⟩) hF).trans (hcell k (by omega))) ((hW.cell (p := ⟨b, off + k + 1, none⟩) hF).trans (hcell (k + 1) (by omega))) ((hW.cell (p := ⟨b, off + k + 2, none⟩) hF).trans (hcell (k + 2) (by omega))) ((hW.cell (p := ⟨b, off + k + 3, none⟩) hF).trans (hcell (k + 3) (by omega))))
  rw [show num4 (l.getD k 0) (l.getD (k + 1) 0) (l.getD (k + 2) 0) (l.getD (k + 3) 0) = n from hn] at hG hm
  have hsl := sl_lo b off l.length c k (by omega) (by omega)
  have q0 : ¬ (k : Int) < 0 := by omega
  have q1 : ¬ (l.length : Int) < (k : Int) := by omega
  have q2 : ¬ ((l.length - k : Nat) : Int) < 8 := by omega
  have hfl : (l.drop k).length = l.length - k := List.length_drop
  have hvf : RdB w (· < w.heap.size) (.slice (some ⟨b, off + k, none⟩) (l.drop k).length (c - k)) (l.drop k) := by
    have h := hv.sub (o := k) (k := l.length - k) (c' := c - k) (by omega) (by omega) (by omega) (by omega)
    rw [List.take_of_length_le (by rw [List.length_drop]; exact Nat.le_refl _)] at h
    rw [hfl]; exact h
  have hr4 : RdB w (· < w.heap.size) (.slice (some ⟨b, off + k, none⟩) 4 (c - k)) ((l.drop k).take 4) := hvf.sub (o := 0) (k := 4) (c' := c - k) (by omega) (by omega) (by omega) (by omega)
  obtain ⟨x, hx, hrn⟩ := rd_lohi (n := n) hvf (by omega) (by omega) (by omega)
  rw [List.drop_drop] at hrn
  have hG2 := Lib.hid (fun W (hW : Below w.heap.size w W) => get4_any b (off + k + 4) (l.length - k - 4) (c - k - 4) (l.getD (k + 4) 0) (l.getD (k + 4 + 1) 0) (l.getD (k + 4 + 2) 0) (l.getD (k + 4 + 3) 0) W (by omega)
    ((hW.cell (p := ⟨b, off + k + 4, none⟩) hF).trans (hcell (k + 4) (by omega))) ((hW.cell (p := ⟨b, off + k + 4 + 1, none⟩) hF).trans (hcell (k + 4 + 1) (by omega))) ((hW.cell (p := ⟨b, off + k + 4 + 2, none⟩) hF).trans (hcell (k + 4 + 2) (by omega))) ((hW.cell (p := ⟨b, off + k + 4 + 3, none⟩) hF).trans (hcell (k + 4 + 3) (by omega))))
  rw [show num4 (l.getD (k + 4) 0) (l.getD (k + 4 + 1) 0) (l.getD (k + 4 + 2) 0) (l.getD (k + 4 + 3) 0) = s4 from hs] at hG2
  have hs4 := sl_lo b (off + k) (l.length - k) (c - k) 4 (by omega) (by omega)
  rw [show ((4 : Nat) : Int) = 4 from rfl] at hs4
  have hh4 := sl_hi b (off + k) (l.length - k) (c - k) 4 (by omega)
  rw [show ((4 : Nat) : Int) = 4 from rfl] at hh4
  have hlh := sl_lohi b (off + k) (l.length - k) (c - k) 8 (8 + n) (by omega) (by omega)
  rw [hx, show ((8 : Nat) : Int) = 8 from rfl, show (((8 + n : Nat)) : Int) = 8 + (n : Int) by omega, Nat.add_sub_cancel_left] at hlh
  have q3 : ¬ (1048576 : Int) < (n : Int) := by omega
  have q7 : ((l.length - k : Nat) : Int) ≤ 9223372036854775807 := by unfold maxLen at hcm; omega
  have q4 : ¬ ((l.length - k : Nat) : Int) - 8 < (n : Int) := by omega
  have hw8 : IntKind.i64.wrap (8 + (n : Int)) = 8 + (n : Int) := IntWalk.i64_in _ (by omega)
  have q8 : (8 : Int) + (n : Int) ≤ ((c - k : Nat) : Int) := by omega
  have q9 : (0 : Int) ≤ 8 + (n : Int) := by omega
  have q10 : ((8 : Int) + (n : Int)).toNat - 8 = n := by omega
  have q11 : (8 : Int) ≤ max (8 + (n : Int)) 0 := by omega
  obtain rfl : x = ⟨b, off + k + 8, none⟩ := by rw [cut_at' h8] at hx; exact (Option.some.inj hx).symm
  have hsum := Lib.hid (fun W (hW : Below w.heap.size w W) => sum_any (· < w.heap.size) (· < w.heap.size) _ _ _ _ W (Rd.below hr4 hW) (Rd.below hrn hW))
  rw [hc] at hsum
  have HZ := Lib.hid hz
  clear hz
  subst hne
  have q12 : (k : Int) + 8 + (n : Int) ≤ 9223372036854775807 := by unfold maxLen at hcm; omega
  have hs8 := sl_lo b (off + k) (l.length - k) (c - k) 8 (by omega) (by omega)
  rw [show ((8 : Nat) : Int) = 8 from rfl] at hs8
  have hbl : ((l.drop (k + 8)).take n).length = n := by rw [List.length_take, List.length_drop]; omega
  generalize (l.drop (k + 8)).take n = body at *
  have HBL := Lib.hid hbl
  have hmk := make_bytes n (by omega)
  have hrl : (List.replicate n (0 : UInt8)).length = n := by simp
  have hrp : splice (bv (List.replicate n (0 : UInt8))) 0 (bv body) = bv body := by
    unfold splice
    rw [List.take_zero, List.nil_append, List.drop_eq_nil_of_le (by rw [bv_length, bv_length, hrl]; omega), List.append_nil]
  generalize List.replicate n (0 : UInt8) = Z at *
  have HRP := Lib.hid hrp
  have HRL := Lib.hid hrl
  clear hx hs hc hn hrp hrl hbl
  go_enter Try.func66, Try.ntmps66
  go_wp2_with fail
  (with_reducible refine (hG.out _ (Below.refl _ _)).mono ?_)
  rintro e w1 ⟨rfl, hb1⟩
  go_wp2_with fail
  refine wp_region_noPanic ?_
  refine wp_region_held_drew (S := (fun _ => True)) (by kernel_rfl) ?_ (fun hHeld => ?_)
  · trivial
  refine heldTake 0 (some 37) (v := ?_) rfl rfl (by kernel_rfl) (by kernel_rfl) (by kernel_rfl) (by rfl) hHeld (fun _ _ _ h => h) ?_ ?_
  rotate_left
  · intro w' hSw; (try dsimp only at hSw); go_simp <;> with_reducible rfl
  simp only [Act.put, List.setIfInBounds_toArray, List.set_cons_zero, List.set_cons_succ]
  refine heldTake 1 (some 38) (v := ?_) rfl rfl (by kernel_rfl) (by kernel_rfl) (by kernel_rfl) (by rfl) hHeld (fun _ _ _ h => h) ?_ ?_
  rotate_left
  · intro w' hSw; (try dsimp only at hSw); go_simp <;> with_reducible rfl
  simp only [Act.put, List.setIfInBounds_toArray, List.set_cons_zero, List.set_cons_succ]
  refine heldTake 3 (some 40) (v := ?_) rfl rfl (by kernel_rfl) (by kernel_rfl) (by kernel_rfl) (by rfl) hHeld (fun _ _ _ h => h) ?_ ?_
  rotate_left
  · intro w' hSw; (try dsimp only at hSw); go_simp <;> with_reducible rfl
  simp only [Act.put, List.setIfInBounds_toArray, List.set_cons_zero, List.set_cons_succ]
  refine heldTake 4 (some 41) (v := ?_) rfl rfl (by kernel_rfl) (by kernel_rfl) (by kernel_rfl) (by rfl) hHeld (fun _ _ _ h => h) ?_ ?_
  rotate_left
  · intro w' hSw; (try dsimp only at hSw); go_simp <;> with_reducible rfl
  simp only [Act.put, List.setIfInBounds_toArray, List.set_cons_zero, List.set_cons_succ]
  refine heldTake 5 (some 42) (v := ?_) rfl rfl (by kernel_rfl) (by kernel_rfl) (by kernel_rfl) (by rfl) hHeld (fun _ _ _ h => h) ?_ ?_
  rotate_left
  · intro w' hSw; (try dsimp only at hSw); go_simp <;> with_reducible rfl
  simp only [Act.put, List.setIfInBounds_toArray, List.set_cons_zero, List.set_cons_succ]
  refine heldTake 6 (some 43) (v := ?_) rfl rfl (by kernel_rfl) (by kernel_rfl) (by kernel_rfl) (by rfl) hHeld (fun _ _ _ h => h) ?_ ?_
  rotate_left
  · intro w' hSw; (try dsimp only at hSw); go_simp <;> with_reducible rfl
  simp only [Act.put, List.setIfInBounds_toArray, List.set_cons_zero, List.set_cons_succ]
  refine heldTake 7 (some 44) (v := ?_) rfl rfl (by kernel_rfl) (by kernel_rfl) (by kernel_rfl) (by rfl) hHeld (fun _ _ _ h => h) ?_ ?_
  rotate_left
  · intro w' hSw; (try dsimp only at hSw); go_simp <;> with_reducible rfl
  simp only [Act.put, List.setIfInBounds_toArray, List.set_cons_zero, List.set_cons_succ]
  refine heldTake 8 (some 45) (v := ?_) rfl rfl (by kernel_rfl) (by kernel_rfl) (by kernel_rfl) (by rfl) hHeld (fun _ _ _ h => h) ?_ ?_
  rotate_left
  · intro w' hSw; (try dsimp only at hSw); go_simp <;> with_reducible rfl
  simp only [Act.put, List.setIfInBounds_toArray, List.set_cons_zero, List.set_cons_succ]
  refine heldCall 2 (some 39) (f := ?_) (args := ?_) rfl rfl (by kernel_rfl) (by rfl) ?_ ?_
  rotate_left 2
  · go_simp <;> first | (constructor <;> with_reducible rfl) | with_reducible rfl
  (with_reducible refine (hG2.out _ hb1.drew).mono ?_)
  rintro e w2 ⟨rfl, hb2⟩
  have hB2 := hb1.drew.trans (hb2.mono hb1.drew.size)
  refine ⟨_, rfl, keepAnd ?_ (fun hNew => ?_)⟩
  · trivial
  clear hHeld
  have hHeld := hNew
  clear hNew
  simp only [Act.put, List.setIfInBounds_toArray, List.set_cons_zero, List.set_cons_succ]
  refine heldCall 9 (some 46) (f := ?_) (args := ?_) rfl rfl (by kernel_rfl) (by rfl) ?_ ?_
  rotate_left 2
  · go_simp <;> first | (constructor <;> with_reducible rfl) | with_reducible rfl
  (with_reducible refine (hsum.out _ hB2).mono ?_)
  rintro e w3 ⟨rfl, rfl⟩
  refine ⟨_, rfl, keepAnd ?_ (fun hNew => ?_)⟩
  · trivial
  clear hHeld
  have hHeld := hNew
  clear hNew
  simp only [Act.put, List.setIfInBounds_toArray, List.set_cons_zero, List.set_cons_succ]
  refine heldTake 10 (some 47) (v := ?_) rfl rfl (by kernel_rfl) (by kernel_rfl) (by kernel_rfl) (by rfl) hHeld (fun _ _ _ h => h) ?_ ?_
  rotate_left
  · intro w' hSw; (try dsimp only at hSw); go_simp <;> with_reducible rfl
  simp only [Act.put, List.setIfInBounds_toArray, List.set_cons_zero, List.set_cons_succ]
  refine heldTake 11 (some 36) (v := ?_) rfl rfl (by kernel_rfl) (by kernel_rfl) (by kernel_rfl) (by rfl) hHeld (fun _ _ _ h => h) ?_ ?_
  rotate_left
  · intro w' hSw; (try dsimp only at hSw); go_simp <;> with_reducible rfl
  simp only [Act.put, List.setIfInBounds_toArray, List.set_cons_zero, List.set_cons_succ]
  refine wpAnyH_done (by kernel_rfl) ?_ _
  refine NoPanic.normal ?_
  clear hw8 q8 q9 q10 q11 hs4 hh4 hlh
  have z1 : Nat.min (l.length - k - 8) n = 0 := by rw [HZ.out]; exact Nat.min_zero _
  have HZ1 := Lib.hid z1
  have hBa := hB2.alloc hB2.size (.cells (bv Z).toArray 5)
  have hBs := hB2.size
  clear z1
  go_wp2_with (refine wpList_copy_nothing (by rfl) (.tmp 50) (.tmp 52) 23 23 (by rfl) 5 Try.underlying23 infoB1 _ _ n n (l.length - k - 8) (c - k - 8) (by rfl) (by rfl) HZ1.out ?_)
  go_wp2_with fail
  go_ret3
  refine ⟨_, rfl, ?_, hBa⟩
  have hbl := HBL.out
  have hrl := HRL.out
  have hz := HZ.out
  have hbn : body = [] := List.eq_nil_of_length_eq_zero (by omega)
  unfold OwnB
  show (w2.alloc (.cells (bv Z).toArray 5)).ownsRow w.heap.size 5 1 (.slice (some ⟨w2.heap.size, 0, none⟩) n n) body.length (bv body)
  rw [hbl]
  refine ⟨by rw [bv_length, hbl, Nat.mul_one], .inr ⟨w2.heap.size, n, _, rfl, hBs, heap_alloc_new w2 _, Nat.le_refl _, by unfold maxLen; omega, by simp [bv_length, hrl], ?_⟩⟩
  rw [hbn, hz]; simp [bv]

end Go.Proofs.Ytooojgokkigncaa
