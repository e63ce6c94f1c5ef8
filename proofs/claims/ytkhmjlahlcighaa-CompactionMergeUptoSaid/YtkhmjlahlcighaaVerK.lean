/-
  The chapter's examples.
-/
import Derived.Test.YtkhmjlahlcighaaChoB
namespace Go.Proofs.Ytkhmjlahlcighaa
open Go.RowKit Go.Lib Go.IntWalk Go.Sort Go.Shelf

def balB (l : List Int) (i j : Nat) : Bool := decide (i < j) && decide (j ≤ l.length) && balP (seg l i j)
theorem balB_iff (l : List Int) (i j : Nat) : balB l i j = true ↔ Bal l i j := by unfold balB Bal; simp [and_assoc]
theorem best_dec {l : List Int} {a b : Nat} (h : (balB l a b && (List.range (l.length + 1)).all fun i => (List.range (l.length + 1)).all fun j => !(balB l i j) || decide (j - i < b - a ∨ (j - i = b - a ∧ a ≤ i))) = true) : Best l (fun _ _ => True) a b := by
  rw [Bool.and_eq_true, balB_iff, List.all_eq_true] at h
  refine .inr ⟨h.1, fun i j _ hb => ?_⟩
  have h1 := h.2 i (List.mem_range.2 (by have := hb.1; have := hb.2.1; omega))
  rw [List.all_eq_true] at h1
  have h2 := h1 j (List.mem_range.2 (by have := hb.2.1; omega))
  rw [(balB_iff l i j).2 hb] at h2
  simpa using h2
theorem best_none {l : List Int} (h : ((List.range (l.length + 1)).all fun i => (List.range (l.length + 1)).all fun j => !(balB l i j)) = true) : Best l (fun _ _ => True) 0 0 := by
  rw [List.all_eq_true] at h
  refine .inl ⟨rfl, rfl, fun i j _ hb => ?_⟩
  have h1 := h i (List.mem_range.2 (by have := hb.1; have := hb.2.1; omega))
  rw [List.all_eq_true] at h1
  have h2 := h1 j (List.mem_range.2 (by have := hb.2.1; omega))
  rw [(balB_iff l i j).2 hb] at h2
  cases h2
theorem ex1 : Best [5, 1, 1, 2] (fun _ _ => True) 1 4 := best_dec (by decide +kernel)
theorem ex2 : Best [9, 4, 1] (fun _ _ => True) 0 0 := best_none (by decide +kernel)
theorem ex3 : Best [3, 3] (fun _ _ => True) 0 2 := best_dec (by decide +kernel)
theorem exM : MSpec [[lawVer 1, lawVer 4], [lawVer 2, lawVer 3]] 0 [lawVer 1, lawVer 2, lawVer 3, lawVer 4] := by
  have h0 : mchk [[lawVer 1, lawVer 4], [lawVer 2, lawVer 3]] = 0 := by decide +kernel
  refine ⟨fun h => absurd h0 h, fun _ => .inl ⟨rfl, ?_, ?_⟩⟩
  · exact List.Perm.cons _ (List.perm_append_comm (l₁ := [lawVer 2, lawVer 3]) (l₂ := [lawVer 4]))
  · simp only [List.pairwise_cons, List.mem_cons, List.not_mem_nil, or_false]
    refine ⟨?_, ?_, ?_, by simp, List.Pairwise.nil⟩
    · rintro x (rfl | rfl | rfl) <;> (show ltV _ _ = true; decide +kernel)
    · rintro x (rfl | rfl) <;> (show ltV _ _ = true; decide +kernel)
    · rintro x rfl; (show ltV _ _ = true); decide +kernel
theorem rdI_new (w : World) (l : List Int) (n : Nat) (hn : l.length = n) (hm : n ≤ 1000) : RdI (w.alloc (.cells (iv l).toArray 3)) (fun _ => True) (.slice (some ⟨w.heap.size, 0, none⟩) n n) l := by
  subst hn
  exact (Rd.new w (iv l) 3 1 l.length (by simp [iv]) (by unfold maxLen; omega)).wide fun _ _ => trivial
def lawP (n : Int) : VP := (lawRV n, lawVer n)
theorem rdVs_new (w : World) (ns : List Int) (k : Nat) (hk : ns.length = k) (hm : k ≤ 1000) : RdVs (w.alloc (.cells (cellsP (ns.map lawP)).toArray 38)) (· < (w.alloc (.cells (cellsP (ns.map lawP)).toArray 38)).heap.size) (.slice (some ⟨w.heap.size, 0, none⟩) k k) (ns.map lawP) := by
  subst hk
  refine ⟨?_, fun p hp => ?_⟩
  · have := Rd.new w (cellsP (ns.map lawP)) 38 9 ns.length (by rw [cellsP_length, List.length_map]) (by unfold maxLen; omega)
    have h2 := this.wide (G := (· < (w.alloc (.cells (cellsP (ns.map lawP)).toArray 38)).heap.size)) (fun b (hb : b = w.heap.size) => by subst hb; simp)
    rw [List.length_map]
    exact h2
  · obtain ⟨n, _, rfl⟩ := List.mem_map.1 hp
    exact lawVer_is _ _ n
theorem version_law' (n : Int) (w : World) : Calls Try.prog 13 #[.int .i64 n] w fun e w' => e = .returned (.agg #[.int .i64 n, .int .i64 0, .slice none 0 0, .int .i64 0, .int .i64 1, .int .i64 0, .int .i64 1, .int .i64 1, .int .i64 2]) ∧ Below w.heap.size w w' := version_law n w

set_option maxRecDepth 1000000 in
set_option maxHeartbeats 4000000 in
theorem works_any (w : World) : Calls Try.prog 5 #[] w fun e w' => e = .returned (.bool true) ∧ Below w.heap.size w w' := by
  have sm1 : SmallI [5, 1, 1, 2] := ⟨by decide, by decide⟩
  have sm2 : SmallI [9, 4, 1] := ⟨by decide, by decide⟩
  have sm3 : SmallI [3, 3] := ⟨by decide, by decide⟩
  have HSM := Lib.hid (And.intro sm1 (And.intro sm2 sm3))
  clear sm1 sm2 sm3
  go_enter Try.func5, Try.ntmps5
  go_wp2_with fail
  have KC0 : Calls Try.prog 6 #[.slice (some ⟨w.heap.size, 0, none⟩) 4 4] (w.alloc (.cells #[.int .i64 5, .int .i64 1, .int .i64 1, .int .i64 2] 3)) _ := choose_any _ [5, 1, 1, 2] _ (fun _ => True) (rdI_new w [5, 1, 1, 2] 4 rfl (by decide)) HSM.out.1
  (with_reducible refine KC0.mono ?_)
  rintro _ w' ⟨a, b, rfl, hbest, hw'⟩
  obtain ⟨rfl, rfl⟩ := Best.unique hbest ex1
  obtain ⟨w1, hw1⟩ : ∃ zz, zz = w.alloc (.cells #[.int .i64 5, .int .i64 1, .int .i64 1, .int .i64 2] 3) := ⟨_, rfl⟩
  have hb1 : Below w.heap.size w w1 := by rw [hw1]; exact Below.of_alloc _
  rw [hw', ← hw1]
  clear hbest hw' w' hw1 KC0
  go_wp2_with fail
  have hs1 : w1.heap.size = w1.heap.size := rfl
  have KC1 : Calls Try.prog 6 #[.slice (some ⟨w1.heap.size, 0, none⟩) 3 3] (w1.alloc (.cells #[.int .i64 9, .int .i64 4, .int .i64 1] 3)) _ := choose_any _ [9, 4, 1] _ (fun _ => True) (rdI_new w1 [9, 4, 1] 3 rfl (by decide)) HSM.out.2.1
  clear hs1
  (with_reducible refine KC1.mono ?_)
  rintro _ w' ⟨a, b, rfl, hbest, hw'⟩
  obtain ⟨rfl, rfl⟩ := Best.unique hbest ex2
  obtain ⟨w2, hw2⟩ : ∃ zz, zz = w1.alloc (.cells #[.int .i64 9, .int .i64 4, .int .i64 1] 3) := ⟨_, rfl⟩
  have hb2 : Below w.heap.size w w2 := by rw [hw2]; exact (hb1.alloc hb1.size _)
  rw [hw', ← hw2]
  clear hbest hw' w' hw2 KC1
  go_wp2_with fail
  have hs2 : w2.heap.size = w2.heap.size := rfl
  have KC2 : Calls Try.prog 6 #[.slice (some ⟨w2.heap.size, 0, none⟩) 2 2] (w2.alloc (.cells #[.int .i64 3, .int .i64 3] 3)) _ := choose_any _ [3, 3] _ (fun _ => True) (rdI_new w2 [3, 3] 2 rfl (by decide)) HSM.out.2.2
  clear hs2
  (with_reducible refine KC2.mono ?_)
  rintro _ w' ⟨a, b, rfl, hbest, hw'⟩
  obtain ⟨rfl, rfl⟩ := Best.unique hbest ex3
  obtain ⟨w3, hw3⟩ : ∃ zz, zz = w2.alloc (.cells #[.int .i64 3, .int .i64 3] 3) := ⟨_, rfl⟩
  have hb3 : Below w.heap.size w w3 := by rw [hw3]; exact (hb2.alloc hb2.size _)
  rw [hw', ← hw3]
  clear hbest hw' w' hw3 KC2
  go_wp2_with fail
  (with_reducible refine (version_law' 1 _).mono ?_)
  rintro _ v1 ⟨rfl, hv1⟩
  have hc1 : Below w.heap.size w v1 := hb3.trans (hv1.mono hb3.size)
  go_wp2_with fail
  (with_reducible refine (version_law' 4 _).mono ?_)
  rintro _ v2 ⟨rfl, hv2⟩
  have hc2 : Below w.heap.size w v2 := hc1.trans (hv2.mono hc1.size)
  go_wp2_with fail
  obtain ⟨A1, hA1⟩ : ∃ W, W = v2.alloc (.cells #[.int .i64 1, .int .i64 0, .slice none 0 0, .int .i64 0, .int .i64 1, .int .i64 0, .int .i64 1, .int .i64 1, .int .i64 2, .int .i64 4, .int .i64 0, .slice none 0 0, .int .i64 0, .int .i64 1, .int .i64 0, .int .i64 1, .int .i64 1, .int .i64 2] 38) := ⟨_, rfl⟩
  have rA1 : RdVs A1 (· < A1.heap.size) (.slice (some ⟨v2.heap.size, 0, none⟩) 2 2) [lawP 1, lawP 4] := by rw [hA1]; exact rdVs_new v2 [1, 4] 2 rfl (by decide)
  have hd1 : Below w.heap.size w A1 := by rw [hA1]; exact hc2.alloc hc2.size _
  rw [← hA1]
  clear hA1
  (with_reducible refine (version_law' 2 _).mono ?_)
  rintro _ v3 ⟨rfl, hv3⟩
  have hd2 : Below w.heap.size w v3 := hd1.trans (hv3.mono hd1.size)
  go_wp2_with fail
  (with_reducible refine (version_law' 3 _).mono ?_)
  rintro _ v4 ⟨rfl, hv4⟩
  have hd3 : Below w.heap.size w v4 := hd2.trans (hv4.mono hd2.size)
  obtain ⟨A2, hA2⟩ : ∃ W, W = v4.alloc (.cells #[.int .i64 2, .int .i64 0, .slice none 0 0, .int .i64 0, .int .i64 1, .int .i64 0, .int .i64 1, .int .i64 1, .int .i64 2, .int .i64 3, .int .i64 0, .slice none 0 0, .int .i64 0, .int .i64 1, .int .i64 0, .int .i64 1, .int .i64 1, .int .i64 2] 38) := ⟨_, rfl⟩
  have rA2 : RdVs A2 (· < A2.heap.size) (.slice (some ⟨v4.heap.size, 0, none⟩) 2 2) [lawP 2, lawP 3] := by rw [hA2]; exact rdVs_new v4 [2, 3] 2 rfl (by decide)
  have hbA : Below A1.heap.size A1 A2 := by rw [hA2]; exact (hv3.trans (hv4.mono hv3.size)).alloc (by have := hv3.size; have := hv4.size; omega) _
  have hd4 : Below w.heap.size w A2 := by rw [hA2]; exact hd3.alloc hd3.size _
  have sA2 : A2.heap.size = v4.heap.size + 1 := by rw [hA2]; simp
  obtain ⟨A3, hA3⟩ : ∃ W, W = A2.alloc (.cells #[.slice (some ⟨v2.heap.size, 0, none⟩) 2 2, .slice (some ⟨v4.heap.size, 0, none⟩) 2 2] 29) := ⟨_, rfl⟩
  have hbA3 : Below A2.heap.size A2 A3 := by rw [hA3]; exact Below.of_alloc _
  have rL : RdLL A3 (· < A3.heap.size) (.slice (some ⟨v4.heap.size + 1, 0, none⟩) 2 2) [(.slice (some ⟨v2.heap.size, 0, none⟩) 2 2, [lawP 1, lawP 4]), (.slice (some ⟨v4.heap.size, 0, none⟩) 2 2, [lawP 2, lawP 3])] := by
    refine ⟨?_, fun p hp => ?_⟩
    · rw [hA3, ← sA2]
      exact (Rd.new A2 [.slice (some ⟨v2.heap.size, 0, none⟩) 2 2, .slice (some ⟨v4.heap.size, 0, none⟩) 2 2] 29 1 2 rfl (by decide)).wide fun b (hb : b = A2.heap.size) => by subst hb; simp
    · simp only [List.mem_cons, List.not_mem_nil, or_false] at hp
      rcases hp with rfl | rfl
      · exact (rA1.below hbA).below hbA3
      · exact rA2.below hbA3
  have hd5 : Below w.heap.size w A3 := hd4.trans (hbA3.mono hd4.size)
  have KM := merge_any _ _ A3 rL (by simp [allP])
  have HX := Lib.hid exM
  clear rL rA1 rA2 hbA hbA3 hv1 hv2 hv3 hv4 hc1 hc2 hd1 hd2 hd3 hd4
  go_wp2_with fail
  rw [← hA2, ← hA3]
  clear hA2 hA3 sA2
  (with_reducible refine KM.mono ?_)
  rintro _ m1 ⟨u, r, Q, rfl, hm1, hQ, hSp⟩
  obtain ⟨rfl, hys⟩ := MSpec.unique hSp HX.out
  have he1 : Below w.heap.size w m1 := hd5.trans (hm1.mono hd5.size)
  have HQ := Lib.hid hQ
  have HYS := Lib.hid hys
  obtain ⟨Au, cu, rfl, j1, j2, j3⟩ := hQ.1.open_
  clear hQ hys hSp hm1 HX KM j3 j2
  go_wp2_with fail
  (with_reducible refine (version_law' 1 _).mono ?_)
  rintro _ v11 ⟨rfl, hv11⟩
  have hf1 : Below m1.heap.size m1 v11 := hv11
  go_wp2_with fail
  (with_reducible refine (version_law' 2 _).mono ?_)
  rintro _ v12 ⟨rfl, hv12⟩
  have hf2 : Below m1.heap.size m1 v12 := hf1.trans (hv12.mono hf1.size)
  go_wp2_with fail
  (with_reducible refine (version_law' 3 _).mono ?_)
  rintro _ v13 ⟨rfl, hv13⟩
  have hf3 : Below m1.heap.size m1 v13 := hf2.trans (hv13.mono hf2.size)
  go_wp2_with fail
  (with_reducible refine (version_law' 4 _).mono ?_)
  rintro _ v14 ⟨rfl, hv14⟩
  have hf4 : Below m1.heap.size m1 v14 := hf3.trans (hv14.mono hf3.size)
  have KS : Calls Try.prog 12 #[.slice Au Q.length cu, .slice (some ⟨v14.heap.size, 0, none⟩) 4 4] (v14.alloc (.cells #[.int .i64 1, .int .i64 0, .slice none 0 0, .int .i64 0, .int .i64 1, .int .i64 0, .int .i64 1, .int .i64 1, .int .i64 2, .int .i64 2, .int .i64 0, .slice none 0 0, .int .i64 0, .int .i64 1, .int .i64 0, .int .i64 1, .int .i64 1, .int .i64 2, .int .i64 3, .int .i64 0, .slice none 0 0, .int .i64 0, .int .i64 1, .int .i64 0, .int .i64 1, .int .i64 1, .int .i64 2, .int .i64 4, .int .i64 0, .slice none 0 0, .int .i64 0, .int .i64 1, .int .i64 0, .int .i64 1, .int .i64 1, .int .i64 2] 38)) _ := sameVersions_any _ _ Q ([1, 2, 3, 4].map lawP) _ ((HQ.out.below hf4).below (Below.of_alloc _)) (rdVs_new v14 [1, 2, 3, 4] 4 rfl (by decide)) HYS.out
  have hg1 : Below w.heap.size w (v14.alloc (.cells #[.int .i64 1, .int .i64 0, .slice none 0 0, .int .i64 0, .int .i64 1, .int .i64 0, .int .i64 1, .int .i64 1, .int .i64 2, .int .i64 2, .int .i64 0, .slice none 0 0, .int .i64 0, .int .i64 1, .int .i64 0, .int .i64 1, .int .i64 1, .int .i64 2, .int .i64 3, .int .i64 0, .slice none 0 0, .int .i64 0, .int .i64 1, .int .i64 0, .int .i64 1, .int .i64 1, .int .i64 2, .int .i64 4, .int .i64 0, .slice none 0 0, .int .i64 0, .int .i64 1, .int .i64 0, .int .i64 1, .int .i64 1, .int .i64 2] 38)) := (he1.trans (hf4.mono he1.size)).alloc (by have := he1.size; have := hf4.size; omega) _
  clear hf1 hf2 hf3 hv11 hv12 hv13 hv14
  go_wp2_with fail
  (with_reducible refine KS.mono ?_)
  rintro _ n1 ⟨rfl, hn1⟩
  go_wp2_with fail
  go_ret
  exact ⟨rfl, hg1.trans (hn1.mono hg1.size)⟩
end Go.Proofs.Ytkhmjlahlcighaa
