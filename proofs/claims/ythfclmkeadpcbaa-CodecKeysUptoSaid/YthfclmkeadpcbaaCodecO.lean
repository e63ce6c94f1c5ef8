/-
  Rows: their bytes, by the program and by the reference.
-/
import Derived.Test.YthfclmkeadpcbaaCodecN
namespace Go.Proofs.Ythfclmkeadpcbaa
open Go.RowKit Go.Lib

def encVs (xs : List Val) : List UInt8 := xs.flatMap encV
def encR (xs : List Val) : List UInt8 := encI xs.length ++ encVs xs
theorem encVs_snoc {xs : List Val} {k : Nat} (hk : k < xs.length) : encVs (xs.take (k + 1)) = encVs (xs.take k) ++ encV xs[k] := by
  unfold encVs
  rw [List.take_succ_eq_append_getElem hk, List.flatMap_append, List.flatMap_singleton]
theorem encVs_le (xs : List Val) (k : Nat) : (encVs (xs.take k)).length ≤ (encVs xs).length := by
  have h : encVs xs = encVs (xs.take k) ++ encVs (xs.drop k) := by unfold encVs; rw [← List.flatMap_append, List.take_append_drop]
  rw [h, List.length_append]
  omega
/-- a value that may be put -/
def putV (x : Val) : Prop := -9223372036854775808 ≤ x.int ∧ x.int ≤ 9223372036854775807 ∧ x.text.size ≤ 200 ∧ (x.kind = 3 → x.int = 0 ∨ x.int = 1)
def RowRel (w0 : World) (l : List UInt8) (xs : List Val) (b i : Value) (w : World) : Prop :=
  ∃ k : Nat, k ≤ xs.length ∧ i = .int .i64 k ∧ OwnB w w0.heap.size b (l ++ encI xs.length ++ encVs (xs.take k)) ∧ Below w0.heap.size w0 w

set_option maxRecDepth 100000 in
set_option maxHeartbeats 800000 in
theorem putRow_any (v u : Value) (l : List UInt8) (xs : List Val) (w : World) (hv : RdB w (· < w.heap.size) v l) (hu : RdV w (· < w.heap.size) u xs) (hok : ∀ x ∈ xs, putV x)
    (hl : l.length + (encR xs).length + 200 ≤ 140737488354000) :
    Calls Try.prog 26 #[v, u] w (NewB w (l ++ encR xs)) := by
  obtain ⟨A, c, rfl, hc1, hc2, hc3⟩ := hu.open_
  unfold maxLen at hc2
  have HO := Lib.hid hok
  clear hok
  have hen := encI_length xs.length
  have hl2 : l.length + (encI xs.length).length + (encVs xs).length + 200 ≤ 140737488354000 := by unfold encR at hl; rw [List.length_append] at hl; omega
  clear hl
  obtain ⟨A', c', rfl, hc1', hc2', hA⟩ := hv.view
  go_enter Try.func26, Try.ntmps26
  go_wp2_with fail
  (with_reducible refine (grow_any A' _ c' _ hc1').mono ?_)
  rintro e w' ⟨rfl, rfl⟩
  go_wp2_with fail
  (with_reducible refine (put_any w.heap.size _ l xs.length _ ?_ ?_ hA (Nat.le_refl _) ?_).mono ?_)
  · omega
  · omega
  · omega
  rintro e w1 ⟨v1, rfl, ho1, hg1⟩
  have hb1 := hg1.below
  clear hg1
  go_wp2_with fail
  go_loopw [0, 14] (fun b i wr => RowRel w l xs b i wr) (fun _ i _ => xs.length - (intOf i).toNat)
  case atStart => exact ⟨0, Nat.zero_le _, rfl, by simpa [encVs] using ho1, hb1⟩
  case round =>
    obtain ⟨k, hk, rfl, hO, hB⟩ := hrel
    obtain ⟨wo, rfl⟩ : ∃ wo : World, wo = wr := ⟨_, rfl⟩
    by_cases hlt : k < xs.length
    · obtain ⟨bb, off, rfl, hF, g0, g1, g2⟩ := RdV.at_ (Rd.below hu hB) hlt
      have hx := HO.out xs[k] (List.getElem_mem hlt)
      have hle := encVs_le xs k
      have hend : ∀ v' w', OwnB w' w.heap.size v' (l ++ encI xs.length ++ encVs (xs.take k) ++ encV xs[k]) → Below w.heap.size w w' → RowRel w l xs v' (.int .i64 ((k : Int) + 1)) w' := fun v' w' h1 h2 => ⟨k + 1, by omega, by go_num, by rw [encVs_snoc hlt, ← List.append_assoc]; exact h1, h2⟩
      have HE := Lib.hid hend
      clear hend
      generalize xs[k] = x at *
      obtain ⟨kd, n, s⟩ := x
      obtain ⟨x1, x2, x3, x4⟩ := hx
      simp only at g0 g1 g2 x1 x2 x3 x4
      have hll : (l ++ encI xs.length ++ encVs (xs.take k)).length + s.size ≤ 140737488354000 := by simp only [List.length_append]; omega
      generalize l ++ encI xs.length ++ encVs (xs.take k) = m at *
      have hsz := hB.size
      go_wp2_with fail
      (with_reducible refine (putValue_any u0 m ⟨kd, n, s⟩ _ x1 x2 ?_ ?_).mono ?_)
      · exact (hO.rd).below (below1 _)
      · exact hll
      rintro e w2 ⟨v2, rfl, ho2, hb2⟩
      have hB2 : Below w.heap.size w w2 := (hB.alloc hsz _).trans (hb2.mono (by simp; omega))
      go_wp2_with fail
      go_roundw
      case rel => exact HE.out v2 w2 (own_base ho2 (by simp; omega)) hB2
      case measure => simp [intOf]; omega
    · go_wp2
      go_ret
      have hke : k = xs.length := by omega
      subst hke
      rw [List.take_length, List.append_assoc] at hO
      exact ⟨_, rfl, hO, hB⟩

set_option maxRecDepth 100000 in
set_option maxHeartbeats 800000 in
theorem refPutRow_any (v u : Value) (l : List UInt8) (xs : List Val) (w : World) (hv : RdB w (· < w.heap.size) v l) (hu : RdV w (· < w.heap.size) u xs) (hok : ∀ x ∈ xs, putV x)
    (hl : l.length + (encR xs).length + 200 ≤ 140737488354000) :
    Calls Try.prog 41 #[v, u] w (NewB w (l ++ encR xs)) := by
  obtain ⟨A, c, rfl, hc1, hc2, hc3⟩ := hu.open_
  unfold maxLen at hc2
  have HO := Lib.hid hok
  clear hok
  have hen := encI_length xs.length
  have hl2 : l.length + (encI xs.length).length + (encVs xs).length + 200 ≤ 140737488354000 := by unfold encR at hl; rw [List.length_append] at hl; omega
  clear hl
  go_enter Try.func41, Try.ntmps41
  go_wp2_with fail
  (with_reducible refine (refPutInt_any v l xs.length _ ?_ ?_ hv ?_).mono ?_)
  · omega
  · omega
  · omega
  rintro e w1 ⟨v1, rfl, ho1, hb1⟩
  go_wp2_with fail
  go_loopw [5, 14] (fun b i wr => RowRel w l xs b i wr) (fun _ i _ => xs.length - (intOf i).toNat)
  case atStart => exact ⟨0, Nat.zero_le _, rfl, by simpa [encVs] using ho1, hb1⟩
  case round =>
    obtain ⟨k, hk, rfl, hO, hB⟩ := hrel
    obtain ⟨wo, rfl⟩ : ∃ wo : World, wo = wr := ⟨_, rfl⟩
    by_cases hlt : k < xs.length
    · obtain ⟨bb, off, rfl, hF, g0, g1, g2⟩ := RdV.at_ (Rd.below hu hB) hlt
      have hx := HO.out xs[k] (List.getElem_mem hlt)
      have hle := encVs_le xs k
      have hend : ∀ v' w', OwnB w' w.heap.size v' (l ++ encI xs.length ++ encVs (xs.take k) ++ encV xs[k]) → Below w.heap.size w w' → RowRel w l xs v' (.int .i64 ((k : Int) + 1)) w' := fun v' w' h1 h2 => ⟨k + 1, by omega, by go_num, by rw [encVs_snoc hlt, ← List.append_assoc]; exact h1, h2⟩
      have HE := Lib.hid hend
      clear hend
      generalize xs[k] = x at *
      obtain ⟨kd, n, s⟩ := x
      obtain ⟨x1, x2, x3, x4⟩ := hx
      simp only at g0 g1 g2 x1 x2 x3 x4
      have hll : (l ++ encI xs.length ++ encVs (xs.take k)).length + s.size ≤ 140737488354000 := by simp only [List.length_append]; omega
      generalize l ++ encI xs.length ++ encVs (xs.take k) = m at *
      have hsz := hB.size
      go_wp2_with fail
      (with_reducible refine (refPutValue_any u5 m ⟨kd, n, s⟩ _ x1 x2 x4 ?_ ?_).mono ?_)
      · exact (hO.rd).below (below1 _)
      · exact hll
      rintro e w2 ⟨v2, rfl, ho2, hb2⟩
      have hB2 : Below w.heap.size w w2 := (hB.alloc hsz _).trans (hb2.mono (by simp; omega))
      go_wp2_with fail
      go_roundw
      case rel => exact HE.out v2 w2 (own_base ho2 (by simp; omega)) hB2
      case measure => simp [intOf]; omega
    · go_wp2
      go_ret
      have hke : k = xs.length := by omega
      subst hke
      rw [List.take_length, List.append_assoc] at hO
      exact ⟨_, rfl, hO, hB⟩

end Go.Proofs.Ythfclmkeadpcbaa
