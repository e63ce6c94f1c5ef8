/-
  Frames: reading the next one, up to its length.
-/
import Derived.Test.YtooojgokkigncaaFrameE
import Derived.Test.YtooojgokkigncaaBytes2
namespace Go.Proofs.Ytooojgokkigncaa
open Go.RowKit Go.Lib Go.IntWalk

/-- what Next reads -/
def nextF (l : List UInt8) (k : Int) : List UInt8 × Int × Int :=
  if k < 0 ∨ (l.length : Int) < k then ([], 0, 6)
  else if l.length < k.toNat + 8 then ([], 0, 2)
  else if 1048576 < num4L l k.toNat then ([], 0, 5)
  else if l.length < k.toNat + 8 + num4L l k.toNat then ([], 0, 2)
  else if num4L l (k.toNat + 4) ≠ crcSum ((l.drop k.toNat).take 4) ((l.drop (k.toNat + 8)).take (num4L l k.toNat)) then ([], 0, 4)
  else ((l.drop (k.toNat + 8)).take (num4L l k.toNat), k + 8 + (num4L l k.toNat : Nat), 0)
def Fr3 (r : List UInt8 × Int × Int) (w0 : World) (e : Ending) (w : World) : Prop := ∃ v, e = .returned (.tuple #[v, .int .i64 r.2.1, .int .i64 r.2.2]) ∧ OwnB w w0.heap.size v r.1 ∧ Below w0.heap.size w0 w

set_option maxHeartbeats 1000000 in
theorem next_out (v : Value) (l : List UInt8) (k : Int) (F : Nat → Prop) (w : World) (hv : RdB w F v l) (h : k < 0 ∨ (l.length : Int) < k) :
    Calls Try.prog 66 #[v, .int .i64 k] w (Fr3 ([], 0, 6) w) := by
  obtain ⟨A, c, rfl, hc1, hc2, hc3⟩ := hv.open_
  rcases h with h | h
  · go_enter Try.func66, Try.ntmps66
    go_wp2_with fail
    go_ret3
    exact ⟨_, rfl, OwnB.nil _ _, Below.refl _ _⟩
  · have h' : ¬ k < 0 := by omega
    go_enter Try.func66, Try.ntmps66
    go_wp2_with fail
    go_ret3
    exact ⟨_, rfl, OwnB.nil _ _, Below.refl _ _⟩

set_option maxHeartbeats 1000000 in
theorem next_short (v : Value) (l : List UInt8) (k : Nat) (F : Nat → Prop) (w : World) (hv : RdB w F v l) (hk : k ≤ l.length) (h : l.length < k + 8) :
    Calls Try.prog 66 #[v, .int .i64 (k : Int)] w (Fr3 ([], 0, 2) w) := by
  obtain ⟨A, c, rfl, hc1, hc2, hc3⟩ := hv.open_
  unfold maxLen at hc2
  have hsl := run_slice_lo (P := Try.prog) Try.underlying23 (info_parts infoB).choose_spec.1 (info_parts infoB).choose_spec.2.2.1 A l.length c k hk
  have q0 : ¬ (k : Int) < 0 := by omega
  have q1 : ¬ (l.length : Int) < (k : Int) := by omega
  have q2 : ((l.length - k : Nat) : Int) < 8 := by omega
  generalize cutA A c k 1 = B at *
  go_enter Try.func66, Try.ntmps66
  go_wp2_with fail
  all_goals
    go_ret3
    exact ⟨_, rfl, OwnB.nil _ _, Below.refl _ _⟩

theorem bytes_at {w : World} {F : Nat → Prop} {A : Option Addr} {c : Nat} {l : List UInt8} (h : RdB w F (.slice A l.length c) l) (hp : 0 < l.length) :
    ∃ b off, A = some ⟨b, off, none⟩ ∧ F b ∧ ∀ j, j < l.length → w.cell? ⟨b, off + j, none⟩ = some (.int .u8 ((l.getD j 0).toNat : Int)) := by
  obtain ⟨b, off, rfl, hF, hc⟩ := Rd.plain h hp (by omega)
  refine ⟨b, off, rfl, hF, fun j hj => ?_⟩
  have := hc j _ (bv_get hj)
  rw [this]
  simp [List.getD, hj]
/-- a slice of a slice of bytes, its address written out -/
theorem RdB.sub {w : World} {F : Nat → Prop} {b off c : Nat} {l : List UInt8} (h : RdB w F (.slice (some ⟨b, off, none⟩) l.length c) l) {o k c' : Nat} (h1 : o + k ≤ l.length) (h2 : k ≤ c') (h3 : c' ≤ c) (hp : 0 < l.length) :
    RdB w F (.slice (some ⟨b, off + o, none⟩) k c') ((l.drop o).take k) := by
  have hlen : ((l.drop o).take k).length = k := by rw [List.length_take, List.length_drop]; omega
  obtain ⟨b', off', e, hF, hc⟩ := bytes_at h hp
  simp only [Option.some.injEq, Addr.mk.injEq, and_true] at e
  obtain ⟨rfl, rfl⟩ := e
  obtain ⟨_, _, e, _, hm, _⟩ := h.open_
  simp only [Value.slice.injEq] at e
  obtain ⟨_, _, rfl⟩ := e
  unfold RdB
  rw [hlen]
  refine ⟨by rw [bv_length, hlen, Nat.mul_one], _, c', rfl, h2, by omega, fun h => (Option.some_ne_none _ h).elim, fun hk => ⟨_, rfl, hF, fun j u hu => ?_⟩⟩
  have hj : j < k := by
    rcases Nat.lt_or_ge j k with h' | h'
    · exact h'
    · rw [List.getElem?_eq_none (by rw [bv_length, hlen]; exact h')] at hu; cases hu
  have hadd : (⟨b, off + o, none⟩ : Addr).add j = ⟨b, off + (o + j), none⟩ := by unfold Addr.add; split <;> simp_all [Nat.add_assoc]
  rw [hadd, hc (o + j) (by omega)]
  rw [bv_get (by rw [hlen]; exact hj)] at hu
  rw [← hu]
  have : o + j < l.length := by omega
  simp [List.getD, this]
end Go.Proofs.Ytooojgokkigncaa
