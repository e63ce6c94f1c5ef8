/-
  The reference of frames: step, Sum, four, number.
-/
import Derived.Test.YtacjiocffbgkkaaGreatFrame
namespace Go.Proofs.YtacjiocffbgkkaaGreat
open Go.RowKit Go.Lib Go.IntWalk

set_option maxRecDepth 100000 in
set_option maxHeartbeats 1000000 in
theorem tstep_any (r : Nat) (ch : UInt8) (w : World) (hr : r < 4294967296) :
    Calls Tryz.prog 141 #[.int .u32 (r : Int), .int .u8 (ch.toNat : Int)] w fun e w' => e = .returned (.int .u32 ((crcByte r ch : Nat) : Int)) ∧ w = w' := by
  have hc256 := ch.toNat_lt
  have hx := u32_xor_nat r ch.toNat hr (by omega)
  have hq := byte_xor_lt hr ch
  unfold crcByte
  generalize hq0 : r ^^^ ch.toNat = q0 at *
  generalize hres : crcN 8 q0 = res
  have HR := Lib.hid hres
  clear hres hq0
  go_enter Tryz.func141, Tryz.ntmps141
  go_wp2_with fail
  clear hx
  go_loop [0, 5] (fun r i => BitRel q0 r i) (fun _ i => 8 - (intOf i).toNat)
  case atStart => exact ⟨0, Nat.zero_le _, rfl, rfl⟩
  case round =>
    obtain ⟨j, hj, rfl, rfl⟩ := hrel
    have hN := crcN_lt hq j
    have hst : crcN (j + 1) q0 = crcStep (crcN j q0) := rfl
    have HST := Lib.hid hst
    clear hst
    generalize hM : crcN j q0 = M at *
    have HM := Lib.hid hM
    clear hM
    by_cases hj8 : j < 8
    · have hpoly := poly_u32 hN
      by_cases hodd : M % 2 = 1
      · have b1 : ((M : Int) % 2 == 1) = true := by rw [beq_iff_eq]; omega
        have HE := Lib.hid (show crcStep M = (M / 2) ^^^ 2197175160 by unfold crcStep; rw [if_pos hodd])
        clear hodd
        go_wp2_with fail
        go_round
        case rel => exact ⟨j + 1, by omega, by go_num, by rw [HST.out, HE.out]⟩
        case measure => simp [intOf]; omega
      · have b1 : ((M : Int) % 2 == 1) = false := by rw [beq_eq_false_iff_ne]; omega
        have HE := Lib.hid (show crcStep M = M / 2 by unfold crcStep; rw [if_neg hodd])
        clear hodd hpoly
        go_wp2_with fail
        go_round
        case rel => exact ⟨j + 1, by omega, by go_num, by rw [HST.out, HE.out]; go_num⟩
        case measure => simp [intOf]; omega
    · have hj' : j = 8 := by omega
      subst hj'
      go_wp2_with fail
      go_ret
      exact ⟨by rw [← HR.out, HM.out]; rfl, rfl⟩

def rSum (l : List UInt8) : Nat := 4294967295 - crcL 4294967295 l
theorem rSum_append (a b : List UInt8) : rSum (a ++ b) = crcSum a b := by simp [rSum, crcSum, crcL]
theorem rSum_lt (l : List UInt8) : rSum l < 4294967296 := by unfold rSum; omega
set_option maxRecDepth 100000 in
set_option maxHeartbeats 1000000 in
theorem tsum_any (F : Nat → Prop) (v : Value) (l : List UInt8) (w : World) (hv : RdB w F v l) :
    Calls Tryz.prog 73 #[v] w fun e w' => e = .returned (.int .u32 ((rSum l : Nat) : Int)) ∧ w = w' := by
  obtain ⟨A, c, rfl, hc1, hc2, hc3⟩ := hv.open_
  unfold maxLen at hc2
  generalize hres : rSum l = res
  have HR := Lib.hid hres
  clear hres
  go_enter Tryz.func73, Tryz.ntmps73
  go_wp2_with fail
  go_loop [3, 8] (fun r i => UpdRel 4294967295 l r i) (fun _ i => l.length - (intOf i).toNat)
  case atStart => exact ⟨0, Nat.zero_le _, rfl, rfl⟩
  case round =>
    obtain ⟨k, hk, rfl, rfl⟩ := hrel
    have hlt0 := crcL_lt (r := 4294967295) (by omega) (l.take k)
    by_cases hlt : k < l.length
    · obtain ⟨b, off, rfl, hF, g0⟩ := RdB.byte hv hlt
      have hsn := crcL_snoc 4294967295 (l.take k) l[k]
      rw [← List.take_succ_eq_append_getElem hlt] at hsn
      have HS := Lib.hid hsn
      have CS := Lib.hid (tstep_any (crcL 4294967295 (l.take k)) l[k] w hlt0)
      clear hsn
      generalize l[k] = ch at *
      generalize crcL 4294967295 (l.take k) = q at *
      go_wp2_with fail
      (with_reducible refine CS.out.mono ?_)
      rintro e w1 ⟨rfl, rfl⟩
      clear CS
      go_wp2_with fail
      go_round
      case rel => exact ⟨k + 1, by omega, by go_num, by rw [HS.out]⟩
      case measure => simp [intOf]; omega
    · have HE : Hid (crcL 4294967295 (l.take k) = crcL 4294967295 l) := Lib.hid (by rw [List.take_of_length_le (by omega)])
      rw [HE.out] at hlt0 ⊢
      have hn := not_u32 hlt0
      have HRR : Hid (4294967295 - crcL 4294967295 l = res) := Lib.hid HR.out
      clear HR
      generalize crcL 4294967295 l = y at *
      go_wp2_with fail
      all_goals
        go_ret
        exact ⟨by rw [← HRR.out]; rfl, rfl⟩

/-- a new row -/
theorem own_new (w : World) (l : List Value) (e : TypeId) (size n : Nat) (hl : l.length = n * size) (hn : n ≤ maxLen) {base : Nat} (hb : base ≤ w.heap.size) : (w.alloc (.cells l.toArray e)).ownsRow base e size (.slice (some ⟨w.heap.size, 0, none⟩) n n) n l :=
  ⟨hl, .inr ⟨w.heap.size, n, l.toArray, rfl, hb, heap_alloc_new w _, Nat.le_refl _, hn, by simpa using hl, by rw [← hl]; simp⟩⟩
theorem be4_bytes {x : Nat} (hx : x < 4294967296) : bv (be4 x) = [.int .u8 ((x : Int) / 16777216), .int .u8 ((x : Int) / 65536 % 256), .int .u8 ((x : Int) / 256 % 256), .int .u8 ((x : Int) % 256)] := by
  simp only [bv, be4, List.map_cons, List.map_nil, List.cons.injEq, Value.int.injEq, true_and, and_true]
  refine ⟨?_, ?_, ?_, ?_⟩ <;> rw [UInt8.toNat_ofNat'] <;> omega
set_option maxRecDepth 100000 in
set_option maxHeartbeats 1000000 in
theorem tfour_any (x : Nat) (w : World) (hx : x < 4294967296) :
    Calls Tryz.prog 72 #[.int .u32 (x : Int)] w (NewB w (be4 x)) := by
  have hb := be4_bytes hx
  have h1 : IntKind.u8.wrap ((x : Int) / 16777216) = (x : Int) / 16777216 := by simp only [IntKind.wrap, IntKind.signed, IntKind.bits]; simp; omega
  have h2 : IntKind.u8.wrap ((x : Int) / 65536 % 256) = (x : Int) / 65536 % 256 := by simp only [IntKind.wrap, IntKind.signed, IntKind.bits]; simp
  have h3 : IntKind.u8.wrap ((x : Int) / 256 % 256) = (x : Int) / 256 % 256 := by simp only [IntKind.wrap, IntKind.signed, IntKind.bits]; simp
  have h4 : IntKind.u8.wrap ((x : Int) % 256) = (x : Int) % 256 := by simp only [IntKind.wrap, IntKind.signed, IntKind.bits]; simp
  have HB := Lib.hid hb
  clear hb
  go_enter Tryz.func72, Tryz.ntmps72
  go_wp2_with fail
  go_ret
  refine ⟨_, rfl, ?_, Below.of_alloc _⟩
  unfold OwnB
  rw [HB.out]
  exact own_new w [.int .u8 ((x : Int) / 16777216), .int .u8 ((x : Int) / 65536 % 256), .int .u8 ((x : Int) / 256 % 256), .int .u8 ((x : Int) % 256)] 5 1 4 rfl (by unfold maxLen; omega) (Nat.le_refl _)
end Go.Proofs.YtacjiocffbgkkaaGreat
