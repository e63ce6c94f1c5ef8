/-
  Frames: the checksum.
-/
import Derived.Test.YtooojgokkigncaaBytes
namespace Go.Proofs.Ytooojgokkigncaa
open Go.RowKit Go.Lib Go.IntWalk

theorem wrap_u32 (x : Int) : IntKind.u32.wrap x = x % 4294967296 := by
  simp only [IntKind.wrap, IntKind.signed, IntKind.bits]
  simp
theorem u32_ofInt (c : Nat) (hc : c < 4294967296) : (BitVec.ofInt 32 (c : Int)).toNat = c := by
  rw [BitVec.ofInt_natCast, BitVec.toNat_ofNat]; exact Nat.mod_eq_of_lt (by omega)
theorem u32_xor_nat (a b : Nat) (ha : a < 4294967296) (hb : b < 4294967296) : bits .xor .u32 (a : Int) (b : Int) = ((a ^^^ b : Nat) : Int) := by
  have hx : a ^^^ b < 2 ^ 32 := Nat.xor_lt_two_pow (by omega) (by omega)
  show IntKind.u32.wrap ((BitVec.ofInt 32 (a : Int) ^^^ BitVec.ofInt 32 (b : Int)).toNat : Int) = _
  rw [BitVec.toNat_xor, u32_ofInt a ha, u32_ofInt b hb, wrap_u32]
  omega
theorem u32_and_nat (a b : Nat) (ha : a < 4294967296) (hb : b < 4294967296) : bits .and .u32 (a : Int) (b : Int) = ((a &&& b : Nat) : Int) := by
  have hx : a &&& b < 2 ^ 32 := Nat.and_lt_two_pow _ (by omega)
  show IntKind.u32.wrap ((BitVec.ofInt 32 (a : Int) &&& BitVec.ofInt 32 (b : Int)).toNat : Int) = _
  rw [BitVec.toNat_and, u32_ofInt a ha, u32_ofInt b hb, wrap_u32]
  omega
theorem u32_or_nat (a b : Nat) (ha : a < 4294967296) (hb : b < 4294967296) : bits .or .u32 (a : Int) (b : Int) = ((a ||| b : Nat) : Int) := by
  have hx : a ||| b < 2 ^ 32 := Nat.or_lt_two_pow (by omega) (by omega)
  show IntKind.u32.wrap ((BitVec.ofInt 32 (a : Int) ||| BitVec.ofInt 32 (b : Int)).toNat : Int) = _
  rw [BitVec.toNat_or, u32_ofInt a ha, u32_ofInt b hb, wrap_u32]
  omega

def crcStep (r : Nat) : Nat := if r % 2 = 1 then (r / 2) ^^^ 2197175160 else r / 2
def crcN : Nat → Nat → Nat
  | 0, r => r
  | k + 1, r => crcStep (crcN k r)
def crcByte (r : Nat) (c : UInt8) : Nat := crcN 8 (r ^^^ c.toNat)
def crcL (r : Nat) (l : List UInt8) : Nat := l.foldl crcByte r
theorem crcStep_lt {r : Nat} (h : r < 4294967296) : crcStep r < 4294967296 := by
  unfold crcStep
  split
  · exact Nat.xor_lt_two_pow (n := 32) (by omega) (by omega)
  · omega
theorem crcN_lt {r : Nat} (h : r < 4294967296) : ∀ k, crcN k r < 4294967296
  | 0 => h
  | k + 1 => crcStep_lt (crcN_lt h k)
theorem byte_xor_lt {r : Nat} (h : r < 4294967296) (c : UInt8) : r ^^^ c.toNat < 4294967296 :=
  Nat.xor_lt_two_pow (n := 32) (by omega) (by have := c.toNat_lt; omega)
theorem crcByte_lt {r : Nat} (h : r < 4294967296) (c : UInt8) : crcByte r c < 4294967296 := crcN_lt (byte_xor_lt h c) 8
theorem crcL_lt {r : Nat} (h : r < 4294967296) (l : List UInt8) : crcL r l < 4294967296 := by
  induction l generalizing r with
  | nil => exact h
  | cons c l ih => exact ih (crcByte_lt h c)
theorem crcL_snoc (r : Nat) (l : List UInt8) (c : UInt8) : crcL r (l ++ [c]) = crcByte (crcL r l) c := by simp [crcL]
theorem and1_u32 {r : Nat} (h : r < 4294967296) : bits .and .u32 (r : Int) 1 = ((r % 2 : Nat) : Int) := by
  have := u32_and_nat r 1 h (by omega)
  rw [Nat.and_one_is_mod] at this
  exact this
theorem poly_u32 {r : Nat} (h : r < 4294967296) : bits .xor .u32 ((r : Int) / 2) 2197175160 = (((r / 2) ^^^ 2197175160 : Nat) : Int) := by
  have := u32_xor_nat (r / 2) 2197175160 (by omega) (by omega)
  rw [← this]
  congr 1
theorem RdB.byte {w : World} {F : Nat → Prop} {A : Option Addr} {c : Nat} {l : List UInt8} (h : RdB w F (.slice A l.length c) l) {k : Nat} (hk : k < l.length) :
    ∃ b off, A = some ⟨b, off, none⟩ ∧ F b ∧ w.cell? ⟨b, off + k, none⟩ = some (.int .u8 (l[k].toNat : Int)) := by
  obtain ⟨h1, A', c', hv, h2, h3, h4, h5⟩ := h
  injection hv with e1 e2 e3
  subst e1; subst e3
  obtain ⟨ad, rfl, hF, hc⟩ := h5 (by omega)
  obtain ⟨b, off, sp⟩ := ad
  have hk' := hc k _ (bv_get hk)
  have hsp : sp = none := by
    cases sp with
    | none => rfl
    | some q =>
      have h0 := hc 0 _ (bv_get (show 0 < l.length by omega))
      rw [add_zero'] at h0
      simp only [World.cell?] at h0
      split at h0 <;> simp at h0
  subst hsp
  refine ⟨b, off, rfl, hF, ?_⟩
  unfold Addr.add at hk'
  split at hk'
  · rename_i hj; subst hj; exact hk'
  · exact hk'

def UpdRel (r0 : Nat) (l : List UInt8) (r i : Value) : Prop := ∃ k : Nat, k ≤ l.length ∧ i = .int .i64 k ∧ r = .int .u32 ((crcL r0 (l.take k) : Nat) : Int)
def BitRel (q : Nat) (r i : Value) : Prop := ∃ k : Nat, k ≤ 8 ∧ i = .int .i64 k ∧ r = .int .u32 ((crcN k q : Nat) : Int)
set_option maxRecDepth 100000 in
set_option maxHeartbeats 1000000 in
theorem update_any (r0 : Nat) (F : Nat → Prop) (v : Value) (l : List UInt8) (w : World) (hr : r0 < 4294967296) (hv : RdB w F v l) :
    Calls Try.prog 80 #[.int .u32 (r0 : Int), v] w fun e w' => e = .returned (.int .u32 ((crcL r0 l : Nat) : Int)) ∧ w = w' := by
  obtain ⟨A, c, rfl, hc1, hc2, hc3⟩ := hv.open_
  unfold maxLen at hc2
  go_enter Try.func80, Try.ntmps80
  go_wp2_with fail
  go_loop [0, 9] (fun r i => UpdRel r0 l r i) (fun _ i => l.length - (intOf i).toNat)
  case atStart => exact ⟨0, Nat.zero_le _, rfl, rfl⟩
  case round =>
    obtain ⟨k, hk, rfl, rfl⟩ := hrel
    have hlt0 := crcL_lt hr (l.take k)
    by_cases hlt : k < l.length
    · obtain ⟨b, off, rfl, hF, g0⟩ := RdB.byte hv hlt
      have hsn := crcL_snoc r0 (l.take k) l[k]
      rw [← List.take_succ_eq_append_getElem hlt] at hsn
      generalize l[k] = ch at *
      generalize crcL r0 (l.take k) = q at *
      have hc256 := ch.toNat_lt
      have hx := u32_xor_nat q ch.toNat hlt0 (by omega)
      have hq := byte_xor_lt hlt0 ch
      unfold crcByte at hsn
      have HS := Lib.hid hsn
      clear hsn
      go_wp2_with fail
      generalize q ^^^ ch.toNat = q' at *
      clear hx
      go_loop [0, 17] (fun r i => BitRel q' r i) (fun _ i => 8 - (intOf i).toNat)
      case atStart => exact ⟨0, Nat.zero_le _, rfl, rfl⟩
      case round =>
        obtain ⟨j, hj, rfl, rfl⟩ := hrel
        have hN := crcN_lt hq j
        have hst : crcN (j + 1) q' = crcStep (crcN j q') := rfl
        have HST := Lib.hid hst
        clear hst
        generalize hM : crcN j q' = M at *
        have HM := Lib.hid hM
        clear hM
        by_cases hj8 : j < 8
        · have hand := and1_u32 hN
          have hpoly := poly_u32 hN
          by_cases hodd : M % 2 = 1
          · rw [hodd] at hand
            have b1 : (bits .and .u32 (M : Int) 1 == 1) = true := by rw [hand]; rfl
            have HE := Lib.hid (show crcStep M = (M / 2) ^^^ 2197175160 by unfold crcStep; rw [if_pos hodd])
            clear hodd hand
            go_wp2_with fail
            go_round
            case rel => exact ⟨j + 1, by omega, by go_num, by rw [HST.out, HE.out]⟩
            case measure => simp [intOf]; omega
          · have b1 : (bits .and .u32 (M : Int) 1 == 1) = false := by rw [hand, beq_eq_false_iff_ne]; omega
            have HE := Lib.hid (show crcStep M = M / 2 by unfold crcStep; rw [if_neg hodd])
            clear hodd hand hpoly
            go_wp2_with fail
            go_round
            case rel => exact ⟨j + 1, by omega, by go_num, by rw [HST.out, HE.out]; go_num⟩
            case measure => simp [intOf]; omega
        · have hj' : j = 8 := by omega
          subst hj'
          go_wp2_with fail
          go_round
          case rel => exact ⟨k + 1, by omega, by go_num, by rw [HS.out, HM.out]⟩
          case measure => simp [intOf]; omega
    · go_wp2_with fail
      go_ret
      exact ⟨by rw [List.take_of_length_le (by omega)]; rfl, rfl⟩

/-- the checksum of a length and a body -/
def crcSum (a b : List UInt8) : Nat := 4294967295 - crcL (crcL 4294967295 a) b
theorem not_u32 {y : Nat} (h : y < 4294967296) : bits .xor .u32 IntKind.u32.max (y : Int) = ((4294967295 - y : Nat) : Int) := by
  have e : IntKind.u32.max = ((4294967295 : Nat) : Int) := by decide
  rw [e, u32_xor_nat _ _ (by omega) h]
  congr 1
  have := BitVec.toNat_not (x := BitVec.ofNat 32 y)
  have e3 : (BitVec.ofNat 32 y).toNat = y := by rw [BitVec.toNat_ofNat]; exact Nat.mod_eq_of_lt (by omega)
  rw [BitVec.not_def, BitVec.toNat_xor, e3] at this
  simpa using this
set_option maxHeartbeats 1000000 in
theorem sum_any (F G : Nat → Prop) (va vb : Value) (la lb : List UInt8) (w : World) (ha : RdB w F va la) (hb : RdB w G vb lb) :
    Calls Try.prog 69 #[va, vb] w fun e w' => e = .returned (.int .u32 ((crcSum la lb : Nat) : Int)) ∧ w = w' := by
  have h1 := crcL_lt (r := 4294967295) (by omega) la
  have h2 := crcL_lt h1 lb
  have C1 := Lib.hid (update_any 4294967295 F va la w (by omega) ha)
  rw [show ((4294967295 : Nat) : Int) = 4294967295 from rfl] at C1
  have C2 := Lib.hid (update_any _ G vb lb w h1 hb)
  unfold crcSum
  generalize crcL 4294967295 la = x at *
  generalize crcL x lb = y at *
  go_enter Try.func69, Try.ntmps69
  go_wp2_with fail
  (with_reducible refine C1.out.mono ?_)
  rintro e w1 ⟨rfl, rfl⟩
  go_wp2_with fail
  (with_reducible refine C2.out.mono ?_)
  rintro e w1 ⟨rfl, rfl⟩
  have hn := not_u32 h2
  go_wp2_with fail
  all_goals
    go_ret
    exact ⟨rfl, rfl⟩
end Go.Proofs.Ytooojgokkigncaa
