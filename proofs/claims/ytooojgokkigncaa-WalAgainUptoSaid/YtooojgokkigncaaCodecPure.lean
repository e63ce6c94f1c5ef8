/-
  What the codec computes, in plain Lean: integers. No program here.
-/
import Derived.Laws.BitsAllLaws
import Derived.Laws.BitsLemmas
import Derived.WalkKit
namespace Go.Proofs.Ytooojgokkigncaa
open Go.RowKit Go.IntWalk

/-- the bytes of a list as cells -/
def bv (l : List UInt8) : List Value := l.map fun b => .int .u8 b.toNat
theorem bv_length (l : List UInt8) : (bv l).length = l.length := by simp [bv]
theorem bv_append (a b : List UInt8) : bv (a ++ b) = bv a ++ bv b := by simp [bv]
theorem bv_one (l : List UInt8) : ∀ u ∈ bv l, u.oneCell' = true := by
  intro u hu
  simp only [bv, List.mem_map] at hu
  obtain ⟨b, _, rfl⟩ := hu
  rfl
theorem bv_get {l : List UInt8} {k : Nat} (h : k < l.length) : (bv l)[k]? = some (.int .u8 (l[k].toNat)) := by
  simp [bv, h]

/-- zigzag -/
def zz (n : Int) : Nat := if n < 0 then (2 * (-(n + 1)) + 1).toNat else (2 * n).toNat
def unzz (z : Nat) : Int := if z % 2 = 1 then -((z / 2 : Nat) : Int) - 1 else ((z / 2 : Nat) : Int)
theorem unzz_zz (n : Int) : unzz (zz n) = n := by unfold zz unzz; split <;> split <;> omega
theorem zz_unzz (z : Nat) : zz (unzz z) = z := by unfold zz unzz; split <;> split <;> omega
theorem zz_lt {n : Int} (h1 : -9223372036854775808 ≤ n) (h2 : n ≤ 9223372036854775807) : zz n < 18446744073709551616 := by unfold zz; split <;> omega
theorem unzz_bd {z : Nat} (h : z < 18446744073709551616) : -9223372036854775808 ≤ unzz z ∧ unzz z ≤ 9223372036854775807 := by unfold unzz; split <;> omega

/-- base 128, the lowest digit first, with so many digits at most behind the first -/
def vl : Nat → Nat → List UInt8
  | 0, u => [UInt8.ofNat u]
  | f + 1, u => if u < 128 then [UInt8.ofNat u] else UInt8.ofNat (u % 128 + 128) :: vl f (u / 128)
def encI (n : Int) : List UInt8 := vl 9 (zz n)
theorem vl_small (f : Nat) {u : Nat} (h : u < 128) : vl f u = [UInt8.ofNat u] := by cases f <;> simp [vl, h]
theorem vl_big (f : Nat) {u : Nat} (h : 128 ≤ u) : vl (f + 1) u = UInt8.ofNat (u % 128 + 128) :: vl f (u / 128) := by
  rw [vl, if_neg (by omega)]
theorem vl_length (f u : Nat) : (vl f u).length ≤ f + 1 := by
  induction f generalizing u with
  | zero => simp [vl]
  | succ f ih =>
    rw [vl]
    split
    · simp
    · simp only [List.length_cons]; have := ih (u / 128); omega
theorem encI_length (n : Int) : (encI n).length ≤ 10 := vl_length 9 _
theorem vl_pos (f u : Nat) : 0 < (vl f u).length := by cases f <;> simp [vl]; split <;> simp
theorem encI_pos (n : Int) : 0 < (encI n).length := vl_pos _ _

/-- reading from the bytes behind the offset: i bytes have been read, z is their number -/
def decL (at_ : Int) : List UInt8 → Nat → Nat → Int × Int × Int
  | [], _, _ => (0, 0, 2)
  | c :: l, i, z =>
    if (i = 9 ∧ 1 < c.toNat) ∨ (0 < i ∧ c.toNat = 0) then (0, 0, 1)
    else if c.toNat < 128 then (unzz (z + c.toNat % 128 * 128 ^ i), at_ + i + 1, 0) else decL at_ l (i + 1) (z + c.toNat % 128 * 128 ^ i)
def decI (l : List UInt8) (at_ : Int) : Int × Int × Int :=
  if at_ < 0 ∨ (l.length : Int) < at_ then (0, 0, 6) else decL at_ (l.drop at_.toNat) 0 0

theorem decL_nil (at_ : Int) (i z : Nat) : decL at_ [] i z = (0, 0, 2) := rfl
theorem decL_bad {at_ : Int} {c : UInt8} {l : List UInt8} {i z : Nat} (h : (i = 9 ∧ 1 < c.toNat) ∨ (0 < i ∧ c.toNat = 0)) : decL at_ (c :: l) i z = (0, 0, 1) := by
  rw [decL, if_pos h]
theorem decL_end {at_ : Int} {c : UInt8} {l : List UInt8} {i z : Nat} (h : ¬ ((i = 9 ∧ 1 < c.toNat) ∨ (0 < i ∧ c.toNat = 0))) (hc : c.toNat < 128) :
    decL at_ (c :: l) i z = (unzz (z + c.toNat % 128 * 128 ^ i), at_ + i + 1, 0) := by rw [decL, if_neg h, if_pos hc]
theorem decL_on {at_ : Int} {c : UInt8} {l : List UInt8} {i z : Nat} (h : ¬ ((i = 9 ∧ 1 < c.toNat) ∨ (0 < i ∧ c.toNat = 0))) (hc : ¬ c.toNat < 128) :
    decL at_ (c :: l) i z = decL at_ l (i + 1) (z + c.toNat % 128 * 128 ^ i) := by rw [decL, if_neg h, if_neg hc]
theorem decI_in {l : List UInt8} {k : Nat} (h : k ≤ l.length) : decI l (k : Int) = decL k (l.drop k) 0 0 := by
  rw [decI, if_neg (by omega)]; rfl
theorem decI_out {l : List UInt8} {k : Int} (h : k < 0 ∨ (l.length : Int) < k) : decI l k = (0, 0, 6) := by
  rw [decI, if_pos h]

/-! the machine's words -/
theorem u64_xor_nat (a b : Nat) (ha : a < 18446744073709551616) (hb : b < 18446744073709551616) : bits .xor .u64 (a : Int) (b : Int) = ((a ^^^ b : Nat) : Int) := by
  have hx : a ^^^ b < 2 ^ 64 := Nat.xor_lt_two_pow (by omega) (by omega)
  have e : ∀ c : Nat, c < 18446744073709551616 → (BitVec.ofInt 64 (c : Int)).toNat = c := fun c hc => by
    rw [BitVec.ofInt_natCast, BitVec.toNat_ofNat]; exact Nat.mod_eq_of_lt (by omega)
  show IntKind.u64.wrap ((BitVec.ofInt 64 (a : Int) ^^^ BitVec.ofInt 64 (b : Int)).toNat : Int) = _
  rw [BitVec.toNat_xor, e a ha, e b hb]
  simp only [IntKind.wrap, IntKind.signed, IntKind.bits]
  simp
  omega

theorem put_word {n : Int} (h1 : -9223372036854775808 ≤ n) (h2 : n ≤ 9223372036854775807) :
    bits .xor .u64 (IntKind.u64.wrap (IntKind.u64.wrap n * 2)) (IntKind.u64.wrap (n / 9223372036854775808)) = (zz n : Int) := by
  have ew : ∀ x : Int, IntKind.u64.wrap x = x % 18446744073709551616 := fun x => by
    simp only [IntKind.wrap, IntKind.signed, IntKind.bits]
    simp
  by_cases hn : n < 0
  · have e1 : IntKind.u64.wrap (IntKind.u64.wrap n * 2) = (((2 * n + 18446744073709551616).toNat : Nat) : Int) := by rw [ew, ew]; omega
    have e2 : IntKind.u64.wrap (n / 9223372036854775808) = ((18446744073709551615 : Nat) : Int) := by rw [ew]; omega
    rw [e1, e2, u64_xor_nat _ _ (by omega) (by omega)]
    have h64 : (2 * n + 18446744073709551616).toNat < 2 ^ 64 := by omega
    have key : ∀ a : Nat, a < 2 ^ 64 → a ^^^ 18446744073709551615 = 18446744073709551615 - a := by
      intro a ha
      have := BitVec.toNat_not (x := BitVec.ofNat 64 a)
      have e3 : (BitVec.ofNat 64 a).toNat = a := by rw [BitVec.toNat_ofNat]; exact Nat.mod_eq_of_lt ha
      rw [BitVec.not_def, BitVec.toNat_xor, e3] at this
      simpa [Nat.xor_comm] using this
    rw [key _ h64]
    unfold zz
    rw [if_pos hn]
    omega
  · have e1 : IntKind.u64.wrap (IntKind.u64.wrap n * 2) = (((2 * n).toNat : Nat) : Int) := by rw [ew, ew]; omega
    have e2 : IntKind.u64.wrap (n / 9223372036854775808) = ((0 : Nat) : Int) := by rw [ew]; omega
    rw [e1, e2, u64_xor_nat _ _ (by omega) (by omega)]
    simp [zz, hn]
theorem u8_or_nat (a b : Nat) (ha : a < 256) (hb : b < 256) : bits .or .u8 (a : Int) (b : Int) = ((a ||| b : Nat) : Int) := by
  have hx : a ||| b < 2 ^ 8 := Nat.or_lt_two_pow (by omega) (by omega)
  have e : ∀ c : Nat, c < 256 → (BitVec.ofInt 8 (c : Int)).toNat = c := fun c hc => by
    rw [BitVec.ofInt_natCast, BitVec.toNat_ofNat]; exact Nat.mod_eq_of_lt (by omega)
  show IntKind.u8.wrap ((BitVec.ofInt 8 (a : Int) ||| BitVec.ofInt 8 (b : Int)).toNat : Int) = _
  rw [BitVec.toNat_or, e a ha, e b hb]
  simp only [IntKind.wrap, IntKind.signed, IntKind.bits]
  simp
  omega
theorem or128_small : ∀ a : Fin 256, a.val ||| 128 = a.val % 128 + 128 := by decide +kernel
theorem or128 (u : Nat) : bits .or .u8 ((u : Int) % 256) 128 = ((UInt8.ofNat (u % 128 + 128)).toNat : Int) := by
  have e : ((u : Int) % 256) = ((u % 256 : Nat) : Int) := by omega
  rw [e]
  have h := u8_or_nat (u % 256) 128 (by omega) (by omega)
  have h2 := or128_small ⟨u % 256, by omega⟩
  simp only at h2
  rw [h2] at h
  have e3 : ((128 : Nat) : Int) = 128 := rfl
  rw [e3] at h
  rw [h]
  have : u % 256 % 128 = u % 128 := by omega
  rw [this]
  simp [UInt8.toNat_ofNat']
  omega
theorem byte_small (u : Nat) : ((u : Int) % 256) = ((UInt8.ofNat u).toNat : Int) := by
  simp [UInt8.toNat_ofNat']
theorem byte_of {u : Nat} (h : u < 256) : (u : Int) = ((UInt8.ofNat u).toNat : Int) := by
  simp [UInt8.toNat_ofNat']
  omega
theorem u8_and_nat (a b : Nat) (ha : a < 256) (hb : b < 256) : bits .and .u8 (a : Int) (b : Int) = ((a &&& b : Nat) : Int) := by
  have hx : a &&& b < 2 ^ 8 := Nat.and_lt_two_pow _ (by omega)
  have e : ∀ c : Nat, c < 256 → (BitVec.ofInt 8 (c : Int)).toNat = c := fun c hc => by
    rw [BitVec.ofInt_natCast, BitVec.toNat_ofNat]; exact Nat.mod_eq_of_lt (by omega)
  show IntKind.u8.wrap ((BitVec.ofInt 8 (a : Int) &&& BitVec.ofInt 8 (b : Int)).toNat : Int) = _
  rw [BitVec.toNat_and, e a ha, e b hb]
  simp only [IntKind.wrap, IntKind.signed, IntKind.bits]
  simp
  omega
theorem and127 {c : Nat} (h : c < 256) : bits .and .u8 (c : Int) 127 = ((c % 128 : Nat) : Int) := by
  have h1 := u8_and_nat c 127 h (by omega)
  have e3 : ((127 : Nat) : Int) = 127 := rfl
  rw [e3] at h1
  rw [h1, show (127 : Nat) = 2 ^ 7 - 1 from rfl, Nat.and_two_pow_sub_one_eq_mod]
theorem u64_ofInt (c : Nat) (hc : c < 18446744073709551616) : (BitVec.ofInt 64 (c : Int)).toNat = c := by
  rw [BitVec.ofInt_natCast, BitVec.toNat_ofNat]; exact Nat.mod_eq_of_lt (by omega)
theorem wrap_u64 (x : Int) : IntKind.u64.wrap x = x % 18446744073709551616 := by
  simp only [IntKind.wrap, IntKind.signed, IntKind.bits]
  simp
theorem u64_or_nat (a b : Nat) (ha : a < 18446744073709551616) (hb : b < 18446744073709551616) : bits .or .u64 (a : Int) (b : Int) = ((a ||| b : Nat) : Int) := by
  have hx : a ||| b < 2 ^ 64 := Nat.or_lt_two_pow (by omega) (by omega)
  show IntKind.u64.wrap ((BitVec.ofInt 64 (a : Int) ||| BitVec.ofInt 64 (b : Int)).toNat : Int) = _
  rw [BitVec.toNat_or, u64_ofInt a ha, u64_ofInt b hb, wrap_u64]
  omega
theorem u64_and_nat (a b : Nat) (ha : a < 18446744073709551616) (hb : b < 18446744073709551616) : bits .and .u64 (a : Int) (b : Int) = ((a &&& b : Nat) : Int) := by
  have hx : a &&& b < 2 ^ 64 := Nat.and_lt_two_pow _ (by omega)
  show IntKind.u64.wrap ((BitVec.ofInt 64 (a : Int) &&& BitVec.ofInt 64 (b : Int)).toNat : Int) = _
  rw [BitVec.toNat_and, u64_ofInt a ha, u64_ofInt b hb, wrap_u64]
  omega
theorem pow128 (j : Nat) : (128 : Nat) ^ j = 2 ^ (7 * j) := by rw [show (128 : Nat) = 2 ^ 7 from rfl, Nat.pow_mul]
theorem digit_lt {c j z : Nat} (hj : j ≤ 9) (hz : z < 128 ^ j) (h9 : j = 9 → c ≤ 1) : z + c % 128 * 128 ^ j < 18446744073709551616 := by
  by_cases h : j = 9
  · subst h
    have := h9 rfl
    have hm : c % 128 ≤ 1 := by omega
    have : c % 128 * 128 ^ 9 ≤ 1 * 128 ^ 9 := Nat.mul_le_mul_right _ hm
    omega
  · have h1 : (c % 128 + 1) * 128 ^ j ≤ 128 * 128 ^ j := Nat.mul_le_mul_right _ (by omega)
    have h2 : 128 * 128 ^ j ≤ 128 ^ 9 := by
      rw [← Nat.pow_succ']
      exact Nat.pow_le_pow_right (by omega) (by omega)
    rw [Nat.add_mul] at h1
    omega
theorem digit_next {c j z : Nat} (hz : z < 128 ^ j) : z + c % 128 * 128 ^ j < 128 ^ (j + 1) := by
  have h1 : (c % 128 + 1) * 128 ^ j ≤ 128 * 128 ^ j := Nat.mul_le_mul_right _ (by omega)
  rw [Nat.add_mul] at h1
  rw [Nat.pow_succ']
  omega
theorem digit_word {c j z : Nat} (hc : c < 256) (hj : j ≤ 9) (hz : z < 128 ^ j) (h9 : j = 9 → c ≤ 1) :
    bits .or .u64 (z : Int) (IntKind.u64.wrap (IntKind.u64.wrap (bits .and .u8 (c : Int) 127) * 2 ^ (7 * j))) = ((z + c % 128 * 128 ^ j : Nat) : Int) := by
  have hlt := digit_lt hj hz h9
  rw [and127 hc]
  have e1 : IntKind.u64.wrap ((c % 128 : Nat) : Int) = ((c % 128 : Nat) : Int) := by rw [wrap_u64]; omega
  have e2 : (((c % 128 : Nat) : Int) * 2 ^ (7 * j)) = ((c % 128 * 128 ^ j : Nat) : Int) := by
    rw [pow128]; simp
  rw [e1, e2]
  have e3 : IntKind.u64.wrap ((c % 128 * 128 ^ j : Nat) : Int) = ((c % 128 * 128 ^ j : Nat) : Int) := by rw [wrap_u64]; omega
  rw [e3, u64_or_nat _ _ (by omega) (by omega)]
  congr 1
  rw [pow128] at hz ⊢
  rw [Nat.or_comm, Nat.mul_comm, ← Nat.two_pow_add_eq_or_of_lt hz]
  omega
theorem wrap_i64 (x : Int) : IntKind.i64.wrap x = (x + 9223372036854775808) % 18446744073709551616 - 9223372036854775808 := IntKind.wrap_i64 x
theorem unzz_word {u : Nat} (hu : u < 18446744073709551616) : bits .xor .i64 ((u : Int) / 2) (-(bits .and .u64 (u : Int) 1)) = unzz u := by
  have h1 := u64_and_nat u 1 hu (by omega)
  have e3 : ((1 : Nat) : Int) = 1 := rfl
  rw [e3] at h1
  rw [h1, Nat.and_one_is_mod]
  have e2 : ((u : Int) / 2) = ((u / 2 : Nat) : Int) := by omega
  rw [e2]
  unfold unzz
  show IntKind.i64.wrap ((BitVec.ofInt 64 ((u / 2 : Nat) : Int) ^^^ BitVec.ofInt 64 (-((u % 2 : Nat) : Int))).toNat : Int) = _
  rw [BitVec.toNat_xor, u64_ofInt _ (by omega), wrap_i64]
  by_cases h : u % 2 = 1
  · rw [if_pos h, h]
    have e : (BitVec.ofInt 64 (-((1 : Nat) : Int))).toNat = 18446744073709551615 := by decide
    rw [e]
    have key : ∀ a : Nat, a < 2 ^ 64 → a ^^^ 18446744073709551615 = 18446744073709551615 - a := by
      intro a ha
      have := BitVec.toNat_not (x := BitVec.ofNat 64 a)
      have e3 : (BitVec.ofNat 64 a).toNat = a := by rw [BitVec.toNat_ofNat]; exact Nat.mod_eq_of_lt ha
      rw [BitVec.not_def, BitVec.toNat_xor, e3] at this
      simpa [Nat.xor_comm] using this
    rw [key _ (by omega)]
    omega
  · have h0 : u % 2 = 0 := by omega
    rw [if_neg h, h0]
    have e : (BitVec.ofInt 64 (-((0 : Nat) : Int))).toNat = 0 := by decide
    rw [e, Nat.xor_zero]
    omega
theorem ret_int3 {k1 k2 k3 : IntKind} {a1 b1 a2 b2 a3 b3 : Int} (h1 : a1 = b1) (h2 : a2 = b2) (h3 : a3 = b3) : Ending.returned (.tuple #[.int k1 a1, .int k2 a2, .int k3 a3]) = .returned (.tuple #[.int k1 b1, .int k2 b2, .int k3 b3]) := by rw [h1, h2, h3]
theorem wrap64_id {x : Int} (h1 : -9223372036854775808 ≤ x) (h2 : x ≤ 9223372036854775807) : wrap64 x = x := by unfold wrap64; omega
theorem final_word {c j z : Nat} (hc : c < 256) (hj : j ≤ 9) (hz : z < 128 ^ j) (h9 : j = 9 → c ≤ 1) :
    bits .xor .i64 (wrap64 (bits .or .u64 (z : Int) (IntKind.u64.wrap (IntKind.u64.wrap (bits .and .u8 (c : Int) 127) * 2 ^ (7 * j))) / 2))
      (wrap64 (-wrap64 (bits .and .u64 (bits .or .u64 (z : Int) (IntKind.u64.wrap (IntKind.u64.wrap (bits .and .u8 (c : Int) 127) * 2 ^ (7 * j)))) 1))) = unzz (z + c % 128 * 128 ^ j) := by
  have hlt := digit_lt hj hz h9
  rw [digit_word hc hj hz h9]
  have h1 := u64_and_nat (z + c % 128 * 128 ^ j) 1 hlt (by omega)
  have e3 : ((1 : Nat) : Int) = 1 := rfl
  rw [e3, Nat.and_one_is_mod] at h1
  rw [wrap64_id (by omega) (by omega), wrap64_id (x := bits .and .u64 _ 1) (by rw [h1]; omega) (by rw [h1]; omega), wrap64_id (by rw [h1]; omega) (by rw [h1]; omega)]
  exact unzz_word hlt
theorem digit_word2 {c j z q : Nat} (hj : j ≤ 9) (hz : z < q) (hq : q = 128 ^ j) (h9 : j = 9 → c ≤ 1) :
    IntKind.u64.wrap ((z : Int) + IntKind.u64.wrap ((c : Int) % 128 * (q : Int))) = ((z + c % 128 * 128 ^ j : Nat) : Int) := by
  subst hq
  have hlt := digit_lt hj hz h9
  have e2 : ((c : Int) % 128 * ((128 ^ j : Nat) : Int)) = ((c % 128 * 128 ^ j : Nat) : Int) := by simp
  rw [e2, wrap_u64, wrap_u64]
  omega
theorem tmod_two (N : Nat) : ((N : Int).tmod 2 == 1) = decide (N % 2 = 1) := by
  rw [Int.tmod_eq_emod_of_nonneg (by omega), Bool.eq_iff_iff]; simp; omega
theorem fin_odd {N : Nat} (h : N < 18446744073709551616) (hp : N % 2 = 1) : wrap64 (wrap64 (-wrap64 (IntKind.u64.wrap ((N : Int).tdiv 2))) - 1) = unzz N := by
  rw [Int.tdiv_eq_ediv_of_nonneg (by omega), wrap_u64]
  have e : ((N : Int) / 2) % 18446744073709551616 = ((N / 2 : Nat) : Int) := by omega
  rw [e, wrap64_id (x := ((N / 2 : Nat) : Int)) (by omega) (by omega), wrap64_id (x := -((N / 2 : Nat) : Int)) (by omega) (by omega), wrap64_id (by omega) (by omega), unzz, if_pos hp]
theorem fin_even {N : Nat} (h : N < 18446744073709551616) (hp : ¬ N % 2 = 1) : wrap64 (IntKind.u64.wrap ((N : Int).tdiv 2)) = unzz N := by
  rw [Int.tdiv_eq_ediv_of_nonneg (by omega), wrap_u64]
  have e : ((N : Int) / 2) % 18446744073709551616 = ((N / 2 : Nat) : Int) := by omega
  rw [e, wrap64_id (by omega) (by omega), unzz, if_neg hp]
theorem unit_next {q j : Nat} (hj : j ≤ 8) (hq : q = 128 ^ j) : Value.int .u64 (IntKind.u64.wrap ((q : Int) * 128)) = .int .u64 ((128 ^ (j + 1) : Nat) : Int) := by
  have h : 128 ^ (j + 1) ≤ 128 ^ 9 := Nat.pow_le_pow_right (by omega) (by omega)
  have e : (q : Int) * 128 = ((128 ^ (j + 1) : Nat) : Int) := by rw [hq, Nat.pow_succ]; simp
  rw [e, wrap_u64]
  congr 1
  omega
/-- what an integer that is read is like -/
theorem decL_bd (at_ : Int) (l : List UInt8) : ∀ (i z : Nat), i ≤ 9 → z < 128 ^ i →
    -9223372036854775808 ≤ (decL at_ l i z).1 ∧ (decL at_ l i z).1 ≤ 9223372036854775807 ∧
    (((decL at_ l i z).2.2 = 0 ∧ at_ + i + 1 ≤ (decL at_ l i z).2.1 ∧ (decL at_ l i z).2.1 ≤ at_ + i + l.length) ∨ ((decL at_ l i z).2.1 = 0 ∧ (decL at_ l i z).1 = 0 ∧ 1 ≤ (decL at_ l i z).2.2 ∧ (decL at_ l i z).2.2 ≤ 2)) := by
  induction l with
  | nil => intro i z _ _; rw [decL_nil]; simp
  | cons c l ih =>
    intro i z hi hz
    by_cases hb : (i = 9 ∧ 1 < c.toNat) ∨ (0 < i ∧ c.toNat = 0)
    · rw [decL_bad hb]; simp
    · by_cases hc : c.toNat < 128
      · rw [decL_end hb hc]
        have h1 := unzz_bd (digit_lt (c := c.toNat) hi hz (by omega))
        refine ⟨h1.1, h1.2, .inl ⟨rfl, ?_, ?_⟩⟩
        · simp
        · simp; omega
      · rw [decL_on hb hc]
        have h := ih (i + 1) (z + c.toNat % 128 * 128 ^ i) (by omega) (digit_next hz)
        refine ⟨h.1, h.2.1, ?_⟩
        rcases h.2.2 with ⟨a, b, d⟩ | h'
        · refine .inl ⟨a, ?_, ?_⟩
          · simp only [Int.natCast_add] at b; omega
          · simp only [Int.natCast_add, List.length_cons] at d ⊢; omega
        · exact .inr h'
theorem decI_bd (l : List UInt8) (k : Int) : -9223372036854775808 ≤ (decI l k).1 ∧ (decI l k).1 ≤ 9223372036854775807 ∧
    (((decI l k).2.2 = 0 ∧ 0 ≤ k ∧ k + 1 ≤ (decI l k).2.1 ∧ (decI l k).2.1 ≤ l.length) ∨ ((decI l k).2.1 = 0 ∧ (decI l k).1 = 0 ∧ 1 ≤ (decI l k).2.2 ∧ (decI l k).2.2 ≤ 6)) := by
  by_cases h : k < 0 ∨ (l.length : Int) < k
  · rw [decI_out h]; simp
  · obtain ⟨n, rfl⟩ := Int.eq_ofNat_of_zero_le (show 0 ≤ k by omega)
    have hn : n ≤ l.length := by omega
    rw [decI_in hn]
    have hb := decL_bd n (l.drop n) 0 0 (by omega) (by simp)
    refine ⟨hb.1, hb.2.1, ?_⟩
    rcases hb.2.2 with ⟨a, b, d⟩ | ⟨a, b, d, e⟩
    · refine .inl ⟨a, by omega, by simpa using b, ?_⟩
      simp only [List.length_drop] at d
      omega
    · exact .inr ⟨a, b, d, by omega⟩
def decT (l : List UInt8) (k most : Int) : List UInt8 × Int × Int :=
  if (decI l k).2.2 ≠ 0 then ([], 0, (decI l k).2.2)
  else if (decI l k).1 < 0 then ([], 0, 1)
  else if max most 0 < (decI l k).1 then ([], 0, 5)
  else if (l.length : Int) - (decI l k).2.1 < (decI l k).1 then ([], 0, 2)
  else ((l.drop (decI l k).2.1.toNat).take (decI l k).1.toNat, (decI l k).2.1 + (decI l k).1, 0)
theorem decT_bd (l : List UInt8) (k most : Int) : ((decT l k most).2.2 = 0 ∧ k + 1 ≤ (decT l k most).2.1 ∧ (decT l k most).2.1 ≤ l.length ∧ 0 ≤ k ∧ ((decT l k most).1.length : Int) ≤ max most 0) ∨ ((decT l k most).2.1 = 0 ∧ (decT l k most).1 = [] ∧ 1 ≤ (decT l k most).2.2 ∧ (decT l k most).2.2 ≤ 6) := by
  have hb := decI_bd l k
  unfold decT
  split
  · rcases hb.2.2 with h | h
    · omega
    · exact .inr ⟨rfl, rfl, by simp only; omega, by simp only; omega⟩
  · split
    · exact .inr ⟨rfl, rfl, by simp, by simp⟩
    · split
      · exact .inr ⟨rfl, rfl, by simp, by simp⟩
      · split
        · exact .inr ⟨rfl, rfl, by simp, by simp⟩
        · rcases hb.2.2 with h | h
          · refine .inl ⟨rfl, by simp only; omega, by simp only; omega, by omega, ?_⟩
            simp only [List.length_take]
            omega
          · omega
end Go.Proofs.Ytooojgokkigncaa
