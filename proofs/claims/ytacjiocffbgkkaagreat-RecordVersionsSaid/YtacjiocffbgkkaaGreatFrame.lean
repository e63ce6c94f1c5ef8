/-
  Frames: the checksum.
  Frames: four bytes of a number, put and got.
  Frames: four bytes read as a number.
  Frames: a body with its length and checksum.
  Frames: the frame of no bytes; a body that is too long.
  Frames: reading the next one, up to its length.
  Frames: reading the next one.
  Frames: a frame of no bytes at the very end.
  Frames: what Next answers, in one.
  Lists of slices of bytes in worlds that change. Plain lemmas.
  Frames: all of them, one after the other.
-/
import Derived.Test.YtacjiocffbgkkaaGreatBase
import Derived.Laws.CopyOwn
import Derived.Laws.OwnMore
namespace Go.Proofs.YtacjiocffbgkkaaGreat
section
set_option maxRecDepth 100000
open Go.RowKit Go.Lib Go.IntWalk

theorem wrap_u32 (x : Int) : IntKind.u32.wrap x = x % 4294967296 := by
  simp only [IntKind.wrap, IntKind.signed, IntKind.bits]
  simp
theorem u32_ofInt (c : Nat) (hc : c < 4294967296) : (BitVec.ofInt 32 (c : Int)).toNat = c := by
  rw [BitVec.ofInt_natCast, BitVec.toNat_ofNat]; exact Nat.mod_eq_of_lt (by omega)
theorem u32_xor_nat (a b : Nat) (ha : a < 4294967296) (hb : b < 4294967296) : bits .xor .u32 (a : Int) (b : Int) = ((a ^^^ b : Nat) : Int) := by
  have hx : a ^^^ b < 2 ^ 32 := Nat.xor_lt_two_pow (by omega) (by omega)
  show IntKind.u32.wrap ((BitVec.ofInt 32 (a : Int) ^^^ BitVec.ofInt 32 (b : Int)).toNat : Int) = _
  rw [BitVec.toNat_xor, u32_ofInt a ha, u32_ofInt b hb, wrap_u32]
  omega
theorem u32_and_nat (a b : Nat) (ha : a < 4294967296) (hb : b < 4294967296) : bits .and .u32 (a : Int) (b : Int) = ((a &&& b : Nat) : Int) := by
  have hx : a &&& b < 2 ^ 32 := Nat.and_lt_two_pow _ (by omega)
  show IntKind.u32.wrap ((BitVec.ofInt 32 (a : Int) &&& BitVec.ofInt 32 (b : Int)).toNat : Int) = _
  rw [BitVec.toNat_and, u32_ofInt a ha, u32_ofInt b hb, wrap_u32]
  omega
theorem u32_or_nat (a b : Nat) (ha : a < 4294967296) (hb : b < 4294967296) : bits .or .u32 (a : Int) (b : Int) = ((a ||| b : Nat) : Int) := by
  have hx : a ||| b < 2 ^ 32 := Nat.or_lt_two_pow (by omega) (by omega)
  show IntKind.u32.wrap ((BitVec.ofInt 32 (a : Int) ||| BitVec.ofInt 32 (b : Int)).toNat : Int) = _
  rw [BitVec.toNat_or, u32_ofInt a ha, u32_ofInt b hb, wrap_u32]
  omega

def crcStep (r : Nat) : Nat := if r % 2 = 1 then (r / 2) ^^^ 2197175160 else r / 2
def crcN : Nat → Nat → Nat
  | 0, r => r
  | k + 1, r => crcStep (crcN k r)
def crcByte (r : Nat) (c : UInt8) : Nat := crcN 8 (r ^^^ c.toNat)
def crcL (r : Nat) (l : List UInt8) : Nat := l.foldl crcByte r
theorem crcStep_lt {r : Nat} (h : r < 4294967296) : crcStep r < 4294967296 := by
  unfold crcStep
  split
  · exact Nat.xor_lt_two_pow (n := 32) (by omega) (by omega)
  · omega
theorem crcN_lt {r : Nat} (h : r < 4294967296) : ∀ k, crcN k r < 4294967296
  | 0 => h
  | k + 1 => crcStep_lt (crcN_lt h k)
theorem byte_xor_lt {r : Nat} (h : r < 4294967296) (c : UInt8) : r ^^^ c.toNat < 4294967296 :=
  Nat.xor_lt_two_pow (n := 32) (by omega) (by have := c.toNat_lt; omega)
theorem crcByte_lt {r : Nat} (h : r < 4294967296) (c : UInt8) : crcByte r c < 4294967296 := crcN_lt (byte_xor_lt h c) 8
theorem crcL_lt {r : Nat} (h : r < 4294967296) (l : List UInt8) : crcL r l < 4294967296 := by
  induction l generalizing r with
  | nil => exact h
  | cons c l ih => exact ih (crcByte_lt h c)
theorem crcL_snoc (r : Nat) (l : List UInt8) (c : UInt8) : crcL r (l ++ [c]) = crcByte (crcL r l) c := by simp [crcL]
theorem and1_u32 {r : Nat} (h : r < 4294967296) : bits .and .u32 (r : Int) 1 = ((r % 2 : Nat) : Int) := by
  have := u32_and_nat r 1 h (by omega)
  rw [Nat.and_one_is_mod] at this
  exact this
theorem poly_u32 {r : Nat} (h : r < 4294967296) : bits .xor .u32 ((r : Int) / 2) 2197175160 = (((r / 2) ^^^ 2197175160 : Nat) : Int) := by
  have := u32_xor_nat (r / 2) 2197175160 (by omega) (by omega)
  rw [← this]
  congr 1
theorem RdB.byte {w : World} {F : Nat → Prop} {A : Option Addr} {c : Nat} {l : List UInt8} (h : RdB w F (.slice A l.length c) l) {k : Nat} (hk : k < l.length) :
    ∃ b off, A = some ⟨b, off, none⟩ ∧ F b ∧ w.cell? ⟨b, off + k, none⟩ = some (.int .u8 (l[k].toNat : Int)) := by
  obtain ⟨h1, A', c', hv, h2, h3, h4, h5⟩ := h
  injection hv with e1 e2 e3
  subst e1; subst e3
  obtain ⟨ad, rfl, hF, hc⟩ := h5 (by omega)
  obtain ⟨b, off, sp⟩ := ad
  have hk' := hc k _ (bv_get hk)
  have hsp : sp = none := by
    cases sp with
    | none => rfl
    | some q =>
      have h0 := hc 0 _ (bv_get (show 0 < l.length by omega))
      rw [add_zero'] at h0
      simp only [World.cell?] at h0
      split at h0 <;> simp at h0
  subst hsp
  refine ⟨b, off, rfl, hF, ?_⟩
  unfold Addr.add at hk'
  split at hk'
  · rename_i hj; subst hj; exact hk'
  · exact hk'

def UpdRel (r0 : Nat) (l : List UInt8) (r i : Value) : Prop := ∃ k : Nat, k ≤ l.length ∧ i = .int .i64 k ∧ r = .int .u32 ((crcL r0 (l.take k) : Nat) : Int)
def BitRel (q : Nat) (r i : Value) : Prop := ∃ k : Nat, k ≤ 8 ∧ i = .int .i64 k ∧ r = .int .u32 ((crcN k q : Nat) : Int)
set_option maxRecDepth 100000 in
set_option maxHeartbeats 1000000 in
theorem update_any (r0 : Nat) (F : Nat → Prop) (v : Value) (l : List UInt8) (w : World) (hr : r0 < 4294967296) (hv : RdB w F v l) :
    Calls Tryz.prog 142 #[.int .u32 (r0 : Int), v] w fun e w' => e = .returned (.int .u32 ((crcL r0 l : Nat) : Int)) ∧ w = w' := by
  obtain ⟨A, c, rfl, hc1, hc2, hc3⟩ := hv.open_
  unfold maxLen at hc2
  go_enter Tryz.func142, Tryz.ntmps142
  go_wp2_with fail
  go_loop [0, 9] (fun r i => UpdRel r0 l r i) (fun _ i => l.length - (intOf i).toNat)
  case atStart => exact ⟨0, Nat.zero_le _, rfl, rfl⟩
  case round =>
    obtain ⟨k, hk, rfl, rfl⟩ := hrel
    have hlt0 := crcL_lt hr (l.take k)
    by_cases hlt : k < l.length
    · obtain ⟨b, off, rfl, hF, g0⟩ := RdB.byte hv hlt
      have hsn := crcL_snoc r0 (l.take k) l[k]
      rw [← List.take_succ_eq_append_getElem hlt] at hsn
      generalize l[k] = ch at *
      generalize crcL r0 (l.take k) = q at *
      have hc256 := ch.toNat_lt
      have hx := u32_xor_nat q ch.toNat hlt0 (by omega)
      have hq := byte_xor_lt hlt0 ch
      unfold crcByte at hsn
      have HS := Lib.hid hsn
      clear hsn
      go_wp2_with fail
      generalize q ^^^ ch.toNat = q' at *
      clear hx
      go_loop [0, 17] (fun r i => BitRel q' r i) (fun _ i => 8 - (intOf i).toNat)
      case atStart => exact ⟨0, Nat.zero_le _, rfl, rfl⟩
      case round =>
        obtain ⟨j, hj, rfl, rfl⟩ := hrel
        have hN := crcN_lt hq j
        have hst : crcN (j + 1) q' = crcStep (crcN j q') := rfl
        have HST := Lib.hid hst
        clear hst
        generalize hM : crcN j q' = M at *
        have HM := Lib.hid hM
        clear hM
        by_cases hj8 : j < 8
        · have hand := and1_u32 hN
          have hpoly := poly_u32 hN
          by_cases hodd : M % 2 = 1
          · rw [hodd] at hand
            have b1 : (bits .and .u32 (M : Int) 1 == 1) = true := by rw [hand]; rfl
            have HE := Lib.hid (show crcStep M = (M / 2) ^^^ 2197175160 by unfold crcStep; rw [if_pos hodd])
            clear hodd hand
            go_wp2_with fail
            go_round
            case rel => exact ⟨j + 1, by omega, by go_num, by rw [HST.out, HE.out]⟩
            case measure => simp [intOf]; omega
          · have b1 : (bits .and .u32 (M : Int) 1 == 1) = false := by rw [hand, beq_eq_false_iff_ne]; omega
            have HE := Lib.hid (show crcStep M = M / 2 by unfold crcStep; rw [if_neg hodd])
            clear hodd hand hpoly
            go_wp2_with fail
            go_round
            case rel => exact ⟨j + 1, by omega, by go_num, by rw [HST.out, HE.out]; go_num⟩
            case measure => simp [intOf]; omega
        · have hj' : j = 8 := by omega
          subst hj'
          go_wp2_with fail
          go_round
          case rel => exact ⟨k + 1, by omega, by go_num, by rw [HS.out, HM.out]⟩
          case measure => simp [intOf]; omega
    · go_wp2_with fail
      go_ret
      exact ⟨by rw [List.take_of_length_le (by omega)]; rfl, rfl⟩

/-- the checksum of a length and a body -/
def crcSum (a b : List UInt8) : Nat := 4294967295 - crcL (crcL 4294967295 a) b
theorem not_u32 {y : Nat} (h : y < 4294967296) : bits .xor .u32 IntKind.u32.max (y : Int) = ((4294967295 - y : Nat) : Int) := by
  have e : IntKind.u32.max = ((4294967295 : Nat) : Int) := by decide
  rw [e, u32_xor_nat _ _ (by omega) h]
  congr 1
  have := BitVec.toNat_not (x := BitVec.ofNat 32 y)
  have e3 : (BitVec.ofNat 32 y).toNat = y := by rw [BitVec.toNat_ofNat]; exact Nat.mod_eq_of_lt (by omega)
  rw [BitVec.not_def, BitVec.toNat_xor, e3] at this
  simpa using this
set_option maxHeartbeats 1000000 in
theorem sum_any (F G : Nat → Prop) (va vb : Value) (la lb : List UInt8) (w : World) (ha : RdB w F va la) (hb : RdB w G vb lb) :
    Calls Tryz.prog 75 #[va, vb] w fun e w' => e = .returned (.int .u32 ((crcSum la lb : Nat) : Int)) ∧ w = w' := by
  have h1 := crcL_lt (r := 4294967295) (by omega) la
  have h2 := crcL_lt h1 lb
  have C1 := Lib.hid (update_any 4294967295 F va la w (by omega) ha)
  rw [show ((4294967295 : Nat) : Int) = 4294967295 from rfl] at C1
  have C2 := Lib.hid (update_any _ G vb lb w h1 hb)
  unfold crcSum
  generalize crcL 4294967295 la = x at *
  generalize crcL x lb = y at *
  go_enter Tryz.func75, Tryz.ntmps75
  go_wp2_with fail
  (with_reducible refine C1.out.mono ?_)
  rintro e w1 ⟨rfl, rfl⟩
  go_wp2_with fail
  (with_reducible refine C2.out.mono ?_)
  rintro e w1 ⟨rfl, rfl⟩
  have hn := not_u32 h2
  go_wp2_with fail
  all_goals
    go_ret
    exact ⟨rfl, rfl⟩
end

section
set_option maxRecDepth 100000
open Go.RowKit Go.Lib Go.IntWalk

/-- block g holds just these bytes -/
def BlkB (w : World) (g : Nat) (L : List UInt8) : Prop := w.heap[g]? = some (.cells (bv L).toArray 5 (0, 0))
theorem BlkB.lt {w : World} {g : Nat} {L : List UInt8} (h : BlkB w g L) : g < w.heap.size := (Array.getElem?_eq_some_iff.1 h).1
theorem BlkB.cell {w : World} {g : Nat} {L : List UInt8} (h : BlkB w g L) {i : Nat} (hi : i < L.length) : w.cell? ⟨g, i, none⟩ = some (.int .u8 (L[i].toNat : Int)) := by
  rw [cell_of_row w g i _ _ _ h]
  simpa using bv_get hi
theorem bv_set (L : List UInt8) (i : Nat) (x : UInt8) : (bv L).set i (.int .u8 (x.toNat : Int)) = bv (L.set i x) := by unfold bv; rw [List.map_set]
theorem BlkB.set {w : World} {g : Nat} {L : List UInt8} (h : BlkB w g L) (i : Nat) (x : UInt8) (y : Int) (hy : y = (x.toNat : Int)) : BlkB (w.setCell ⟨g, i, none⟩ (.int .u8 y)) g (L.set i x) := by
  subst hy
  unfold BlkB at *
  rw [← bv_set]
  simp [World.setCell, Array.getElem?_modify, h]
theorem grown_set (w : World) (g i : Nat) (v : Value) : w.grownBy (w.setCell ⟨g, i, none⟩ v) (some g) := by
  refine ⟨rfl, rfl, rfl, by simp, fun k hk hne => ?_⟩
  have : g ≠ k := fun e => hne (by rw [e])
  simp [World.setCell, Array.getElem?_modify, this]
theorem grown_trans {a b c : World} {g : Nat} (h : a.grownBy b (some g)) (k : b.grownBy c (some g)) : a.grownBy c (some g) :=
  ⟨k.os.trans h.os, k.tape.trans h.tape, k.output.trans h.output, Nat.le_trans h.size k.size, fun i hi hne => (k.block i (Nat.lt_of_lt_of_le hi h.size) hne).trans (h.block i hi hne)⟩
def be4 (x : Nat) : List UInt8 := [24, 16, 8, 0].map fun s => UInt8.ofNat (x / 2 ^ s % 256)
theorem be4_length (x : Nat) : (be4 x).length = 4 := rfl
def putN (L : List UInt8) (o x k : Nat) : List UInt8 := L.take o ++ ((be4 x).take k ++ L.drop (o + k))
theorem putN_zero (L : List UInt8) (o x : Nat) : putN L o x 0 = L := by simp [putN]
theorem putN_length {L : List UInt8} {o x k : Nat} (h : o + 4 ≤ L.length) (hk : k ≤ 4) : (putN L o x k).length = L.length := by
  simp only [putN, List.length_append, List.length_take, List.length_drop, be4_length]; omega
theorem be4_get (x : Nat) {k : Nat} (hk : k < 4) : (be4 x)[k]? = some (UInt8.ofNat (x / 2 ^ (24 - 8 * k) % 256)) := by
  have h : k = 0 ∨ k = 1 ∨ k = 2 ∨ k = 3 := by omega
  rcases h with rfl | rfl | rfl | rfl <;> rfl
theorem putN_get {L : List UInt8} {o x k j : Nat} (h : o + 4 ≤ L.length) (hk : k ≤ 4) : (putN L o x k)[j]? = if j < o then L[j]? else if j < o + k then (be4 x)[j - o]? else L[j]? := by
  have h1 : (L.take o).length = o := by rw [List.length_take]; omega
  have h2 : ((be4 x).take k).length = k := by rw [List.length_take, be4_length]; omega
  unfold putN
  by_cases c1 : j < o
  · rw [if_pos c1, List.getElem?_append_left (by omega), List.getElem?_take, if_pos c1]
  · rw [if_neg c1, List.getElem?_append_right (by omega), h1]
    by_cases c2 : j < o + k
    · rw [if_pos c2, List.getElem?_append_left (by omega), List.getElem?_take, if_pos (by omega)]
    · rw [if_neg c2, List.getElem?_append_right (by omega), h2, List.getElem?_drop]
      congr 1
      omega
theorem putN_step {L : List UInt8} {o x k : Nat} (h : o + 4 ≤ L.length) (hk : k < 4) : (putN L o x k).set (o + k) (UInt8.ofNat (x / 2 ^ (24 - 8 * k) % 256)) = putN L o x (k + 1) := by
  apply List.ext_getElem?
  intro j
  rw [List.getElem?_set, putN_length h (by omega), putN_get h (by omega), putN_get h (by omega)]
  by_cases hj : o + k = j
  · subst hj
    rw [if_pos rfl, if_pos (by omega), if_neg (by omega), if_pos (by omega), show o + k - o = k by omega, be4_get x hk]
  · rw [if_neg hj]
    by_cases c1 : j < o
    · rw [if_pos c1, if_pos c1]
    · rw [if_neg c1, if_neg c1]
      by_cases c2 : j < o + k
      · rw [if_pos c2, if_pos (by omega)]
      · rw [if_neg c2, if_neg (by omega)]
theorem be4_byte (x k : Nat) : ((x : Int) / 2 ^ (24 - 8 * k)) % 256 = ((UInt8.ofNat (x / 2 ^ (24 - 8 * k) % 256)).toNat : Int) := by
  rw [← byte_of (by omega)]
  simp
def PutRel (g o x : Nat) (L : List UInt8) (w0 : World) (i : Value) (w : World) : Prop :=
  ∃ k : Nat, k ≤ 4 ∧ i = .int .i64 k ∧ BlkB w g (putN L o x k) ∧ w0.grownBy w (some g)
def Put4 (g o x : Nat) (L : List UInt8) (w0 : World) (e : Ending) (w : World) : Prop := ∃ v, e = .returned v ∧ BlkB w g (putN L o x 4) ∧ w0.grownBy w (some g)

set_option maxRecDepth 100000 in
set_option maxHeartbeats 1000000 in
theorem put4_any (g o n c x : Nat) (L : List UInt8) (w : World) (hg : BlkB w g L) (ho : o + 4 ≤ L.length) (hn : 4 ≤ n) :
    Calls Tryz.prog 134 #[.slice (some ⟨g, o, none⟩) n c, .int .u32 (x : Int)] w (Put4 g o x L w) := by
  have HG := Lib.hid hg
  clear hg
  have hn' : (4 : Int) ≤ (n : Int) := by omega
  go_enter Tryz.func134, Tryz.ntmps134
  go_wp2_with fail
  go_loopw [5] (fun i wr => PutRel g o x L w i wr) (fun i _ => 4 - (intOf i).toNat)
  case atStart => exact ⟨0, by omega, rfl, by rw [putN_zero]; exact HG.out, World.grownBy.refl _ _⟩
  case round =>
    clear HG
    obtain ⟨k, hk, rfl, hB, hgr⟩ := hrel
    obtain ⟨wo, rfl⟩ : ∃ wo : World, wo = wr := ⟨_, rfl⟩
    by_cases hlt : k < 4
    · have hl := putN_length (x := x) ho hk
      have hc := hB.cell (i := o + k) (by omega)
      have hfz : ∀ j, wo.frozen? ⟨g, j, none⟩ = false := fun j => by unfold BlkB at hB; simp [World.frozen?, hB]
      have hend := Lib.hid (fun y hy => (hB.set (o + k) (UInt8.ofNat (x / 2 ^ (24 - 8 * k) % 256)) y hy))
      rw [putN_step ho hlt] at hend
      generalize (putN L o x k)[o + k] = old at *
      have hgr' := Lib.hid hgr
      have hB' := Lib.hid hB
      clear hB hgr hl
      have i1 : (0 : Int) ≤ (k : Int) := by omega
      have i2 : (k : Int) < (n : Int) := by omega
      have i3 : (0 : Int) ≤ 24 - 8 * (k : Int) := by omega
      go_wp2_with fail
      go_roundw
      case rel => exact ⟨k + 1, by omega, by go_num, hend.out _ (be4_byte x k), grown_trans hgr'.out (grown_set _ _ _ _)⟩
      case measure => simp [intOf]; omega
    · have hk4 : k = 4 := by omega
      subst hk4
      have HB := Lib.hid hB
      have HR := Lib.hid hgr
      clear hB hgr
      go_wp2_with fail
      go_end0
      exact ⟨_, rfl, HB.out, HR.out⟩
end

section
set_option maxRecDepth 100000
open Go.RowKit Go.Lib Go.IntWalk

def num4 (c0 c1 c2 c3 : UInt8) : Nat := ((c0.toNat * 256 + c1.toNat) * 256 + c2.toNat) * 256 + c3.toNat
theorem ret_intF {k : IntKind} {a b : Int} (h : a = b) : Ending.returned (.int k a) = .returned (.int k b) := by rw [h]
theorem or_add (a b i p : Nat) (hp : 2 ^ i = p) (h : b < p) : (a * p) ||| b = a * p + b := by
  subst hp
  rw [Nat.mul_comm, ← Nat.two_pow_add_eq_or_of_lt h]
theorem sh_word (c p : Nat) (P : Int) (hP : P = (p : Int)) (hc : c < 4294967296) (h : c * p < 4294967296) : ((c : Int) % 4294967296 * P) % 4294967296 = ((c * p : Nat) : Int) := by
  subst hP
  have e : (c : Int) % 4294967296 = c := by omega
  rw [e, ← Int.natCast_mul]
  omega
theorem f1_word (a b : Nat) : a * 16777216 + b * 65536 = (a * 256 + b) * 65536 := by omega
theorem f2_word (A b : Nat) : A * 65536 + b * 256 = (A * 256 + b) * 256 := by omega
theorem get_word (c0 c1 c2 c3 : UInt8) : bits .or .u32 (bits .or .u32 (bits .or .u32 (IntKind.u32.wrap (IntKind.u32.wrap (c0.toNat : Int) * 16777216)) (IntKind.u32.wrap (IntKind.u32.wrap (c1.toNat : Int) * 65536))) (IntKind.u32.wrap (IntKind.u32.wrap (c2.toNat : Int) * 256))) (IntKind.u32.wrap (c3.toNat : Int)) = ((num4 c0 c1 c2 c3 : Nat) : Int) := by
  have h0 := c0.toNat_lt
  have h1 := c1.toNat_lt
  have h2 := c2.toNat_lt
  have h3 := c3.toNat_lt
  simp only [wrap_u32]
  have e0 : ((c0.toNat : Int) % 4294967296 * 16777216) % 4294967296 = ((c0.toNat * 16777216 : Nat) : Int) := sh_word c0.toNat 16777216 _ (by simp) (by omega) (by omega)
  have e1 : ((c1.toNat : Int) % 4294967296 * 65536) % 4294967296 = ((c1.toNat * 65536 : Nat) : Int) := sh_word c1.toNat 65536 _ (by simp) (by omega) (by omega)
  have e2 : ((c2.toNat : Int) % 4294967296 * 256) % 4294967296 = ((c2.toNat * 256 : Nat) : Int) := sh_word c2.toNat 256 _ (by simp) (by omega) (by omega)
  have e3 : (c3.toNat : Int) % 4294967296 = ((c3.toNat : Nat) : Int) := by omega
  rw [e0, e1, e2, e3, u32_or_nat _ _ (by omega) (by omega), or_add _ _ 24 _ rfl (by omega)]
  rw [f1_word, u32_or_nat _ _ (by omega) (by omega), or_add _ _ 16 _ rfl (by omega)]
  rw [f2_word, u32_or_nat _ _ (by omega) (by omega), or_add _ _ 8 _ rfl (by omega)]
  rfl
set_option maxRecDepth 100000 in
set_option maxHeartbeats 1000000 in
theorem get4_any (b off n c : Nat) (c0 c1 c2 c3 : UInt8) (w : World) (hn : 4 ≤ n) (g0 : w.cell? ⟨b, off, none⟩ = some (.int .u8 (c0.toNat : Int))) (g1 : w.cell? ⟨b, off + 1, none⟩ = some (.int .u8 (c1.toNat : Int))) (g2 : w.cell? ⟨b, off + 2, none⟩ = some (.int .u8 (c2.toNat : Int))) (g3 : w.cell? ⟨b, off + 3, none⟩ = some (.int .u8 (c3.toNat : Int))) :
    Calls Tryz.prog 74 #[.slice (some ⟨b, off, none⟩) n c] w fun e w' => e = .returned (.int .u32 ((num4 c0 c1 c2 c3 : Nat) : Int)) ∧ Below w.heap.size w w' := by
  have hn0 : 0 < n := by omega
  have hn1 : (1 : Int) < (n : Int) := by omega
  have hn2 : (2 : Int) < (n : Int) := by omega
  have hn3 : (3 : Int) < (n : Int) := by omega
  go_enter Tryz.func74, Tryz.ntmps74
  go_wp2_with fail
  refine wp_region_noPanic ?_
  refine wp_region_held_drew (S := (fun w' => w'.cell? ⟨b, off, none⟩ = some (.int .u8 (c0.toNat : Int)) ∧ w'.cell? ⟨b, off + 1, none⟩ = some (.int .u8 (c1.toNat : Int)) ∧ w'.cell? ⟨b, off + 2, none⟩ = some (.int .u8 (c2.toNat : Int)) ∧ w'.cell? ⟨b, off + 3, none⟩ = some (.int .u8 (c3.toNat : Int)))) (by kernel_rfl) ?_ (fun hHeld => ?_)
  · exact ⟨g0, g1, g2, g3⟩
  refine heldTake 0 (some 3) (v := ?_) rfl rfl (by kernel_rfl) (by kernel_rfl) (by kernel_rfl) (by rfl) hHeld (fun _ _ _ h => h) ?_ ?_
  rotate_left
  · intro w' hSw; (try dsimp only at hSw); go_simp <;> with_reducible rfl
  simp only [Act.put, List.setIfInBounds_toArray, List.set_cons_zero, List.set_cons_succ]
  refine heldTake 1 (some 4) (v := ?_) rfl rfl (by kernel_rfl) (by kernel_rfl) (by kernel_rfl) (by rfl) hHeld (fun _ _ _ h => h) ?_ ?_
  rotate_left
  · intro w' hSw; (try dsimp only at hSw); go_simp <;> with_reducible rfl
  simp only [Act.put, List.setIfInBounds_toArray, List.set_cons_zero, List.set_cons_succ]
  refine heldTake 2 (some 5) (v := ?_) rfl rfl (by kernel_rfl) (by kernel_rfl) (by kernel_rfl) (by rfl) hHeld (fun _ _ _ h => h) ?_ ?_
  rotate_left
  · intro w' hSw; (try dsimp only at hSw); go_simp <;> with_reducible rfl
  simp only [Act.put, List.setIfInBounds_toArray, List.set_cons_zero, List.set_cons_succ]
  refine heldTake 3 (some 6) (v := ?_) rfl rfl (by kernel_rfl) (by kernel_rfl) (by kernel_rfl) (by rfl) hHeld (fun _ _ _ h => h) ?_ ?_
  rotate_left
  · intro w' hSw; (try dsimp only at hSw); go_simp <;> with_reducible rfl
  simp only [Act.put, List.setIfInBounds_toArray, List.set_cons_zero, List.set_cons_succ]
  refine heldTake 4 (some 7) (v := ?_) rfl rfl (by kernel_rfl) (by kernel_rfl) (by kernel_rfl) (by rfl) hHeld (fun _ _ _ h => h) ?_ ?_
  rotate_left
  · intro w' hSw; (try dsimp only at hSw); go_simp <;> with_reducible rfl
  simp only [Act.put, List.setIfInBounds_toArray, List.set_cons_zero, List.set_cons_succ]
  refine heldTake 5 (some 8) (v := ?_) rfl rfl (by kernel_rfl) (by kernel_rfl) (by kernel_rfl) (by rfl) hHeld (fun _ _ _ h => h) ?_ ?_
  rotate_left
  · intro w' hSw; (try dsimp only at hSw); go_simp <;> with_reducible rfl
  simp only [Act.put, List.setIfInBounds_toArray, List.set_cons_zero, List.set_cons_succ]
  refine heldTake 6 (some 9) (v := ?_) rfl rfl (by kernel_rfl) (by kernel_rfl) (by kernel_rfl) (by rfl) hHeld (fun _ _ _ h => h) ?_ ?_
  rotate_left
  · intro w' hSw; (try dsimp only at hSw); go_simp <;> with_reducible rfl
  simp only [Act.put, List.setIfInBounds_toArray, List.set_cons_zero, List.set_cons_succ]
  refine heldTake 7 (some 10) (v := ?_) rfl rfl (by kernel_rfl) (by kernel_rfl) (by kernel_rfl) (by rfl) hHeld (fun _ _ _ h => h) ?_ ?_
  rotate_left
  · intro w' hSw; (try dsimp only at hSw); go_simp <;> with_reducible rfl
  simp only [Act.put, List.setIfInBounds_toArray, List.set_cons_zero, List.set_cons_succ]
  refine heldTake 8 (some 11) (v := ?_) rfl rfl (by kernel_rfl) (by kernel_rfl) (by kernel_rfl) (by rfl) hHeld (fun _ _ _ h => h) ?_ ?_
  rotate_left
  · intro w' hSw; (try dsimp only at hSw); go_simp <;> with_reducible rfl
  simp only [Act.put, List.setIfInBounds_toArray, List.set_cons_zero, List.set_cons_succ]
  refine heldTake 9 (some 12) (v := ?_) rfl rfl (by kernel_rfl) (by kernel_rfl) (by kernel_rfl) (by rfl) hHeld (fun _ _ _ h => h) ?_ ?_
  rotate_left
  · intro w' hSw; (try dsimp only at hSw); go_simp <;> with_reducible rfl
  simp only [Act.put, List.setIfInBounds_toArray, List.set_cons_zero, List.set_cons_succ]
  refine heldTake 10 (some 13) (v := ?_) rfl rfl (by kernel_rfl) (by kernel_rfl) (by kernel_rfl) (by rfl) hHeld (fun _ _ _ h => h) ?_ ?_
  rotate_left
  · intro w' hSw; (try dsimp only at hSw); go_simp <;> with_reducible rfl
  simp only [Act.put, List.setIfInBounds_toArray, List.set_cons_zero, List.set_cons_succ]
  refine heldTake 11 (some 14) (v := ?_) rfl rfl (by kernel_rfl) (by kernel_rfl) (by kernel_rfl) (by rfl) hHeld (fun _ _ _ h => h) ?_ ?_
  rotate_left
  · intro w' hSw; (try dsimp only at hSw); go_simp <;> with_reducible rfl
  simp only [Act.put, List.setIfInBounds_toArray, List.set_cons_zero, List.set_cons_succ]
  refine heldTake 12 (some 15) (v := ?_) rfl rfl (by kernel_rfl) (by kernel_rfl) (by kernel_rfl) (by rfl) hHeld (fun _ _ _ h => h) ?_ ?_
  rotate_left
  · intro w' hSw; (try dsimp only at hSw); go_simp <;> with_reducible rfl
  simp only [Act.put, List.setIfInBounds_toArray, List.set_cons_zero, List.set_cons_succ]
  refine heldTake 13 (some 16) (v := ?_) rfl rfl (by kernel_rfl) (by kernel_rfl) (by kernel_rfl) (by rfl) hHeld (fun _ _ _ h => h) ?_ ?_
  rotate_left
  · intro w' hSw; (try dsimp only at hSw); go_simp <;> with_reducible rfl
  simp only [Act.put, List.setIfInBounds_toArray, List.set_cons_zero, List.set_cons_succ]
  refine heldTake 14 (some 17) (v := ?_) rfl rfl (by kernel_rfl) (by kernel_rfl) (by kernel_rfl) (by rfl) hHeld (fun _ _ _ h => h) ?_ ?_
  rotate_left
  · intro w' hSw; (try dsimp only at hSw); go_simp <;> with_reducible rfl
  simp only [Act.put, List.setIfInBounds_toArray, List.set_cons_zero, List.set_cons_succ]
  refine heldTake 15 (some 18) (v := ?_) rfl rfl (by kernel_rfl) (by kernel_rfl) (by kernel_rfl) (by rfl) hHeld (fun _ _ _ h => h) ?_ ?_
  rotate_left
  · intro w' hSw; (try dsimp only at hSw); go_simp <;> with_reducible rfl
  simp only [Act.put, List.setIfInBounds_toArray, List.set_cons_zero, List.set_cons_succ]
  refine heldTake 16 (some 19) (v := ?_) rfl rfl (by kernel_rfl) (by kernel_rfl) (by kernel_rfl) (by rfl) hHeld (fun _ _ _ h => h) ?_ ?_
  rotate_left
  · intro w' hSw; (try dsimp only at hSw); go_simp <;> with_reducible rfl
  simp only [Act.put, List.setIfInBounds_toArray, List.set_cons_zero, List.set_cons_succ]
  refine heldTake 17 (some 20) (v := ?_) rfl rfl (by kernel_rfl) (by kernel_rfl) (by kernel_rfl) (by rfl) hHeld (fun _ _ _ h => h) ?_ ?_
  rotate_left
  · intro w' hSw; (try dsimp only at hSw); go_simp <;> with_reducible rfl
  simp only [Act.put, List.setIfInBounds_toArray, List.set_cons_zero, List.set_cons_succ]
  refine heldTake 18 (some 21) (v := ?_) rfl rfl (by kernel_rfl) (by kernel_rfl) (by kernel_rfl) (by rfl) hHeld (fun _ _ _ h => h) ?_ ?_
  rotate_left
  · intro w' hSw; (try dsimp only at hSw); go_simp <;> with_reducible rfl
  simp only [Act.put, List.setIfInBounds_toArray, List.set_cons_zero, List.set_cons_succ]
  refine heldTake 19 (some 22) (v := ?_) rfl rfl (by kernel_rfl) (by kernel_rfl) (by kernel_rfl) (by rfl) hHeld (fun _ _ _ h => h) ?_ ?_
  rotate_left
  · intro w' hSw; (try dsimp only at hSw); go_simp <;> with_reducible rfl
  simp only [Act.put, List.setIfInBounds_toArray, List.set_cons_zero, List.set_cons_succ]
  refine heldTake 20 (some 23) (v := ?_) rfl rfl (by kernel_rfl) (by kernel_rfl) (by kernel_rfl) (by rfl) hHeld (fun _ _ _ h => h) ?_ ?_
  rotate_left
  · intro w' hSw; (try dsimp only at hSw); go_simp <;> with_reducible rfl
  simp only [Act.put, List.setIfInBounds_toArray, List.set_cons_zero, List.set_cons_succ]
  refine heldTake 21 (some 24) (v := ?_) rfl rfl (by kernel_rfl) (by kernel_rfl) (by kernel_rfl) (by rfl) hHeld (fun _ _ _ h => h) ?_ ?_
  rotate_left
  · intro w' hSw; (try dsimp only at hSw); go_simp <;> with_reducible rfl
  simp only [Act.put, List.setIfInBounds_toArray, List.set_cons_zero, List.set_cons_succ]
  refine heldTake 22 (some 2) (v := ?_) rfl rfl (by kernel_rfl) (by kernel_rfl) (by kernel_rfl) (by rfl) hHeld (fun _ _ _ h => h) ?_ ?_
  rotate_left
  · intro w' hSw; (try dsimp only at hSw); go_simp <;> with_reducible rfl
  simp only [Act.put, List.setIfInBounds_toArray, List.set_cons_zero, List.set_cons_succ]
  refine wpAnyH_done (by kernel_rfl) ?_ _
  refine NoPanic.normal ?_
  go_wp2_with fail
  go_ret
  exact ⟨ret_intF (get_word c0 c1 c2 c3), (Below.refl _ _).drew⟩

theorem num4_lt (c0 c1 c2 c3 : UInt8) : num4 c0 c1 c2 c3 < 4294967296 := by
  have h0 := c0.toNat_lt
  have h1 := c1.toNat_lt
  have h2 := c2.toNat_lt
  have h3 := c3.toNat_lt
  unfold num4; omega
/-- the number of four bytes at an offset of a list -/
def num4L (l : List UInt8) (k : Nat) : Nat := num4 (l.getD k 0) (l.getD (k + 1) 0) (l.getD (k + 2) 0) (l.getD (k + 3) 0)
theorem num4_be4 (x : Nat) (h : x < 4294967296) : num4L (be4 x) 0 = x := by
  unfold num4L be4 num4
  simp [UInt8.toNat_ofNat']
  omega
end

section
set_option maxRecDepth 100000
open Go.RowKit Go.Lib Go.IntWalk

/-- a frame -/
def frm (l : List UInt8) : List UInt8 := be4 l.length ++ (be4 (crcSum (be4 l.length) l) ++ l)
theorem BlkB.rd {w : World} {g : Nat} {L : List UInt8} (h : BlkB w g L) {o k c : Nat} (h1 : o + k ≤ L.length) (h2 : k ≤ c) (h3 : c ≤ maxLen) : RdB w (fun b => b = g) (.slice (some ⟨g, o, none⟩) k c) ((L.drop o).take k) := by
  have hl : ((L.drop o).take k).length = k := by rw [List.length_take, List.length_drop]; omega
  unfold RdB
  rw [hl]
  refine ⟨by rw [bv_length, hl, Nat.mul_one], _, c, rfl, h2, h3, fun h => (Option.some_ne_none _ h).elim, fun hk => ⟨_, rfl, rfl, fun j u hu => ?_⟩⟩
  have hj : j < k := by
    rcases Nat.lt_or_ge j k with h' | h'
    · exact h'
    · rw [List.getElem?_eq_none (by rw [bv_length, hl]; exact h')] at hu; cases hu
  have hadd : (⟨g, o, none⟩ : Addr).add j = ⟨g, o + j, none⟩ := by unfold Addr.add; split <;> simp_all
  rw [hadd, h.cell (show o + j < L.length by omega)]
  rw [bv_get (by rw [hl]; exact hj)] at hu
  rw [← hu]
  simp
theorem infoB1 : (Tryz.prog.info? 5).map (·.size) = some 1 := by kernel_rfl
theorem make_bytes (N : Nat) (hN : N ≤ 140737488355328) (W : World) : (Instr.makeSlice 29 (.int .i64 (N : Int)) (.int .i64 (N : Int))).run Tryz.prog W = .ok (.slice (some ⟨W.heap.size, 0, none⟩) N N) (W.alloc (.cells (bv (List.replicate N 0)).toArray 5)) := by
  obtain ⟨i0, hi, hz0, hz1, hz2⟩ := info_parts infoB
  have h := run_make (P := Tryz.prog) W 29 5 i0 _ Tryz.underlying29 hi hz0 .i64 .i64 (N : Int) (N : Int) (by omega) (Int.le_refl _) (by rw [hz2]; omega) (by omega)
  rw [hz1, Int.toNat_natCast, Nat.mul_one] at h
  have e : madeCells (Value.int .u8 0).cells N = (bv (List.replicate N 0)).toArray := by
    apply Array.toList_inj.1
    rw [show (Value.int .u8 0).cells = #[.int .u8 0] from rfl, toList_madeCells_one]
    simp [bv]
  rw [e] at h
  exact h
def New2 (w0 : World) (l : List UInt8) (e : Ending) (w : World) : Prop := ∃ v, e = .returned (.tuple #[v, .int .i64 0]) ∧ OwnB w w0.heap.size v l ∧ Below w0.heap.size w0 w

set_option maxRecDepth 100000 in
set_option maxHeartbeats 2000000 in
theorem frAppend_ne (v : Value) (l : List UInt8) (w : World) (hv : RdB w (· < w.heap.size) v l) (hl : l.length ≤ 1048576) (hne : ¬ l = []) :
    Calls Tryz.prog 66 #[.slice none 0 0, v] w (New2 w (frm l)) := by
  obtain ⟨A, c, rfl, hc1, hc2, hc3⟩ := hv.open_
  have hmk := make_bytes (8 + l.length) (by omega)
  have ec : (((8 + l.length : Nat)) : Int) = 8 + (l.length : Int) := by omega
  rw [ec] at hmk
  have q1 : ¬ (1048576 : Int) < (l.length : Int) := by omega
  have hrl : (List.replicate (8 + l.length) (0 : UInt8)).length = 8 + l.length := by simp
  generalize List.replicate (8 + l.length) (0 : UInt8) = L0 at *
  have HL := Lib.hid hrl
  clear hrl ec
  go_enter Tryz.func66, Tryz.ntmps66
  go_wp2_with (with_reducible refine wpList_copy_nothing rfl (.tmp 18) (.tmp 19) 29 29 rfl 5 Tryz.underlying29 infoB1 _ _ _ _ _ _ rfl rfl (by simp) ?_)
  have hK0 : BlkB (w.alloc (.cells (bv L0).toArray 5)) w.heap.size L0 := heap_alloc_new w _
  (with_reducible refine (put4_any w.heap.size 0 _ _ _ L0 _ hK0 ?_ ?_).mono ?_)
  · rw [HL.out]; omega
  · omega
  rintro e w1 ⟨u1, rfl, hK1, hG1⟩
  have hB1 : Below w.heap.size w w1 := (Below.of_alloc _).trans ((Below.refl _ _).grown hG1 (by simp) (fun k hk => by cases hk; exact Nat.le_refl _))
  have hL1 : (putN L0 0 l.length 4).length = 8 + l.length := by rw [putN_length (by rw [HL.out]; omega) (by omega)]; exact HL.out
  have ht4 : ((putN L0 0 l.length 4).drop 0).take 4 = be4 l.length := by
    simp [putN, be4_length]
    exact List.take_of_length_le (by rw [be4_length]; omega)
  generalize putN L0 0 l.length 4 = L1 at *
  have HL1 := Lib.hid hL1
  have hrd4 : RdB w1 (fun b => b = w.heap.size) (.slice (some ⟨w.heap.size, 0, none⟩) 4 (8 + l.length)) (be4 l.length) := by
    have := hK1.rd (o := 0) (k := 4) (c := 8 + l.length) (by rw [hL1]; omega) (by omega) (by unfold maxLen; omega)
    rw [ht4] at this
    exact this
  have hv1 : RdB w1 (· < w.heap.size) (.slice A l.length c) l := Rd.below hv hB1
  have HT := Lib.hid ht4
  clear hL1 ht4 hK0 hmk
  have s1 : (4 : Int) ≤ 8 + (l.length : Int) := by omega
  go_wp2_with fail
  refine wp_region_noPanic ?_
  refine wp_region_held_drew (S := (fun _ => True)) (by kernel_rfl) ?_ (fun hHeld => ?_)
  · trivial
  refine heldTake 0 (some 30) (v := ?_) rfl rfl (by kernel_rfl) (by kernel_rfl) (by kernel_rfl) (by rfl) hHeld (fun _ _ _ h => h) ?_ ?_
  rotate_left
  · intro w' hSw; (try dsimp only at hSw); go_simp <;> with_reducible rfl
  simp only [Act.put, List.setIfInBounds_toArray, List.set_cons_zero, List.set_cons_succ]
  refine heldTake 1 (some 31) (v := ?_) rfl rfl (by kernel_rfl) (by kernel_rfl) (by kernel_rfl) (by rfl) hHeld (fun _ _ _ h => h) ?_ ?_
  rotate_left
  · intro w' hSw; (try dsimp only at hSw); go_simp <;> with_reducible rfl
  simp only [Act.put, List.setIfInBounds_toArray, List.set_cons_zero, List.set_cons_succ]
  refine heldTake 2 (some 32) (v := ?_) rfl rfl (by kernel_rfl) (by kernel_rfl) (by kernel_rfl) (by rfl) hHeld (fun _ _ _ h => h) ?_ ?_
  rotate_left
  · intro w' hSw; (try dsimp only at hSw); go_simp <;> with_reducible rfl
  simp only [Act.put, List.setIfInBounds_toArray, List.set_cons_zero, List.set_cons_succ]
  refine heldTake 3 (some 33) (v := ?_) rfl rfl (by kernel_rfl) (by kernel_rfl) (by kernel_rfl) (by rfl) hHeld (fun _ _ _ h => h) ?_ ?_
  rotate_left
  · intro w' hSw; (try dsimp only at hSw); go_simp <;> with_reducible rfl
  simp only [Act.put, List.setIfInBounds_toArray, List.set_cons_zero, List.set_cons_succ]
  refine heldTake 4 (some 34) (v := ?_) rfl rfl (by kernel_rfl) (by kernel_rfl) (by kernel_rfl) (by rfl) hHeld (fun _ _ _ h => h) ?_ ?_
  rotate_left
  · intro w' hSw; (try dsimp only at hSw); go_simp <;> with_reducible rfl
  simp only [Act.put, List.setIfInBounds_toArray, List.set_cons_zero, List.set_cons_succ]
  refine heldCall 5 (some 35) (f := ?_) (args := ?_) rfl rfl (by kernel_rfl) (by rfl) ?_ ?_
  rotate_left 2
  · go_simp <;> first | (constructor <;> with_reducible rfl) | with_reducible rfl
  (with_reducible refine (sum_any (fun b => b = w.heap.size) (· < w.heap.size) _ (.slice A l.length c) (be4 l.length) l _ ?_ ?_).mono ?_)
  · exact hrd4
  · exact hv1
  rintro e w2 ⟨rfl, rfl⟩
  refine ⟨_, rfl, keepAnd ?_ (fun hNew => ?_)⟩
  · trivial
  clear hHeld
  have hHeld := hNew
  clear hNew
  simp only [Act.put, List.setIfInBounds_toArray, List.set_cons_zero, List.set_cons_succ]
  refine heldCall 6 (some 36) (f := ?_) (args := ?_) rfl rfl (by kernel_rfl) (by rfl) ?_ ?_
  rotate_left 2
  · go_simp <;> first | (constructor <;> with_reducible rfl) | with_reducible rfl
  rw [if_neg (show ¬ 8 + l.length = 4 by omega)]
  (with_reducible refine (put4_any w.heap.size 4 _ _ _ L1 _ ?_ ?_ ?_).mono ?_)
  · exact hK1
  · rw [HL1.out]; omega
  · omega
  rintro e w2 ⟨u2, rfl, hK2, hG2⟩
  refine ⟨_, rfl, keepAnd ?_ (fun hNew => ?_)⟩
  · trivial
  clear hHeld
  have hHeld := hNew
  clear hNew
  simp only [Act.put, List.setIfInBounds_toArray, List.set_cons_zero, List.set_cons_succ]
  refine wpAnyH_done (by kernel_rfl) ?_ _
  refine NoPanic.normal ?_
  have hl2 : (putN L1 4 (crcSum (be4 l.length) l) 4).length = 8 + l.length := by rw [putN_length (by rw [HL1.out]; omega) (by omega)]; exact HL1.out
  have ht8 : (putN L1 4 (crcSum (be4 l.length) l) 4).take 8 = be4 l.length ++ be4 (crcSum (be4 l.length) l) := by
    have h4 : (be4 (crcSum (be4 l.length) l)).take 4 = be4 (crcSum (be4 l.length) l) := List.take_of_length_le (by rw [be4_length]; omega)
    have ht := HT.out
    rw [List.drop_zero] at ht
    unfold putN
    rw [h4, ht, ← List.append_assoc, List.take_append_of_le_length (by simp [be4_length])]
    exact List.take_of_length_le (by simp [be4_length])
  generalize putN L1 4 (crcSum (be4 l.length) l) 4 = L2 at *
  have hB2 : Below w.heap.size w w2 := hB1.drew.trans ((Below.refl _ _).grown hG2 (by have := hB1.size; exact this) (fun k hk => by cases hk; exact Nat.le_refl _))
  have hv2 : RdB w2 (· < w.heap.size) (.slice A l.length c) l := Rd.below hv hB2
  have HL2 := Lib.hid hl2
  have HT8 := Lib.hid ht8
  have HK2 := Lib.hid hK2
  clear hl2 ht8 hK2 hK1 hG1 hG2 hHeld
  have z1 : ¬ l.length = 0 := fun h => hne (List.eq_nil_of_length_eq_zero h)
  have z2 : ¬ 8 + l.length = 8 := by omega
  have x1 : (bv l).length = Nat.min l.length l.length := by rw [bv_length]; exact (Nat.min_self _).symm
  have x2 : 0 < (bv l).length → ∃ ad, A = some ad ∧ ∀ j v, (bv l)[j]? = some v → w2.cell? (ad.add j) = some v := fun _ => by
    obtain ⟨ad, e1, _, e2⟩ := Rd.at_ hv2 (by omega)
    exact ⟨ad, e1, e2⟩
  have x3 : 8 + (bv l).length ≤ (bv L2).length := by rw [bv_length, bv_length, HL2.out]; omega
  have X1 := Lib.hid x1
  have X2 := Lib.hid x2
  have X3 := Lib.hid x3
  clear x1 x2 x3
  go_wp2_with (refine wpList_copy_splice (by rfl) (.tmp 38) (.tmp 39) 29 29 (by rfl) 5 Tryz.underlying29 infoB1 (some ⟨w.heap.size, 8, none⟩) A l.length l.length l.length c (by rfl) (by rfl) w.heap.size 8 (bv L2) 5 HK2.out (bv l) X1.out (fun h => ⟨rfl, X2.out h⟩) X3.out (bv_one _) w.heap.size w hB2 (Nat.le_refl _) ?_; intro w3 hK3 hB3)
  go_wp2_with fail
  go_ret2
  refine ⟨_, rfl, ?_, hB3⟩
  have h3 := hK3.out
  have e : splice (bv L2) 8 (bv l) = bv (frm l) := by
    unfold splice frm
    rw [bv_length, show 8 + l.length = (bv L2).length by rw [bv_length, HL2.out], List.drop_length, List.append_nil, ← List.append_assoc, bv_append, ← HT8.out]
    congr 1
    unfold bv; rw [List.map_take]
  rw [e] at h3
  have hlen : (frm l).length = 8 + l.length := by unfold frm; simp [be4_length]; omega
  unfold OwnB
  rw [hlen]
  refine ⟨by rw [bv_length, hlen, Nat.mul_one], .inr ⟨w.heap.size, 8 + l.length, _, rfl, Nat.le_refl _, h3, Nat.le_refl _, by unfold maxLen; omega, by simp [bv_length, hlen], ?_⟩⟩
  simp [List.take_of_length_le, bv_length, hlen]
end

section
set_option maxRecDepth 100000
open Go.RowKit Go.Lib Go.IntWalk

set_option maxRecDepth 100000 in
set_option maxHeartbeats 2000000 in
theorem frAppend_nil (v : Value) (w : World) (hv : RdB w (· < w.heap.size) v []) :
    Calls Tryz.prog 66 #[.slice none 0 0, v] w (New2 w (frm [])) := by
  obtain ⟨A, c, rfl, hc1, hc2, hc3⟩ := hv.open_
  have hmk := make_bytes 8 (by omega)
  rw [show ((8 : Nat) : Int) = 8 from rfl] at hmk
  have hrl : (List.replicate 8 (0 : UInt8)).length = 8 := by simp
  generalize List.replicate 8 (0 : UInt8) = L0 at *
  have HL := Lib.hid hrl
  clear hrl
  simp only [List.length_nil] at hv ⊢
  go_enter Tryz.func66, Tryz.ntmps66
  go_wp2_with (with_reducible refine wpList_copy_nothing rfl (.tmp 18) (.tmp 19) 29 29 rfl 5 Tryz.underlying29 infoB1 _ _ _ _ _ _ rfl rfl (by simp) ?_)
  have hK0 : BlkB (w.alloc (.cells (bv L0).toArray 5)) w.heap.size L0 := heap_alloc_new w _
  have CP := put4_any w.heap.size 0 8 8 0 L0 _ hK0 (by rw [HL.out]; omega) (by omega)
  rw [show ((0 : Nat) : Int) = 0 from rfl] at CP
  (with_reducible refine CP.mono ?_)
  clear CP
  rintro e w1 ⟨u1, rfl, hK1, hG1⟩
  have hB1 : Below w.heap.size w w1 := (Below.of_alloc _).trans ((Below.refl _ _).grown hG1 (by simp) (fun k hk => by cases hk; exact Nat.le_refl _))
  have hL1 : (putN L0 0 0 4).length = 8 := by rw [putN_length (by rw [HL.out]; omega) (by omega)]; exact HL.out
  have ht4 : ((putN L0 0 0 4).drop 0).take 4 = be4 0 := by
    simp [putN, be4_length]
    exact List.take_of_length_le (by rw [be4_length]; omega)
  generalize putN L0 0 0 4 = L1 at *
  have HL1 := Lib.hid hL1
  have hrd4 : RdB w1 (fun b => b = w.heap.size) (.slice (some ⟨w.heap.size, 0, none⟩) 4 8) (be4 0) := by
    have := hK1.rd (o := 0) (k := 4) (c := 8) (by rw [hL1]; omega) (by omega) (by unfold maxLen; omega)
    rw [ht4] at this
    exact this
  have hv1 : RdB w1 (· < w.heap.size) (.slice A 0 c) [] := Rd.below hv hB1
  have HT := Lib.hid ht4
  clear hL1 ht4 hK0 hmk
  go_wp2_with fail
  refine wp_region_noPanic ?_
  refine wp_region_held_drew (S := (fun _ => True)) (by kernel_rfl) ?_ (fun hHeld => ?_)
  · trivial
  refine heldTake 0 (some 30) (v := ?_) rfl rfl (by kernel_rfl) (by kernel_rfl) (by kernel_rfl) (by rfl) hHeld (fun _ _ _ h => h) ?_ ?_
  rotate_left
  · intro w' hSw; (try dsimp only at hSw); go_simp <;> with_reducible rfl
  simp only [Act.put, List.setIfInBounds_toArray, List.set_cons_zero, List.set_cons_succ]
  refine heldTake 1 (some 31) (v := ?_) rfl rfl (by kernel_rfl) (by kernel_rfl) (by kernel_rfl) (by rfl) hHeld (fun _ _ _ h => h) ?_ ?_
  rotate_left
  · intro w' hSw; (try dsimp only at hSw); go_simp <;> with_reducible rfl
  simp only [Act.put, List.setIfInBounds_toArray, List.set_cons_zero, List.set_cons_succ]
  refine heldTake 2 (some 32) (v := ?_) rfl rfl (by kernel_rfl) (by kernel_rfl) (by kernel_rfl) (by rfl) hHeld (fun _ _ _ h => h) ?_ ?_
  rotate_left
  · intro w' hSw; (try dsimp only at hSw); go_simp <;> with_reducible rfl
  simp only [Act.put, List.setIfInBounds_toArray, List.set_cons_zero, List.set_cons_succ]
  refine heldTake 3 (some 33) (v := ?_) rfl rfl (by kernel_rfl) (by kernel_rfl) (by kernel_rfl) (by rfl) hHeld (fun _ _ _ h => h) ?_ ?_
  rotate_left
  · intro w' hSw; (try dsimp only at hSw); go_simp <;> with_reducible rfl
  simp only [Act.put, List.setIfInBounds_toArray, List.set_cons_zero, List.set_cons_succ]
  refine heldTake 4 (some 34) (v := ?_) rfl rfl (by kernel_rfl) (by kernel_rfl) (by kernel_rfl) (by rfl) hHeld (fun _ _ _ h => h) ?_ ?_
  rotate_left
  · intro w' hSw; (try dsimp only at hSw); go_simp <;> with_reducible rfl
  simp only [Act.put, List.setIfInBounds_toArray, List.set_cons_zero, List.set_cons_succ]
  refine heldCall 5 (some 35) (f := ?_) (args := ?_) rfl rfl (by kernel_rfl) (by rfl) ?_ ?_
  rotate_left 2
  · go_simp <;> first | (constructor <;> with_reducible rfl) | with_reducible rfl
  (with_reducible refine (sum_any (fun b => b = w.heap.size) (· < w.heap.size) _ (.slice A 0 c) (be4 0) [] _ ?_ ?_).mono ?_)
  · exact hrd4
  · exact hv1
  rintro e w2 ⟨rfl, rfl⟩
  refine ⟨_, rfl, keepAnd ?_ (fun hNew => ?_)⟩
  · trivial
  clear hHeld
  have hHeld := hNew
  clear hNew
  simp only [Act.put, List.setIfInBounds_toArray, List.set_cons_zero, List.set_cons_succ]
  refine heldCall 6 (some 36) (f := ?_) (args := ?_) rfl rfl (by kernel_rfl) (by rfl) ?_ ?_
  rotate_left 2
  · go_simp <;> first | (constructor <;> with_reducible rfl) | with_reducible rfl
  (with_reducible refine (put4_any w.heap.size 4 _ _ _ L1 _ ?_ ?_ ?_).mono ?_)
  · exact hK1
  · rw [HL1.out]; omega
  · omega
  rintro e w2 ⟨u2, rfl, hK2, hG2⟩
  refine ⟨_, rfl, keepAnd ?_ (fun hNew => ?_)⟩
  · trivial
  clear hHeld
  have hHeld := hNew
  clear hNew
  simp only [Act.put, List.setIfInBounds_toArray, List.set_cons_zero, List.set_cons_succ]
  refine wpAnyH_done (by kernel_rfl) ?_ _
  refine NoPanic.normal ?_
  have hl2 : (putN L1 4 (crcSum (be4 0) []) 4).length = 8 := by rw [putN_length (by rw [HL1.out]; omega) (by omega)]; exact HL1.out
  have ht8 : putN L1 4 (crcSum (be4 0) []) 4 = be4 0 ++ be4 (crcSum (be4 0) []) := by
    have h4 : (be4 (crcSum (be4 0) [])).take 4 = be4 (crcSum (be4 0) []) := List.take_of_length_le (by rw [be4_length]; omega)
    have ht := HT.out
    rw [List.drop_zero] at ht
    unfold putN
    rw [h4, ht, show L1.drop (4 + 4) = [] from List.drop_eq_nil_of_le (by rw [HL1.out]; omega), List.append_nil]
  rw [ht8] at hK2
  have hB2 : Below w.heap.size w w2 := hB1.drew.trans ((Below.refl _ _).grown hG2 (by have := hB1.size; exact this) (fun k hk => by cases hk; exact Nat.le_refl _))
  have HK2 := Lib.hid hK2
  clear hl2 ht8 hK2 hK1 hG1 hG2 hHeld
  go_wp2_with (with_reducible refine wpList_copy_nothing rfl (.tmp 38) (.tmp 39) 29 29 rfl 5 Tryz.underlying29 infoB1 _ _ _ _ _ _ rfl rfl (by simp) ?_)
  go_wp2_with fail
  go_ret2
  refine ⟨_, rfl, ?_, hB2⟩
  have hlen : (frm []).length = 8 := rfl
  unfold OwnB
  rw [hlen]
  have h3 := HK2.out
  unfold BlkB at h3
  refine ⟨by rw [bv_length, hlen], .inr ⟨w.heap.size, 8, _, rfl, Nat.le_refl _, h3, Nat.le_refl _, by unfold maxLen; omega, by simp [bv_length, be4_length], ?_⟩⟩
  simp [frm, List.take_of_length_le, bv_length, be4_length]
theorem frAppend_any (v : Value) (l : List UInt8) (w : World) (hv : RdB w (· < w.heap.size) v l) (hl : l.length ≤ 1048576) :
    Calls Tryz.prog 66 #[.slice none 0 0, v] w (New2 w (frm l)) := by
  by_cases hne : l = []
  · subst hne; exact frAppend_nil v w hv
  · exact frAppend_ne v l w hv hl hne
set_option maxHeartbeats 1000000 in
theorem frAppend_long (u v : Value) (l : List UInt8) (F : Nat → Prop) (w : World) (hv : RdB w F v l) (hl : ¬ l.length ≤ 1048576) :
    Calls Tryz.prog 66 #[u, v] w fun e w' => e = .returned (.tuple #[.slice none 0 0, .int .i64 5]) ∧ w = w' := by
  obtain ⟨A, c, rfl, hc1, hc2, hc3⟩ := hv.open_
  have q1 : (1048576 : Int) < (l.length : Int) := by omega
  go_enter Tryz.func66, Tryz.ntmps66
  go_wp2_with fail
  go_ret2
  exact ⟨rfl, rfl⟩
end

section
set_option maxRecDepth 100000
open Go.RowKit Go.Lib Go.IntWalk

/-- what Next reads -/
def nextF (l : List UInt8) (k : Int) : List UInt8 × Int × Int :=
  if k < 0 ∨ (l.length : Int) < k then ([], 0, 6)
  else if l.length < k.toNat + 8 then ([], 0, 2)
  else if 1048576 < num4L l k.toNat then ([], 0, 5)
  else if l.length < k.toNat + 8 + num4L l k.toNat then ([], 0, 2)
  else if num4L l (k.toNat + 4) ≠ crcSum ((l.drop k.toNat).take 4) ((l.drop (k.toNat + 8)).take (num4L l k.toNat)) then ([], 0, 4)
  else ((l.drop (k.toNat + 8)).take (num4L l k.toNat), k + 8 + (num4L l k.toNat : Nat), 0)
def Fr3 (r : List UInt8 × Int × Int) (w0 : World) (e : Ending) (w : World) : Prop := ∃ v, e = .returned (.tuple #[v, .int .i64 r.2.1, .int .i64 r.2.2]) ∧ OwnB w w0.heap.size v r.1 ∧ Below w0.heap.size w0 w

set_option maxHeartbeats 1000000 in
theorem next_out (v : Value) (l : List UInt8) (k : Int) (F : Nat → Prop) (w : World) (hv : RdB w F v l) (h : k < 0 ∨ (l.length : Int) < k) :
    Calls Tryz.prog 36 #[v, .int .i64 k] w (Fr3 ([], 0, 6) w) := by
  obtain ⟨A, c, rfl, hc1, hc2, hc3⟩ := hv.open_
  rcases h with h | h
  · go_enter Tryz.func36, Tryz.ntmps36
    go_wp2_with fail
    go_ret3
    exact ⟨_, rfl, OwnB.nil _ _, Below.refl _ _⟩
  · have h' : ¬ k < 0 := by omega
    go_enter Tryz.func36, Tryz.ntmps36
    go_wp2_with fail
    go_ret3
    exact ⟨_, rfl, OwnB.nil _ _, Below.refl _ _⟩

set_option maxHeartbeats 1000000 in
theorem next_short (v : Value) (l : List UInt8) (k : Nat) (F : Nat → Prop) (w : World) (hv : RdB w F v l) (hk : k ≤ l.length) (h : l.length < k + 8) :
    Calls Tryz.prog 36 #[v, .int .i64 (k : Int)] w (Fr3 ([], 0, 2) w) := by
  obtain ⟨A, c, rfl, hc1, hc2, hc3⟩ := hv.open_
  unfold maxLen at hc2
  have hsl := run_slice_lo (P := Tryz.prog) Tryz.underlying29 (info_parts infoB).choose_spec.1 (info_parts infoB).choose_spec.2.2.1 A l.length c k hk
  have q0 : ¬ (k : Int) < 0 := by omega
  have q1 : ¬ (l.length : Int) < (k : Int) := by omega
  have q2 : ((l.length - k : Nat) : Int) < 8 := by omega
  generalize cutA A c k 1 = B at *
  go_enter Tryz.func36, Tryz.ntmps36
  go_wp2_with fail
  all_goals
    go_ret3
    exact ⟨_, rfl, OwnB.nil _ _, Below.refl _ _⟩

theorem bytes_at {w : World} {F : Nat → Prop} {A : Option Addr} {c : Nat} {l : List UInt8} (h : RdB w F (.slice A l.length c) l) (hp : 0 < l.length) :
    ∃ b off, A = some ⟨b, off, none⟩ ∧ F b ∧ ∀ j, j < l.length → w.cell? ⟨b, off + j, none⟩ = some (.int .u8 ((l.getD j 0).toNat : Int)) := by
  obtain ⟨b, off, rfl, hF, hc⟩ := Rd.plain h hp (by omega)
  refine ⟨b, off, rfl, hF, fun j hj => ?_⟩
  have := hc j _ (bv_get hj)
  rw [this]
  simp [List.getD, hj]
/-- a slice of a slice of bytes, its address written out -/
theorem RdB.sub {w : World} {F : Nat → Prop} {b off c : Nat} {l : List UInt8} (h : RdB w F (.slice (some ⟨b, off, none⟩) l.length c) l) {o k c' : Nat} (h1 : o + k ≤ l.length) (h2 : k ≤ c') (h3 : c' ≤ c) (hp : 0 < l.length) :
    RdB w F (.slice (some ⟨b, off + o, none⟩) k c') ((l.drop o).take k) := by
  have hlen : ((l.drop o).take k).length = k := by rw [List.length_take, List.length_drop]; omega
  obtain ⟨b', off', e, hF, hc⟩ := bytes_at h hp
  simp only [Option.some.injEq, Addr.mk.injEq, and_true] at e
  obtain ⟨rfl, rfl⟩ := e
  obtain ⟨_, _, e, _, hm, _⟩ := h.open_
  simp only [Value.slice.injEq] at e
  obtain ⟨_, _, rfl⟩ := e
  unfold RdB
  rw [hlen]
  refine ⟨by rw [bv_length, hlen, Nat.mul_one], _, c', rfl, h2, by omega, fun h => (Option.some_ne_none _ h).elim, fun hk => ⟨_, rfl, hF, fun j u hu => ?_⟩⟩
  have hj : j < k := by
    rcases Nat.lt_or_ge j k with h' | h'
    · exact h'
    · rw [List.getElem?_eq_none (by rw [bv_length, hlen]; exact h')] at hu; cases hu
  have hadd : (⟨b, off + o, none⟩ : Addr).add j = ⟨b, off + (o + j), none⟩ := by unfold Addr.add; split <;> simp_all [Nat.add_assoc]
  rw [hadd, hc (o + j) (by omega)]
  rw [bv_get (by rw [hlen]; exact hj)] at hu
  rw [← hu]
  have : o + j < l.length := by omega
  simp [List.getD, this]
end

section
set_option maxRecDepth 100000
open Go.RowKit Go.Lib Go.IntWalk

theorem cut_at' {b off c k : Nat} (h : ¬ c = k) : cutA (some ⟨b, off, none⟩) c k 1 = some ⟨b, off + k, none⟩ := by
  unfold cutA Addr.add
  rw [if_neg h]
  by_cases hk : k = 0 <;> simp [hk]
theorem sl_lo (b off n c k : Nat) (h1 : k ≤ n) (h2 : ¬ c = k) (w : World) : (Instr.slice 29 (.slice (some ⟨b, off, none⟩) n c) (some (.int .i64 (k : Int))) none none).run Tryz.prog w = .ok (.slice (some ⟨b, off + k, none⟩) (n - k) (c - k)) w := by
  obtain ⟨i0, hi, hz0, hz1, hz2⟩ := info_parts infoB
  rw [run_slice_lo (P := Tryz.prog) Tryz.underlying29 hi hz1 _ n c k h1, cut_at' h2]
theorem sl_hi (b off n c k : Nat) (h1 : k ≤ c) (w : World) : (Instr.slice 29 (.slice (some ⟨b, off, none⟩) n c) none (some (.int .i64 (k : Int))) none).run Tryz.prog w = .ok (.slice (some ⟨b, off, none⟩) k c) w := by
  obtain ⟨i0, hi, hz0, hz1, hz2⟩ := info_parts infoB
  exact run_slice_hi (P := Tryz.prog) Tryz.underlying29 hi _ n c k h1 w
theorem sl_lohi (b off n c k j : Nat) (h1 : k ≤ j) (h2 : j ≤ c) (w : World) : (Instr.slice 29 (.slice (some ⟨b, off, none⟩) n c) (some (.int .i64 (k : Int))) (some (.int .i64 (j : Int))) none).run Tryz.prog w = .ok (.slice (cutA (some ⟨b, off, none⟩) c k 1) (j - k) (c - k)) w := by
  obtain ⟨i0, hi, hz0, hz1, hz2⟩ := info_parts infoB
  exact run_slice_lohi (P := Tryz.prog) Tryz.underlying29 hi hz1 _ n c k j h1 h2 w
theorem rd_empty (w : World) (F : Nat → Prop) (x : Addr) (c : Nat) (hc : c ≤ maxLen) : RdB w F (.slice (some x) 0 c) [] :=
  ⟨rfl, _, c, rfl, Nat.zero_le _, hc, fun h => (Option.some_ne_none _ h).elim, fun h => absurd h (by simp)⟩
theorem rd_lohi {w : World} {F : Nat → Prop} {b off n c : Nat} {l : List UInt8} (h : RdB w F (.slice (some ⟨b, off, none⟩) l.length c) l) (h1 : 8 + n ≤ l.length) (h2 : l.length ≤ c) (h3 : c ≤ maxLen) :
    ∃ x, cutA (some ⟨b, off, none⟩) c 8 1 = some x ∧ RdB w F (.slice (some x) n (c - 8)) ((l.drop 8).take n) := by
  by_cases hc : c = 8
  · have hn : n = 0 := by omega
    subst hn
    refine ⟨⟨b, off, none⟩, by unfold cutA; rw [if_pos hc], ?_⟩
    rw [List.take_zero]
    exact rd_empty w F _ _ (by omega)
  · refine ⟨⟨b, off + 8, none⟩, cut_at' hc, ?_⟩
    exact h.sub (o := 8) (k := n) h1 (by omega) (by omega) (by omega)

set_option maxRecDepth 100000 in
set_option maxHeartbeats 1000000 in
theorem next_long (b off c k n : Nat) (l : List UInt8) (w : World) (hv : RdB w (· < w.heap.size) (.slice (some ⟨b, off, none⟩) l.length c) l) (hlc : l.length ≤ c) (hk : k + 8 ≤ l.length) (hn : num4L l k = n) (h : 1048576 < n) :
    Calls Tryz.prog 36 #[.slice (some ⟨b, off, none⟩) l.length c, .int .i64 (k : Int)] w (Fr3 ([], 0, 5) w) := by
  have hm := num4_lt (l.getD k 0) (l.getD (k + 1) 0) (l.getD (k + 2) 0) (l.getD (k + 3) 0)
  obtain ⟨b', off', e, hF, hcell⟩ := bytes_at hv (by omega)
  simp only [Option.some.injEq, Addr.mk.injEq, and_true] at e
  obtain ⟨rfl, rfl⟩ := e
  have hG := Lib.hid (fun W (hW : Below w.heap.size w W) => get4_any b (off + k) (l.length - k) (c - k) (l.getD k 0) (l.getD (k + 1) 0) (l.getD (k + 2) 0) (l.getD (k + 3) 0) W (by omega)
    ((hW.cell (p := ⟨b, off + k, none⟩) hF).trans (hcell k (by omega))) ((hW.cell (p := ⟨b, off + k + 1, none⟩) hF).trans (hcell (k + 1) (by omega))) ((hW.cell (p := ⟨b, off + k + 2, none⟩) hF).trans (hcell (k + 2) (by omega))) ((hW.cell (p := ⟨b, off + k + 3, none⟩) hF).trans (hcell (k + 3) (by omega))))
  rw [show num4 (l.getD k 0) (l.getD (k + 1) 0) (l.getD (k + 2) 0) (l.getD (k + 3) 0) = n from hn] at hG hm
  have hsl := sl_lo b off l.length c k (by omega) (by omega)
  have q0 : ¬ (k : Int) < 0 := by omega
  have q1 : ¬ (l.length : Int) < (k : Int) := by omega
  have q2 : ¬ ((l.length - k : Nat) : Int) < 8 := by omega
  have q3 : (1048576 : Int) < (n : Int) := by omega
  go_enter Tryz.func36, Tryz.ntmps36
  go_wp2_with fail
  (with_reducible refine (hG.out _ (Below.refl _ _)).mono ?_)
  rintro e w1 ⟨rfl, hb1⟩
  go_wp2_with fail
  all_goals
    go_ret3
    exact ⟨_, rfl, OwnB.nil _ _, hb1⟩

set_option maxRecDepth 100000 in
set_option maxHeartbeats 1000000 in
theorem next_cut (b off c k n : Nat) (l : List UInt8) (w : World) (hv : RdB w (· < w.heap.size) (.slice (some ⟨b, off, none⟩) l.length c) l) (hlc : l.length ≤ c) (hk : k + 8 ≤ l.length) (hn : num4L l k = n) (h : ¬ 1048576 < n) (h2 : l.length < k + 8 + n) :
    Calls Tryz.prog 36 #[.slice (some ⟨b, off, none⟩) l.length c, .int .i64 (k : Int)] w (Fr3 ([], 0, 2) w) := by
  have hm := num4_lt (l.getD k 0) (l.getD (k + 1) 0) (l.getD (k + 2) 0) (l.getD (k + 3) 0)
  obtain ⟨b', off', e, hF, hcell⟩ := bytes_at hv (by omega)
  simp only [Option.some.injEq, Addr.mk.injEq, and_true] at e
  obtain ⟨rfl, rfl⟩ := e
  have hG := Lib.hid (fun W (hW : Below w.heap.size w W) => get4_any b (off + k) (l.length - k) (c - k) (l.getD k 0) (l.getD (k + 1) 0) (l.getD (k + 2) 0) (l.getD (k + 3) 0) W (by omega)
    ((hW.cell (p := ⟨b, off + k, none⟩) hF).trans (hcell k (by omega))) ((hW.cell (p := ⟨b, off + k + 1, none⟩) hF).trans (hcell (k + 1) (by omega))) ((hW.cell (p := ⟨b, off + k + 2, none⟩) hF).trans (hcell (k + 2) (by omega))) ((hW.cell (p := ⟨b, off + k + 3, none⟩) hF).trans (hcell (k + 3) (by omega))))
  rw [show num4 (l.getD k 0) (l.getD (k + 1) 0) (l.getD (k + 2) 0) (l.getD (k + 3) 0) = n from hn] at hG hm
  have hsl := sl_lo b off l.length c k (by omega) (by omega)
  have q0 : ¬ (k : Int) < 0 := by omega
  have q1 : ¬ (l.length : Int) < (k : Int) := by omega
  have q2 : ¬ ((l.length - k : Nat) : Int) < 8 := by omega
  have q3 : ¬ (1048576 : Int) < (n : Int) := by omega
  have q4 : ((l.length - k : Nat) : Int) - 8 < (n : Int) := by omega
  go_enter Tryz.func36, Tryz.ntmps36
  go_wp2_with fail
  (with_reducible refine (hG.out _ (Below.refl _ _)).mono ?_)
  rintro e w1 ⟨rfl, hb1⟩
  go_wp2_with fail
  all_goals
    go_ret3
    exact ⟨_, rfl, OwnB.nil _ _, hb1⟩

set_option maxRecDepth 100000 in
set_option maxHeartbeats 2000000 in
theorem next_bad (b off c k n : Nat) (l : List UInt8) (w : World) (hv : RdB w (· < w.heap.size) (.slice (some ⟨b, off, none⟩) l.length c) l) (hlc : l.length ≤ c) (hk : k + 8 ≤ l.length) (hn : num4L l k = n) (s4 cs : Nat) (hs : num4L l (k + 4) = s4) (hc : crcSum ((l.drop k).take 4) ((l.drop (k + 8)).take n) = cs) (h : ¬ 1048576 < n) (h2 : ¬ l.length < k + 8 + n) (hcm : c ≤ maxLen) (h8 : ¬ c - k = 8) (hne : ¬ s4 = cs) :
    Calls Tryz.prog 36 #[.slice (some ⟨b, off, none⟩) l.length c, .int .i64 (k : Int)] w (Fr3 ([], 0, 4) w) := by
  have hm := num4_lt (l.getD k 0) (l.getD (k + 1) 0) (l.getD (k + 2) 0) (l.getD (k + 3) 0)
  obtain ⟨b', off', e, hF, hcell⟩ := bytes_at hv (by omega)
  simp only [Option.some.injEq, Addr.mk.injEq, and_true] at e
  obtain ⟨rfl, rfl⟩ := e
  have hG := Lib.hid (fun W (hW : Below w.heap.size w W) => get4_any b (off + k) (l.length - k) (c - k) (l.getD k 0) (l.getD (k + 1) 0) (l.getD (k + 2) 0) (l.getD (k + 3) 0) W (by omega)
    ((hW.cell (p := ⟨b, off + k, none⟩) hF).trans (hcell k (by omega))) ((hW.cell (p := ⟨b, off + k + 1, none⟩) hF).trans (hcell (k + 1) (by omega))) ((hW.cell (p := ⟨b, off + k + 2, none⟩) hF).trans (hcell (k + 2) (by omega))) ((hW.cell (p := ⟨b, off + k + 3, none⟩) hF).trans (hcell (k + 3) (by omega))))
  rw [show num4 (l.getD k 0) (l.getD (k + 1) 0) (l.getD (k + 2) 0) (l.getD (k + 3) 0) = n from hn] at hG hm
  have hsl := sl_lo b off l.length c k (by omega) (by omega)
  have q0 : ¬ (k : Int) < 0 := by omega
  have q1 : ¬ (l.length : Int) < (k : Int) := by omega
  have q2 : ¬ ((l.length - k : Nat) : Int) < 8 := by omega
  have hfl : (l.drop k).length = l.length - k := List.length_drop
  have hvf : RdB w (· < w.heap.size) (.slice (some ⟨b, off + k, none⟩) (l.drop k).length (c - k)) (l.drop k) := by
    have h := hv.sub (o := k) (k := l.length - k) (c' := c - k) (by omega) (by omega) (by omega) (by omega)
    rw [List.take_of_length_le (by rw [List.length_drop]; exact Nat.le_refl _)] at h
    rw [hfl]; exact h
  have hr4 : RdB w (· < w.heap.size) (.slice (some ⟨b, off + k, none⟩) 4 (c - k)) ((l.drop k).take 4) := hvf.sub (o := 0) (k := 4) (c' := c - k) (by omega) (by omega) (by omega) (by omega)
  obtain ⟨x, hx, hrn⟩ := rd_lohi (n := n) hvf (by omega) (by omega) (by omega)
  rw [List.drop_drop] at hrn
  have hG2 := Lib.hid (fun W (hW : Below w.heap.size w W) => get4_any b (off + k + 4) (l.length - k - 4) (c - k - 4) (l.getD (k + 4) 0) (l.getD (k + 4 + 1) 0) (l.getD (k + 4 + 2) 0) (l.getD (k + 4 + 3) 0) W (by omega)
    ((hW.cell (p := ⟨b, off + k + 4, none⟩) hF).trans (hcell (k + 4) (by omega))) ((hW.cell (p := ⟨b, off + k + 4 + 1, none⟩) hF).trans (hcell (k + 4 + 1) (by omega))) ((hW.cell (p := ⟨b, off + k + 4 + 2, none⟩) hF).trans (hcell (k + 4 + 2) (by omega))) ((hW.cell (p := ⟨b, off + k + 4 + 3, none⟩) hF).trans (hcell (k + 4 + 3) (by omega))))
  rw [show num4 (l.getD (k + 4) 0) (l.getD (k + 4 + 1) 0) (l.getD (k + 4 + 2) 0) (l.getD (k + 4 + 3) 0) = s4 from hs] at hG2
  have hs4 := sl_lo b (off + k) (l.length - k) (c - k) 4 (by omega) (by omega)
  rw [show ((4 : Nat) : Int) = 4 from rfl] at hs4
  have hh4 := sl_hi b (off + k) (l.length - k) (c - k) 4 (by omega)
  rw [show ((4 : Nat) : Int) = 4 from rfl] at hh4
  have hlh := sl_lohi b (off + k) (l.length - k) (c - k) 8 (8 + n) (by omega) (by omega)
  rw [hx, show ((8 : Nat) : Int) = 8 from rfl, show (((8 + n : Nat)) : Int) = 8 + (n : Int) by omega, Nat.add_sub_cancel_left] at hlh
  have q3 : ¬ (1048576 : Int) < (n : Int) := by omega
  have q7 : ((l.length - k : Nat) : Int) ≤ 9223372036854775807 := by unfold maxLen at hcm; omega
  have q4 : ¬ ((l.length - k : Nat) : Int) - 8 < (n : Int) := by omega
  have hw8 : IntKind.i64.wrap (8 + (n : Int)) = 8 + (n : Int) := IntWalk.i64_in _ (by omega)
  have q8 : (8 : Int) + (n : Int) ≤ ((c - k : Nat) : Int) := by omega
  have q9 : (0 : Int) ≤ 8 + (n : Int) := by omega
  have q10 : ((8 : Int) + (n : Int)).toNat - 8 = n := by omega
  have q11 : (8 : Int) ≤ max (8 + (n : Int)) 0 := by omega
  obtain rfl : x = ⟨b, off + k + 8, none⟩ := by rw [cut_at' h8] at hx; exact (Option.some.inj hx).symm
  have hsum := Lib.hid (fun W (hW : Below w.heap.size w W) => sum_any (· < w.heap.size) (· < w.heap.size) _ _ _ _ W (Rd.below hr4 hW) (Rd.below hrn hW))
  rw [hc] at hsum
  have q5 : ((s4 : Int) != (cs : Int)) = true := by rw [bne_iff_ne]; omega
  have q6 : ¬ s4 = cs := hne
  clear hx hs hc hn
  go_enter Tryz.func36, Tryz.ntmps36
  go_wp2_with fail
  (with_reducible refine (hG.out _ (Below.refl _ _)).mono ?_)
  rintro e w1 ⟨rfl, hb1⟩
  go_wp2_with fail
  refine wp_region_noPanic ?_
  refine wp_region_held_drew (S := (fun _ => True)) (by kernel_rfl) ?_ (fun hHeld => ?_)
  · trivial
  refine heldTake 0 (some 37) (v := ?_) rfl rfl (by kernel_rfl) (by kernel_rfl) (by kernel_rfl) (by rfl) hHeld (fun _ _ _ h => h) ?_ ?_
  rotate_left
  · intro w' hSw; (try dsimp only at hSw); go_simp <;> with_reducible rfl
  simp only [Act.put, List.setIfInBounds_toArray, List.set_cons_zero, List.set_cons_succ]
  refine heldTake 1 (some 38) (v := ?_) rfl rfl (by kernel_rfl) (by kernel_rfl) (by kernel_rfl) (by rfl) hHeld (fun _ _ _ h => h) ?_ ?_
  rotate_left
  · intro w' hSw; (try dsimp only at hSw); go_simp <;> with_reducible rfl
  simp only [Act.put, List.setIfInBounds_toArray, List.set_cons_zero, List.set_cons_succ]
  refine heldTake 3 (some 40) (v := ?_) rfl rfl (by kernel_rfl) (by kernel_rfl) (by kernel_rfl) (by rfl) hHeld (fun _ _ _ h => h) ?_ ?_
  rotate_left
  · intro w' hSw; (try dsimp only at hSw); go_simp <;> with_reducible rfl
  simp only [Act.put, List.setIfInBounds_toArray, List.set_cons_zero, List.set_cons_succ]
  refine heldTake 4 (some 41) (v := ?_) rfl rfl (by kernel_rfl) (by kernel_rfl) (by kernel_rfl) (by rfl) hHeld (fun _ _ _ h => h) ?_ ?_
  rotate_left
  · intro w' hSw; (try dsimp only at hSw); go_simp <;> with_reducible rfl
  simp only [Act.put, List.setIfInBounds_toArray, List.set_cons_zero, List.set_cons_succ]
  refine heldTake 5 (some 42) (v := ?_) rfl rfl (by kernel_rfl) (by kernel_rfl) (by kernel_rfl) (by rfl) hHeld (fun _ _ _ h => h) ?_ ?_
  rotate_left
  · intro w' hSw; (try dsimp only at hSw); go_simp <;> with_reducible rfl
  simp only [Act.put, List.setIfInBounds_toArray, List.set_cons_zero, List.set_cons_succ]
  refine heldTake 6 (some 43) (v := ?_) rfl rfl (by kernel_rfl) (by kernel_rfl) (by kernel_rfl) (by rfl) hHeld (fun _ _ _ h => h) ?_ ?_
  rotate_left
  · intro w' hSw; (try dsimp only at hSw); go_simp <;> with_reducible rfl
  simp only [Act.put, List.setIfInBounds_toArray, List.set_cons_zero, List.set_cons_succ]
  refine heldTake 7 (some 44) (v := ?_) rfl rfl (by kernel_rfl) (by kernel_rfl) (by kernel_rfl) (by rfl) hHeld (fun _ _ _ h => h) ?_ ?_
  rotate_left
  · intro w' hSw; (try dsimp only at hSw); go_simp <;> with_reducible rfl
  simp only [Act.put, List.setIfInBounds_toArray, List.set_cons_zero, List.set_cons_succ]
  refine heldTake 8 (some 45) (v := ?_) rfl rfl (by kernel_rfl) (by kernel_rfl) (by kernel_rfl) (by rfl) hHeld (fun _ _ _ h => h) ?_ ?_
  rotate_left
  · intro w' hSw; (try dsimp only at hSw); go_simp <;> with_reducible rfl
  simp only [Act.put, List.setIfInBounds_toArray, List.set_cons_zero, List.set_cons_succ]
  refine heldCall 2 (some 39) (f := ?_) (args := ?_) rfl rfl (by kernel_rfl) (by rfl) ?_ ?_
  rotate_left 2
  · go_simp <;> first | (constructor <;> with_reducible rfl) | with_reducible rfl
  (with_reducible refine (hG2.out _ hb1.drew).mono ?_)
  rintro e w2 ⟨rfl, hb2⟩
  have hB2 := hb1.drew.trans (hb2.mono hb1.drew.size)
  refine ⟨_, rfl, keepAnd ?_ (fun hNew => ?_)⟩
  · trivial
  clear hHeld
  have hHeld := hNew
  clear hNew
  simp only [Act.put, List.setIfInBounds_toArray, List.set_cons_zero, List.set_cons_succ]
  refine heldCall 9 (some 46) (f := ?_) (args := ?_) rfl rfl (by kernel_rfl) (by rfl) ?_ ?_
  rotate_left 2
  · go_simp <;> first | (constructor <;> with_reducible rfl) | with_reducible rfl
  (with_reducible refine (hsum.out _ hB2).mono ?_)
  rintro e w3 ⟨rfl, rfl⟩
  refine ⟨_, rfl, keepAnd ?_ (fun hNew => ?_)⟩
  · trivial
  clear hHeld
  have hHeld := hNew
  clear hNew
  simp only [Act.put, List.setIfInBounds_toArray, List.set_cons_zero, List.set_cons_succ]
  refine heldTake 10 (some 47) (v := ?_) rfl rfl (by kernel_rfl) (by kernel_rfl) (by kernel_rfl) (by rfl) hHeld (fun _ _ _ h => h) ?_ ?_
  rotate_left
  · intro w' hSw; (try dsimp only at hSw); go_simp <;> with_reducible rfl
  simp only [Act.put, List.setIfInBounds_toArray, List.set_cons_zero, List.set_cons_succ]
  refine heldTake 11 (some 36) (v := ?_) rfl rfl (by kernel_rfl) (by kernel_rfl) (by kernel_rfl) (by rfl) hHeld (fun _ _ _ h => h) ?_ ?_
  rotate_left
  · intro w' hSw; (try dsimp only at hSw); go_simp <;> with_reducible rfl
  simp only [Act.put, List.setIfInBounds_toArray, List.set_cons_zero, List.set_cons_succ]
  refine wpAnyH_done (by kernel_rfl) ?_ _
  refine NoPanic.normal ?_
  go_wp2_with fail
  all_goals
    go_ret3
    exact ⟨_, rfl, OwnB.nil _ _, hB2⟩

set_option maxRecDepth 100000 in
set_option maxHeartbeats 2000000 in
theorem next_ok (b off c k n : Nat) (l : List UInt8) (w : World) (hv : RdB w (· < w.heap.size) (.slice (some ⟨b, off, none⟩) l.length c) l) (hlc : l.length ≤ c) (hk : k + 8 ≤ l.length) (hn : num4L l k = n) (s4 cs : Nat) (hs : num4L l (k + 4) = s4) (hc : crcSum ((l.drop k).take 4) ((l.drop (k + 8)).take n) = cs) (h : ¬ 1048576 < n) (h2 : ¬ l.length < k + 8 + n) (hcm : c ≤ maxLen) (h8 : ¬ c - k = 8) (hne : s4 = cs) (hpos : 0 < n) :
    Calls Tryz.prog 36 #[.slice (some ⟨b, off, none⟩) l.length c, .int .i64 (k : Int)] w (Fr3 ((l.drop (k + 8)).take n, (k : Int) + 8 + (n : Int), 0) w) := by
  have hm := num4_lt (l.getD k 0) (l.getD (k + 1) 0) (l.getD (k + 2) 0) (l.getD (k + 3) 0)
  obtain ⟨b', off', e, hF, hcell⟩ := bytes_at hv (by omega)
  simp only [Option.some.injEq, Addr.mk.injEq, and_true] at e
  obtain ⟨rfl, rfl⟩ := e
  have hG := Lib.hid (fun W (hW : Below w.heap.size w W) => get4_any b (off + k) (l.length - k) (c - k) (l.getD k 0) (l.getD (k + 1) 0) (l.getD (k + 2) 0) (l.getD (k + 3) 0) W (by omega)
    ((hW.cell (p := ⟨b, off + k, none⟩) hF).trans (hcell k (by omega))) ((hW.cell (p := ⟨b, off + k + 1, none⟩) hF).trans (hcell (k + 1) (by omega))) ((hW.cell (p := ⟨b, off + k + 2, none⟩) hF).trans (hcell (k + 2) (by omega))) ((hW.cell (p := ⟨b, off + k + 3, none⟩) hF).trans (hcell (k + 3) (by omega))))
  rw [show num4 (l.getD k 0) (l.getD (k + 1) 0) (l.getD (k + 2) 0) (l.getD (k + 3) 0) = n from hn] at hG hm
  have hsl := sl_lo b off l.length c k (by omega) (by omega)
  have q0 : ¬ (k : Int) < 0 := by omega
  have q1 : ¬ (l.length : Int) < (k : Int) := by omega
  have q2 : ¬ ((l.length - k : Nat) : Int) < 8 := by omega
  have hfl : (l.drop k).length = l.length - k := List.length_drop
  have hvf : RdB w (· < w.heap.size) (.slice (some ⟨b, off + k, none⟩) (l.drop k).length (c - k)) (l.drop k) := by
    have h := hv.sub (o := k) (k := l.length - k) (c' := c - k) (by omega) (by omega) (by omega) (by omega)
    rw [List.take_of_length_le (by rw [List.length_drop]; exact Nat.le_refl _)] at h
    rw [hfl]; exact h
  have hr4 : RdB w (· < w.heap.size) (.slice (some ⟨b, off + k, none⟩) 4 (c - k)) ((l.drop k).take 4) := hvf.sub (o := 0) (k := 4) (c' := c - k) (by omega) (by omega) (by omega) (by omega)
  obtain ⟨x, hx, hrn⟩ := rd_lohi (n := n) hvf (by omega) (by omega) (by omega)
  rw [List.drop_drop] at hrn
  have hG2 := Lib.hid (fun W (hW : Below w.heap.size w W) => get4_any b (off + k + 4) (l.length - k - 4) (c - k - 4) (l.getD (k + 4) 0) (l.getD (k + 4 + 1) 0) (l.getD (k + 4 + 2) 0) (l.getD (k + 4 + 3) 0) W (by omega)
    ((hW.cell (p := ⟨b, off + k + 4, none⟩) hF).trans (hcell (k + 4) (by omega))) ((hW.cell (p := ⟨b, off + k + 4 + 1, none⟩) hF).trans (hcell (k + 4 + 1) (by omega))) ((hW.cell (p := ⟨b, off + k + 4 + 2, none⟩) hF).trans (hcell (k + 4 + 2) (by omega))) ((hW.cell (p := ⟨b, off + k + 4 + 3, none⟩) hF).trans (hcell (k + 4 + 3) (by omega))))
  rw [show num4 (l.getD (k + 4) 0) (l.getD (k + 4 + 1) 0) (l.getD (k + 4 + 2) 0) (l.getD (k + 4 + 3) 0) = s4 from hs] at hG2
  have hs4 := sl_lo b (off + k) (l.length - k) (c - k) 4 (by omega) (by omega)
  rw [show ((4 : Nat) : Int) = 4 from rfl] at hs4
  have hh4 := sl_hi b (off + k) (l.length - k) (c - k) 4 (by omega)
  rw [show ((4 : Nat) : Int) = 4 from rfl] at hh4
  have hlh := sl_lohi b (off + k) (l.length - k) (c - k) 8 (8 + n) (by omega) (by omega)
  rw [hx, show ((8 : Nat) : Int) = 8 from rfl, show (((8 + n : Nat)) : Int) = 8 + (n : Int) by omega, Nat.add_sub_cancel_left] at hlh
  have q3 : ¬ (1048576 : Int) < (n : Int) := by omega
  have q7 : ((l.length - k : Nat) : Int) ≤ 9223372036854775807 := by unfold maxLen at hcm; omega
  have q4 : ¬ ((l.length - k : Nat) : Int) - 8 < (n : Int) := by omega
  have hw8 : IntKind.i64.wrap (8 + (n : Int)) = 8 + (n : Int) := IntWalk.i64_in _ (by omega)
  have q8 : (8 : Int) + (n : Int) ≤ ((c - k : Nat) : Int) := by omega
  have q9 : (0 : Int) ≤ 8 + (n : Int) := by omega
  have q10 : ((8 : Int) + (n : Int)).toNat - 8 = n := by omega
  have q11 : (8 : Int) ≤ max (8 + (n : Int)) 0 := by omega
  obtain rfl : x = ⟨b, off + k + 8, none⟩ := by rw [cut_at' h8] at hx; exact (Option.some.inj hx).symm
  have hsum := Lib.hid (fun W (hW : Below w.heap.size w W) => sum_any (· < w.heap.size) (· < w.heap.size) _ _ _ _ W (Rd.below hr4 hW) (Rd.below hrn hW))
  rw [hc] at hsum
  subst hne
  have q12 : (k : Int) + 8 + (n : Int) ≤ 9223372036854775807 := by unfold maxLen at hcm; omega
  have hs8 := sl_lo b (off + k) (l.length - k) (c - k) 8 (by omega) (by omega)
  rw [show ((8 : Nat) : Int) = 8 from rfl] at hs8
  have hbl : ((l.drop (k + 8)).take n).length = n := by rw [List.length_take, List.length_drop]; omega
  generalize (l.drop (k + 8)).take n = body at *
  have HBL := Lib.hid hbl
  have hmk := make_bytes n (by omega)
  have hrl : (List.replicate n (0 : UInt8)).length = n := by simp
  have hrp : splice (bv (List.replicate n (0 : UInt8))) 0 (bv body) = bv body := by
    unfold splice
    rw [List.take_zero, List.nil_append, List.drop_eq_nil_of_le (by rw [bv_length, bv_length, hrl]; omega), List.append_nil]
  generalize List.replicate n (0 : UInt8) = Z at *
  have HRP := Lib.hid hrp
  have HRL := Lib.hid hrl
  clear hx hs hc hn hrp hrl hbl
  go_enter Tryz.func36, Tryz.ntmps36
  go_wp2_with fail
  (with_reducible refine (hG.out _ (Below.refl _ _)).mono ?_)
  rintro e w1 ⟨rfl, hb1⟩
  go_wp2_with fail
  refine wp_region_noPanic ?_
  refine wp_region_held_drew (S := (fun _ => True)) (by kernel_rfl) ?_ (fun hHeld => ?_)
  · trivial
  refine heldTake 0 (some 37) (v := ?_) rfl rfl (by kernel_rfl) (by kernel_rfl) (by kernel_rfl) (by rfl) hHeld (fun _ _ _ h => h) ?_ ?_
  rotate_left
  · intro w' hSw; (try dsimp only at hSw); go_simp <;> with_reducible rfl
  simp only [Act.put, List.setIfInBounds_toArray, List.set_cons_zero, List.set_cons_succ]
  refine heldTake 1 (some 38) (v := ?_) rfl rfl (by kernel_rfl) (by kernel_rfl) (by kernel_rfl) (by rfl) hHeld (fun _ _ _ h => h) ?_ ?_
  rotate_left
  · intro w' hSw; (try dsimp only at hSw); go_simp <;> with_reducible rfl
  simp only [Act.put, List.setIfInBounds_toArray, List.set_cons_zero, List.set_cons_succ]
  refine heldTake 3 (some 40) (v := ?_) rfl rfl (by kernel_rfl) (by kernel_rfl) (by kernel_rfl) (by rfl) hHeld (fun _ _ _ h => h) ?_ ?_
  rotate_left
  · intro w' hSw; (try dsimp only at hSw); go_simp <;> with_reducible rfl
  simp only [Act.put, List.setIfInBounds_toArray, List.set_cons_zero, List.set_cons_succ]
  refine heldTake 4 (some 41) (v := ?_) rfl rfl (by kernel_rfl) (by kernel_rfl) (by kernel_rfl) (by rfl) hHeld (fun _ _ _ h => h) ?_ ?_
  rotate_left
  · intro w' hSw; (try dsimp only at hSw); go_simp <;> with_reducible rfl
  simp only [Act.put, List.setIfInBounds_toArray, List.set_cons_zero, List.set_cons_succ]
  refine heldTake 5 (some 42) (v := ?_) rfl rfl (by kernel_rfl) (by kernel_rfl) (by kernel_rfl) (by rfl) hHeld (fun _ _ _ h => h) ?_ ?_
  rotate_left
  · intro w' hSw; (try dsimp only at hSw); go_simp <;> with_reducible rfl
  simp only [Act.put, List.setIfInBounds_toArray, List.set_cons_zero, List.set_cons_succ]
  refine heldTake 6 (some 43) (v := ?_) rfl rfl (by kernel_rfl) (by kernel_rfl) (by kernel_rfl) (by rfl) hHeld (fun _ _ _ h => h) ?_ ?_
  rotate_left
  · intro w' hSw; (try dsimp only at hSw); go_simp <;> with_reducible rfl
  simp only [Act.put, List.setIfInBounds_toArray, List.set_cons_zero, List.set_cons_succ]
  refine heldTake 7 (some 44) (v := ?_) rfl rfl (by kernel_rfl) (by kernel_rfl) (by kernel_rfl) (by rfl) hHeld (fun _ _ _ h => h) ?_ ?_
  rotate_left
  · intro w' hSw; (try dsimp only at hSw); go_simp <;> with_reducible rfl
  simp only [Act.put, List.setIfInBounds_toArray, List.set_cons_zero, List.set_cons_succ]
  refine heldTake 8 (some 45) (v := ?_) rfl rfl (by kernel_rfl) (by kernel_rfl) (by kernel_rfl) (by rfl) hHeld (fun _ _ _ h => h) ?_ ?_
  rotate_left
  · intro w' hSw; (try dsimp only at hSw); go_simp <;> with_reducible rfl
  simp only [Act.put, List.setIfInBounds_toArray, List.set_cons_zero, List.set_cons_succ]
  refine heldCall 2 (some 39) (f := ?_) (args := ?_) rfl rfl (by kernel_rfl) (by rfl) ?_ ?_
  rotate_left 2
  · go_simp <;> first | (constructor <;> with_reducible rfl) | with_reducible rfl
  (with_reducible refine (hG2.out _ hb1.drew).mono ?_)
  rintro e w2 ⟨rfl, hb2⟩
  have hB2 := hb1.drew.trans (hb2.mono hb1.drew.size)
  refine ⟨_, rfl, keepAnd ?_ (fun hNew => ?_)⟩
  · trivial
  clear hHeld
  have hHeld := hNew
  clear hNew
  simp only [Act.put, List.setIfInBounds_toArray, List.set_cons_zero, List.set_cons_succ]
  refine heldCall 9 (some 46) (f := ?_) (args := ?_) rfl rfl (by kernel_rfl) (by rfl) ?_ ?_
  rotate_left 2
  · go_simp <;> first | (constructor <;> with_reducible rfl) | with_reducible rfl
  (with_reducible refine (hsum.out _ hB2).mono ?_)
  rintro e w3 ⟨rfl, rfl⟩
  refine ⟨_, rfl, keepAnd ?_ (fun hNew => ?_)⟩
  · trivial
  clear hHeld
  have hHeld := hNew
  clear hNew
  simp only [Act.put, List.setIfInBounds_toArray, List.set_cons_zero, List.set_cons_succ]
  refine heldTake 10 (some 47) (v := ?_) rfl rfl (by kernel_rfl) (by kernel_rfl) (by kernel_rfl) (by rfl) hHeld (fun _ _ _ h => h) ?_ ?_
  rotate_left
  · intro w' hSw; (try dsimp only at hSw); go_simp <;> with_reducible rfl
  simp only [Act.put, List.setIfInBounds_toArray, List.set_cons_zero, List.set_cons_succ]
  refine heldTake 11 (some 36) (v := ?_) rfl rfl (by kernel_rfl) (by kernel_rfl) (by kernel_rfl) (by rfl) hHeld (fun _ _ _ h => h) ?_ ?_
  rotate_left
  · intro w' hSw; (try dsimp only at hSw); go_simp <;> with_reducible rfl
  simp only [Act.put, List.setIfInBounds_toArray, List.set_cons_zero, List.set_cons_succ]
  refine wpAnyH_done (by kernel_rfl) ?_ _
  refine NoPanic.normal ?_
  clear hw8 q8 q9 q10 q11 hs4 hh4 hlh
  have hrn2 := Rd.below hrn hB2
  have x2 : 0 < (bv body).length → ∃ ad, (some ⟨b, off + k + 8, none⟩ : Option Addr) = some ad ∧ ∀ j v, (bv body)[j]? = some v → (w2.alloc (.cells (bv Z).toArray 5)).cell? (ad.add j) = some v := fun _ => by
    have hr' : RdB (w2.alloc (.cells (bv Z).toArray 5)) (· < w.heap.size) (.slice (some ⟨b, off + k + 8, none⟩) body.length (c - k - 8)) body := by rw [HBL.out]; exact Rd.alloc hrn2 hB2.size _
    obtain ⟨ad, e1, _, e2⟩ := Rd.at_ hr' (by rw [HBL.out]; omega)
    exact ⟨ad, e1, e2⟩
  have x1 : (bv body).length = Nat.min (l.length - k - 8) n := by
    rw [bv_length, HBL.out]; exact (Nat.min_eq_right (by omega)).symm
  have x3 : 0 + (bv body).length ≤ (bv Z).length := by rw [bv_length, bv_length, HBL.out, HRL.out]; omega
  have X1 := Lib.hid x1
  have X2 := Lib.hid x2
  have X3 := Lib.hid x3
  have hBa := hB2.alloc hB2.size (.cells (bv Z).toArray 5)
  have hBs := hB2.size
  clear x1 x2 x3 hrn2
  go_wp2_with (refine wpList_copy_splice (by rfl) (.tmp 50) (.tmp 52) 29 29 (by rfl) 5 Tryz.underlying29 infoB1 (some ⟨w2.heap.size, 0, none⟩) (some ⟨b, off + k + 8, none⟩) n n (l.length - k - 8) (c - k - 8) (by rfl) (by rfl) w2.heap.size 0 (bv Z) 5 (heap_alloc_new w2 _) (bv body) X1.out (fun h => ⟨rfl, X2.out h⟩) X3.out (bv_one _) w.heap.size w hBa hBs ?_; intro w4 hK4 hB4)
  go_wp2_with fail
  go_ret3
  refine ⟨_, rfl, ?_, hB4⟩
  have h4 := hK4.out
  rw [HRP.out] at h4
  have hbl := HBL.out
  unfold OwnB
  show w4.ownsRow w.heap.size 5 1 (.slice (some ⟨w2.heap.size, 0, none⟩) n n) body.length (bv body)
  rw [hbl]
  refine ⟨by rw [bv_length, hbl, Nat.mul_one], .inr ⟨w2.heap.size, n, _, rfl, hBs, h4, Nat.le_refl _, by unfold maxLen; omega, by simp [bv_length, hbl], ?_⟩⟩
  simp [List.take_of_length_le, bv_length, hbl]

set_option maxRecDepth 100000 in
set_option maxHeartbeats 2000000 in
theorem next_none (b off c k n : Nat) (l : List UInt8) (w : World) (hv : RdB w (· < w.heap.size) (.slice (some ⟨b, off, none⟩) l.length c) l) (hlc : l.length ≤ c) (hk : k + 8 ≤ l.length) (hn : num4L l k = n) (s4 cs : Nat) (hs : num4L l (k + 4) = s4) (hc : crcSum ((l.drop k).take 4) ((l.drop (k + 8)).take n) = cs) (h : ¬ 1048576 < n) (h2 : ¬ l.length < k + 8 + n) (hcm : c ≤ maxLen) (h8 : ¬ c - k = 8) (hne : s4 = cs) (hz : n = 0) :
    Calls Tryz.prog 36 #[.slice (some ⟨b, off, none⟩) l.length c, .int .i64 (k : Int)] w (Fr3 ((l.drop (k + 8)).take n, (k : Int) + 8 + (n : Int), 0) w) := by
  have hm := num4_lt (l.getD k 0) (l.getD (k + 1) 0) (l.getD (k + 2) 0) (l.getD (k + 3) 0)
  obtain ⟨b', off', e, hF, hcell⟩ := bytes_at hv (by omega)
  simp only [Option.some.injEq, Addr.mk.injEq, and_true] at e
  obtain ⟨rfl, rfl⟩ := e
  have hG := Lib.hid (fun W (hW : Below w.heap.size w W) => get4_any b (off + k) (l.length - k) (c - k) (l.getD k 0) (l.getD (k + 1) 0) (l.getD (k + 2) 0) (l.getD (k + 3) 0) W (by omega)
    ((hW.cell (p := ⟨b, off + k, none⟩) hF).trans (hcell k (by omega))) ((hW.cell (p := ⟨b, off + k + 1, none⟩) hF).trans (hcell (k + 1) (by omega))) ((hW.cell (p := ⟨b, off + k + 2, none⟩) hF).trans (hcell (k + 2) (by omega))) ((hW.cell (p := ⟨b, off + k + 3, none⟩) hF).trans (hcell (k + 3) (by omega))))
  rw [show num4 (l.getD k 0) (l.getD (k + 1) 0) (l.getD (k + 2) 0) (l.getD (k + 3) 0) = n from hn] at hG hm
  have hsl := sl_lo b off l.length c k (by omega) (by omega)
  have q0 : ¬ (k : Int) < 0 := by omega
  have q1 : ¬ (l.length : Int) < (k : Int) := by omega
  have q2 : ¬ ((l.length - k : Nat) : Int) < 8 := by omega
  have hfl : (l.drop k).length = l.length - k := List.length_drop
  have hvf : RdB w (· < w.heap.size) (.slice (some ⟨b, off + k, none⟩) (l.drop k).length (c - k)) (l.drop k) := by
    have h := hv.sub (o := k) (k := l.length - k) (c' := c - k) (by omega) (by omega) (by omega) (by omega)
    rw [List.take_of_length_le (by rw [List.length_drop]; exact Nat.le_refl _)] at h
    rw [hfl]; exact h
  have hr4 : RdB w (· < w.heap.size) (.slice (some ⟨b, off + k, none⟩) 4 (c - k)) ((l.drop k).take 4) := hvf.sub (o := 0) (k := 4) (c' := c - k) (by omega) (by omega) (by omega) (by omega)
  obtain ⟨x, hx, hrn⟩ := rd_lohi (n := n) hvf (by omega) (by omega) (by omega)
  rw [List.drop_drop] at hrn
  have hG2 := Lib.hid (fun W (hW : Below w.heap.size w W) => get4_any b (off + k + 4) (l.length - k - 4) (c - k - 4) (l.getD (k + 4) 0) (l.getD (k + 4 + 1) 0) (l.getD (k + 4 + 2) 0) (l.getD (k + 4 + 3) 0) W (by omega)
    ((hW.cell (p := ⟨b, off + k + 4, none⟩) hF).trans (hcell (k + 4) (by omega))) ((hW.cell (p := ⟨b, off + k + 4 + 1, none⟩) hF).trans (hcell (k + 4 + 1) (by omega))) ((hW.cell (p := ⟨b, off + k + 4 + 2, none⟩) hF).trans (hcell (k + 4 + 2) (by omega))) ((hW.cell (p := ⟨b, off + k + 4 + 3, none⟩) hF).trans (hcell (k + 4 + 3) (by omega))))
  rw [show num4 (l.getD (k + 4) 0) (l.getD (k + 4 + 1) 0) (l.getD (k + 4 + 2) 0) (l.getD (k + 4 + 3) 0) = s4 from hs] at hG2
  have hs4 := sl_lo b (off + k) (l.length - k) (c - k) 4 (by omega) (by omega)
  rw [show ((4 : Nat) : Int) = 4 from rfl] at hs4
  have hh4 := sl_hi b (off + k) (l.length - k) (c - k) 4 (by omega)
  rw [show ((4 : Nat) : Int) = 4 from rfl] at hh4
  have hlh := sl_lohi b (off + k) (l.length - k) (c - k) 8 (8 + n) (by omega) (by omega)
  rw [hx, show ((8 : Nat) : Int) = 8 from rfl, show (((8 + n : Nat)) : Int) = 8 + (n : Int) by omega, Nat.add_sub_cancel_left] at hlh
  have q3 : ¬ (1048576 : Int) < (n : Int) := by omega
  have q7 : ((l.length - k : Nat) : Int) ≤ 9223372036854775807 := by unfold maxLen at hcm; omega
  have q4 : ¬ ((l.length - k : Nat) : Int) - 8 < (n : Int) := by omega
  have hw8 : IntKind.i64.wrap (8 + (n : Int)) = 8 + (n : Int) := IntWalk.i64_in _ (by omega)
  have q8 : (8 : Int) + (n : Int) ≤ ((c - k : Nat) : Int) := by omega
  have q9 : (0 : Int) ≤ 8 + (n : Int) := by omega
  have q10 : ((8 : Int) + (n : Int)).toNat - 8 = n := by omega
  have q11 : (8 : Int) ≤ max (8 + (n : Int)) 0 := by omega
  obtain rfl : x = ⟨b, off + k + 8, none⟩ := by rw [cut_at' h8] at hx; exact (Option.some.inj hx).symm
  have hsum := Lib.hid (fun W (hW : Below w.heap.size w W) => sum_any (· < w.heap.size) (· < w.heap.size) _ _ _ _ W (Rd.below hr4 hW) (Rd.below hrn hW))
  rw [hc] at hsum
  have HZ := Lib.hid hz
  clear hz
  subst hne
  have q12 : (k : Int) + 8 + (n : Int) ≤ 9223372036854775807 := by unfold maxLen at hcm; omega
  have hs8 := sl_lo b (off + k) (l.length - k) (c - k) 8 (by omega) (by omega)
  rw [show ((8 : Nat) : Int) = 8 from rfl] at hs8
  have hbl : ((l.drop (k + 8)).take n).length = n := by rw [List.length_take, List.length_drop]; omega
  generalize (l.drop (k + 8)).take n = body at *
  have HBL := Lib.hid hbl
  have hmk := make_bytes n (by omega)
  have hrl : (List.replicate n (0 : UInt8)).length = n := by simp
  have hrp : splice (bv (List.replicate n (0 : UInt8))) 0 (bv body) = bv body := by
    unfold splice
    rw [List.take_zero, List.nil_append, List.drop_eq_nil_of_le (by rw [bv_length, bv_length, hrl]; omega), List.append_nil]
  generalize List.replicate n (0 : UInt8) = Z at *
  have HRP := Lib.hid hrp
  have HRL := Lib.hid hrl
  clear hx hs hc hn hrp hrl hbl
  go_enter Tryz.func36, Tryz.ntmps36
  go_wp2_with fail
  (with_reducible refine (hG.out _ (Below.refl _ _)).mono ?_)
  rintro e w1 ⟨rfl, hb1⟩
  go_wp2_with fail
  refine wp_region_noPanic ?_
  refine wp_region_held_drew (S := (fun _ => True)) (by kernel_rfl) ?_ (fun hHeld => ?_)
  · trivial
  refine heldTake 0 (some 37) (v := ?_) rfl rfl (by kernel_rfl) (by kernel_rfl) (by kernel_rfl) (by rfl) hHeld (fun _ _ _ h => h) ?_ ?_
  rotate_left
  · intro w' hSw; (try dsimp only at hSw); go_simp <;> with_reducible rfl
  simp only [Act.put, List.setIfInBounds_toArray, List.set_cons_zero, List.set_cons_succ]
  refine heldTake 1 (some 38) (v := ?_) rfl rfl (by kernel_rfl) (by kernel_rfl) (by kernel_rfl) (by rfl) hHeld (fun _ _ _ h => h) ?_ ?_
  rotate_left
  · intro w' hSw; (try dsimp only at hSw); go_simp <;> with_reducible rfl
  simp only [Act.put, List.setIfInBounds_toArray, List.set_cons_zero, List.set_cons_succ]
  refine heldTake 3 (some 40) (v := ?_) rfl rfl (by kernel_rfl) (by kernel_rfl) (by kernel_rfl) (by rfl) hHeld (fun _ _ _ h => h) ?_ ?_
  rotate_left
  · intro w' hSw; (try dsimp only at hSw); go_simp <;> with_reducible rfl
  simp only [Act.put, List.setIfInBounds_toArray, List.set_cons_zero, List.set_cons_succ]
  refine heldTake 4 (some 41) (v := ?_) rfl rfl (by kernel_rfl) (by kernel_rfl) (by kernel_rfl) (by rfl) hHeld (fun _ _ _ h => h) ?_ ?_
  rotate_left
  · intro w' hSw; (try dsimp only at hSw); go_simp <;> with_reducible rfl
  simp only [Act.put, List.setIfInBounds_toArray, List.set_cons_zero, List.set_cons_succ]
  refine heldTake 5 (some 42) (v := ?_) rfl rfl (by kernel_rfl) (by kernel_rfl) (by kernel_rfl) (by rfl) hHeld (fun _ _ _ h => h) ?_ ?_
  rotate_left
  · intro w' hSw; (try dsimp only at hSw); go_simp <;> with_reducible rfl
  simp only [Act.put, List.setIfInBounds_toArray, List.set_cons_zero, List.set_cons_succ]
  refine heldTake 6 (some 43) (v := ?_) rfl rfl (by kernel_rfl) (by kernel_rfl) (by kernel_rfl) (by rfl) hHeld (fun _ _ _ h => h) ?_ ?_
  rotate_left
  · intro w' hSw; (try dsimp only at hSw); go_simp <;> with_reducible rfl
  simp only [Act.put, List.setIfInBounds_toArray, List.set_cons_zero, List.set_cons_succ]
  refine heldTake 7 (some 44) (v := ?_) rfl rfl (by kernel_rfl) (by kernel_rfl) (by kernel_rfl) (by rfl) hHeld (fun _ _ _ h => h) ?_ ?_
  rotate_left
  · intro w' hSw; (try dsimp only at hSw); go_simp <;> with_reducible rfl
  simp only [Act.put, List.setIfInBounds_toArray, List.set_cons_zero, List.set_cons_succ]
  refine heldTake 8 (some 45) (v := ?_) rfl rfl (by kernel_rfl) (by kernel_rfl) (by kernel_rfl) (by rfl) hHeld (fun _ _ _ h => h) ?_ ?_
  rotate_left
  · intro w' hSw; (try dsimp only at hSw); go_simp <;> with_reducible rfl
  simp only [Act.put, List.setIfInBounds_toArray, List.set_cons_zero, List.set_cons_succ]
  refine heldCall 2 (some 39) (f := ?_) (args := ?_) rfl rfl (by kernel_rfl) (by rfl) ?_ ?_
  rotate_left 2
  · go_simp <;> first | (constructor <;> with_reducible rfl) | with_reducible rfl
  (with_reducible refine (hG2.out _ hb1.drew).mono ?_)
  rintro e w2 ⟨rfl, hb2⟩
  have hB2 := hb1.drew.trans (hb2.mono hb1.drew.size)
  refine ⟨_, rfl, keepAnd ?_ (fun hNew => ?_)⟩
  · trivial
  clear hHeld
  have hHeld := hNew
  clear hNew
  simp only [Act.put, List.setIfInBounds_toArray, List.set_cons_zero, List.set_cons_succ]
  refine heldCall 9 (some 46) (f := ?_) (args := ?_) rfl rfl (by kernel_rfl) (by rfl) ?_ ?_
  rotate_left 2
  · go_simp <;> first | (constructor <;> with_reducible rfl) | with_reducible rfl
  (with_reducible refine (hsum.out _ hB2).mono ?_)
  rintro e w3 ⟨rfl, rfl⟩
  refine ⟨_, rfl, keepAnd ?_ (fun hNew => ?_)⟩
  · trivial
  clear hHeld
  have hHeld := hNew
  clear hNew
  simp only [Act.put, List.setIfInBounds_toArray, List.set_cons_zero, List.set_cons_succ]
  refine heldTake 10 (some 47) (v := ?_) rfl rfl (by kernel_rfl) (by kernel_rfl) (by kernel_rfl) (by rfl) hHeld (fun _ _ _ h => h) ?_ ?_
  rotate_left
  · intro w' hSw; (try dsimp only at hSw); go_simp <;> with_reducible rfl
  simp only [Act.put, List.setIfInBounds_toArray, List.set_cons_zero, List.set_cons_succ]
  refine heldTake 11 (some 36) (v := ?_) rfl rfl (by kernel_rfl) (by kernel_rfl) (by kernel_rfl) (by rfl) hHeld (fun _ _ _ h => h) ?_ ?_
  rotate_left
  · intro w' hSw; (try dsimp only at hSw); go_simp <;> with_reducible rfl
  simp only [Act.put, List.setIfInBounds_toArray, List.set_cons_zero, List.set_cons_succ]
  refine wpAnyH_done (by kernel_rfl) ?_ _
  refine NoPanic.normal ?_
  clear hw8 q8 q9 q10 q11 hs4 hh4 hlh
  have z1 : Nat.min (l.length - k - 8) n = 0 := by rw [HZ.out]; exact Nat.min_zero _
  have HZ1 := Lib.hid z1
  have hBa := hB2.alloc hB2.size (.cells (bv Z).toArray 5)
  have hBs := hB2.size
  clear z1
  go_wp2_with (refine wpList_copy_nothing (by rfl) (.tmp 50) (.tmp 52) 29 29 (by rfl) 5 Tryz.underlying29 infoB1 _ _ n n (l.length - k - 8) (c - k - 8) (by rfl) (by rfl) HZ1.out ?_)
  go_wp2_with fail
  go_ret3
  refine ⟨_, rfl, ?_, hBa⟩
  have hbl := HBL.out
  have hrl := HRL.out
  have hz := HZ.out
  have hbn : body = [] := List.eq_nil_of_length_eq_zero (by omega)
  unfold OwnB
  show (w2.alloc (.cells (bv Z).toArray 5)).ownsRow w.heap.size 5 1 (.slice (some ⟨w2.heap.size, 0, none⟩) n n) body.length (bv body)
  rw [hbl]
  refine ⟨by rw [bv_length, hbl, Nat.mul_one], .inr ⟨w2.heap.size, n, _, rfl, hBs, heap_alloc_new w2 _, Nat.le_refl _, by unfold maxLen; omega, by simp [bv_length, hrl], ?_⟩⟩
  rw [hbn, hz]; simp [bv]
end

section
set_option maxRecDepth 100000
open Go.RowKit Go.Lib Go.IntWalk

set_option maxRecDepth 100000 in
set_option maxHeartbeats 2000000 in
theorem next_lastbad (b off c k : Nat) (l : List UInt8) (w : World) (hl : l.length = c) (hck : c = k + 8) (hv : RdB w (· < w.heap.size) (.slice (some ⟨b, off, none⟩) l.length c) l) (hcm : c ≤ maxLen) (hn : num4L l k = 0) (s4 cs : Nat) (hs : num4L l (k + 4) = s4) (hc : crcSum ((l.drop k).take 4) [] = cs) (hne : ¬ s4 = cs) :
    Calls Tryz.prog 36 #[.slice (some ⟨b, off, none⟩) l.length c, .int .i64 (k : Int)] w (Fr3 ([], 0, 4) w) := by
  obtain ⟨b', off', e, hF, hcell⟩ := bytes_at hv (by omega)
  simp only [Option.some.injEq, Addr.mk.injEq, and_true] at e
  obtain ⟨rfl, rfl⟩ := e
  have hG := Lib.hid (fun W (hW : Below w.heap.size w W) => get4_any b (off + k) 8 8 (l.getD k 0) (l.getD (k + 1) 0) (l.getD (k + 2) 0) (l.getD (k + 3) 0) W (by omega)
    ((hW.cell (p := ⟨b, off + k, none⟩) hF).trans (hcell k (by omega))) ((hW.cell (p := ⟨b, off + k + 1, none⟩) hF).trans (hcell (k + 1) (by omega))) ((hW.cell (p := ⟨b, off + k + 2, none⟩) hF).trans (hcell (k + 2) (by omega))) ((hW.cell (p := ⟨b, off + k + 3, none⟩) hF).trans (hcell (k + 3) (by omega))))
  rw [show num4 (l.getD k 0) (l.getD (k + 1) 0) (l.getD (k + 2) 0) (l.getD (k + 3) 0) = 0 from hn, show ((0 : Nat) : Int) = 0 from rfl] at hG
  have hG2 := Lib.hid (fun W (hW : Below w.heap.size w W) => get4_any b (off + k + 4) 4 4 (l.getD (k + 4) 0) (l.getD (k + 4 + 1) 0) (l.getD (k + 4 + 2) 0) (l.getD (k + 4 + 3) 0) W (by omega)
    ((hW.cell (p := ⟨b, off + k + 4, none⟩) hF).trans (hcell (k + 4) (by omega))) ((hW.cell (p := ⟨b, off + k + 4 + 1, none⟩) hF).trans (hcell (k + 4 + 1) (by omega))) ((hW.cell (p := ⟨b, off + k + 4 + 2, none⟩) hF).trans (hcell (k + 4 + 2) (by omega))) ((hW.cell (p := ⟨b, off + k + 4 + 3, none⟩) hF).trans (hcell (k + 4 + 3) (by omega))))
  rw [show num4 (l.getD (k + 4) 0) (l.getD (k + 4 + 1) 0) (l.getD (k + 4 + 2) 0) (l.getD (k + 4 + 3) 0) = s4 from hs] at hG2
  have hsl := sl_lo b off c c k (by omega) (by omega)
  rw [show c - k = 8 from by omega] at hsl
  have hr4 : RdB w (· < w.heap.size) (.slice (some ⟨b, off + k, none⟩) 4 8) ((l.drop k).take 4) := hv.sub (o := k) (k := 4) (c' := 8) (by omega) (by omega) (by omega) (by omega)
  have hsum := Lib.hid (fun W (hW : Below w.heap.size w W) => sum_any (· < w.heap.size) (· < w.heap.size) _ _ _ _ W (Rd.below hr4 hW) (rd_empty W (· < w.heap.size) ⟨b, off + k, none⟩ 0 (Nat.zero_le _)))
  rw [hc] at hsum
  have q0 : ¬ (k : Int) < 0 := by omega
  have hw8 : IntKind.i64.wrap 8 = 8 := by decide
  have hs3 : ∀ W : World, (Instr.slice 29 (.slice (some ⟨b, off + k, none⟩) 8 8) (some (.int .i64 8)) (some (.int .i64 8)) none).run Tryz.prog W = .ok (.slice (some ⟨b, off + k, none⟩) 0 0) W := fun W => sl_lohi b (off + k) 8 8 8 8 (by omega) (by omega) W
  have q1 : ¬ (c : Int) < (k : Int) := by omega
  have q7 : IntKind.i64.wrap ((k : Int) + 8) = (k : Int) + 8 := IntWalk.i64_in _ (by unfold maxLen at hcm; omega)
  rw [hl]
  clear hs hc hn hv hcell hr4
  clear hl hcm hck
  have q5 : ((s4 : Int) != (cs : Int)) = true := by rw [bne_iff_ne]; omega
  go_enter Tryz.func36, Tryz.ntmps36
  go_wp2_with fail
  (with_reducible refine (hG.out _ (Below.refl _ _)).mono ?_)
  rintro e w1 ⟨rfl, hb1⟩
  go_wp2_with fail
  refine wp_region_noPanic ?_
  refine wp_region_held_drew (S := (fun _ => True)) (by kernel_rfl) ?_ (fun hHeld => ?_)
  · trivial
  refine heldTake 0 (some 37) (v := ?_) rfl rfl (by kernel_rfl) (by kernel_rfl) (by kernel_rfl) (by rfl) hHeld (fun _ _ _ h => h) ?_ ?_
  rotate_left
  · intro w' hSw; (try dsimp only at hSw); go_simp <;> with_reducible rfl
  simp only [Act.put, List.setIfInBounds_toArray, List.set_cons_zero, List.set_cons_succ]
  refine heldTake 1 (some 38) (v := ?_) rfl rfl (by kernel_rfl) (by kernel_rfl) (by kernel_rfl) (by rfl) hHeld (fun _ _ _ h => h) ?_ ?_
  rotate_left
  · intro w' hSw; (try dsimp only at hSw); go_simp <;> with_reducible rfl
  simp only [Act.put, List.setIfInBounds_toArray, List.set_cons_zero, List.set_cons_succ]
  refine heldTake 3 (some 40) (v := ?_) rfl rfl (by kernel_rfl) (by kernel_rfl) (by kernel_rfl) (by rfl) hHeld (fun _ _ _ h => h) ?_ ?_
  rotate_left
  · intro w' hSw; (try dsimp only at hSw); go_simp <;> with_reducible rfl
  simp only [Act.put, List.setIfInBounds_toArray, List.set_cons_zero, List.set_cons_succ]
  refine heldTake 4 (some 41) (v := ?_) rfl rfl (by kernel_rfl) (by kernel_rfl) (by kernel_rfl) (by rfl) hHeld (fun _ _ _ h => h) ?_ ?_
  rotate_left
  · intro w' hSw; (try dsimp only at hSw); go_simp <;> with_reducible rfl
  simp only [Act.put, List.setIfInBounds_toArray, List.set_cons_zero, List.set_cons_succ]
  refine heldTake 5 (some 42) (v := ?_) rfl rfl (by kernel_rfl) (by kernel_rfl) (by kernel_rfl) (by rfl) hHeld (fun _ _ _ h => h) ?_ ?_
  rotate_left
  · intro w' hSw; (try dsimp only at hSw); go_simp <;> with_reducible rfl
  simp only [Act.put, List.setIfInBounds_toArray, List.set_cons_zero, List.set_cons_succ]
  refine heldTake 6 (some 43) (v := ?_) rfl rfl (by kernel_rfl) (by kernel_rfl) (by kernel_rfl) (by rfl) hHeld (fun _ _ _ h => h) ?_ ?_
  rotate_left
  · intro w' hSw; (try dsimp only at hSw); go_simp <;> with_reducible rfl
  simp only [Act.put, List.setIfInBounds_toArray, List.set_cons_zero, List.set_cons_succ]
  refine heldTake 7 (some 44) (v := ?_) rfl rfl (by kernel_rfl) (by kernel_rfl) (by kernel_rfl) (by rfl) hHeld (fun _ _ _ h => h) ?_ ?_
  rotate_left
  · intro w' hSw; (try dsimp only at hSw); go_simp <;> with_reducible rfl
  simp only [Act.put, List.setIfInBounds_toArray, List.set_cons_zero, List.set_cons_succ]
  refine heldTake 8 (some 45) (v := ?_) rfl rfl (by kernel_rfl) (by kernel_rfl) (by kernel_rfl) (by rfl) hHeld (fun _ _ _ h => h) ?_ ?_
  rotate_left
  · intro w' hSw; (try dsimp only at hSw); go_simp <;> with_reducible rfl
  simp only [Act.put, List.setIfInBounds_toArray, List.set_cons_zero, List.set_cons_succ]
  refine heldCall 2 (some 39) (f := ?_) (args := ?_) rfl rfl (by kernel_rfl) (by rfl) ?_ ?_
  rotate_left 2
  · go_simp <;> first | (constructor <;> with_reducible rfl) | with_reducible rfl
  (with_reducible refine (hG2.out _ hb1.drew).mono ?_)
  rintro e w2 ⟨rfl, hb2⟩
  have hB2 := hb1.drew.trans (hb2.mono hb1.drew.size)
  refine ⟨_, rfl, keepAnd ?_ (fun hNew => ?_)⟩
  · trivial
  clear hHeld
  have hHeld := hNew
  clear hNew
  simp only [Act.put, List.setIfInBounds_toArray, List.set_cons_zero, List.set_cons_succ]
  refine heldCall 9 (some 46) (f := ?_) (args := ?_) rfl rfl (by kernel_rfl) (by rfl) ?_ ?_
  rotate_left 2
  · go_simp <;> first | (constructor <;> with_reducible rfl) | with_reducible rfl
  (with_reducible refine (hsum.out _ hB2).mono ?_)
  rintro e w3 ⟨rfl, rfl⟩
  refine ⟨_, rfl, keepAnd ?_ (fun hNew => ?_)⟩
  · trivial
  clear hHeld
  have hHeld := hNew
  clear hNew
  simp only [Act.put, List.setIfInBounds_toArray, List.set_cons_zero, List.set_cons_succ]
  refine heldTake 10 (some 47) (v := ?_) rfl rfl (by kernel_rfl) (by kernel_rfl) (by kernel_rfl) (by rfl) hHeld (fun _ _ _ h => h) ?_ ?_
  rotate_left
  · intro w' hSw; (try dsimp only at hSw); go_simp <;> with_reducible rfl
  simp only [Act.put, List.setIfInBounds_toArray, List.set_cons_zero, List.set_cons_succ]
  refine heldTake 11 (some 36) (v := ?_) rfl rfl (by kernel_rfl) (by kernel_rfl) (by kernel_rfl) (by rfl) hHeld (fun _ _ _ h => h) ?_ ?_
  rotate_left
  · intro w' hSw; (try dsimp only at hSw); go_simp <;> with_reducible rfl
  simp only [Act.put, List.setIfInBounds_toArray, List.set_cons_zero, List.set_cons_succ]
  refine wpAnyH_done (by kernel_rfl) ?_ _
  refine NoPanic.normal ?_
  go_wp2_with fail
  all_goals
    go_ret3
    exact ⟨_, rfl, OwnB.nil _ _, hB2⟩

set_option maxRecDepth 100000 in
set_option maxHeartbeats 2000000 in
theorem next_last (b off c k : Nat) (l : List UInt8) (w : World) (hl : l.length = c) (hck : c = k + 8) (hv : RdB w (· < w.heap.size) (.slice (some ⟨b, off, none⟩) l.length c) l) (hcm : c ≤ maxLen) (hn : num4L l k = 0) (s4 cs : Nat) (hs : num4L l (k + 4) = s4) (hc : crcSum ((l.drop k).take 4) [] = cs) (hne : s4 = cs) :
    Calls Tryz.prog 36 #[.slice (some ⟨b, off, none⟩) l.length c, .int .i64 (k : Int)] w (Fr3 ([], (k : Int) + 8, 0) w) := by
  obtain ⟨b', off', e, hF, hcell⟩ := bytes_at hv (by omega)
  simp only [Option.some.injEq, Addr.mk.injEq, and_true] at e
  obtain ⟨rfl, rfl⟩ := e
  have hG := Lib.hid (fun W (hW : Below w.heap.size w W) => get4_any b (off + k) 8 8 (l.getD k 0) (l.getD (k + 1) 0) (l.getD (k + 2) 0) (l.getD (k + 3) 0) W (by omega)
    ((hW.cell (p := ⟨b, off + k, none⟩) hF).trans (hcell k (by omega))) ((hW.cell (p := ⟨b, off + k + 1, none⟩) hF).trans (hcell (k + 1) (by omega))) ((hW.cell (p := ⟨b, off + k + 2, none⟩) hF).trans (hcell (k + 2) (by omega))) ((hW.cell (p := ⟨b, off + k + 3, none⟩) hF).trans (hcell (k + 3) (by omega))))
  rw [show num4 (l.getD k 0) (l.getD (k + 1) 0) (l.getD (k + 2) 0) (l.getD (k + 3) 0) = 0 from hn, show ((0 : Nat) : Int) = 0 from rfl] at hG
  have hG2 := Lib.hid (fun W (hW : Below w.heap.size w W) => get4_any b (off + k + 4) 4 4 (l.getD (k + 4) 0) (l.getD (k + 4 + 1) 0) (l.getD (k + 4 + 2) 0) (l.getD (k + 4 + 3) 0) W (by omega)
    ((hW.cell (p := ⟨b, off + k + 4, none⟩) hF).trans (hcell (k + 4) (by omega))) ((hW.cell (p := ⟨b, off + k + 4 + 1, none⟩) hF).trans (hcell (k + 4 + 1) (by omega))) ((hW.cell (p := ⟨b, off + k + 4 + 2, none⟩) hF).trans (hcell (k + 4 + 2) (by omega))) ((hW.cell (p := ⟨b, off + k + 4 + 3, none⟩) hF).trans (hcell (k + 4 + 3) (by omega))))
  rw [show num4 (l.getD (k + 4) 0) (l.getD (k + 4 + 1) 0) (l.getD (k + 4 + 2) 0) (l.getD (k + 4 + 3) 0) = s4 from hs] at hG2
  have hsl := sl_lo b off c c k (by omega) (by omega)
  rw [show c - k = 8 from by omega] at hsl
  have hr4 : RdB w (· < w.heap.size) (.slice (some ⟨b, off + k, none⟩) 4 8) ((l.drop k).take 4) := hv.sub (o := k) (k := 4) (c' := 8) (by omega) (by omega) (by omega) (by omega)
  have hsum := Lib.hid (fun W (hW : Below w.heap.size w W) => sum_any (· < w.heap.size) (· < w.heap.size) _ _ _ _ W (Rd.below hr4 hW) (rd_empty W (· < w.heap.size) ⟨b, off + k, none⟩ 0 (Nat.zero_le _)))
  rw [hc] at hsum
  have q0 : ¬ (k : Int) < 0 := by omega
  have hw8 : IntKind.i64.wrap 8 = 8 := by decide
  have hs3 : ∀ W : World, (Instr.slice 29 (.slice (some ⟨b, off + k, none⟩) 8 8) (some (.int .i64 8)) (some (.int .i64 8)) none).run Tryz.prog W = .ok (.slice (some ⟨b, off + k, none⟩) 0 0) W := fun W => sl_lohi b (off + k) 8 8 8 8 (by omega) (by omega) W
  have q1 : ¬ (c : Int) < (k : Int) := by omega
  have q7 : IntKind.i64.wrap ((k : Int) + 8) = (k : Int) + 8 := IntWalk.i64_in _ (by unfold maxLen at hcm; omega)
  rw [hl]
  clear hs hc hn hv hcell hr4
  clear hl hcm hck
  subst hne
  have hmk := make_bytes 0 (by omega)
  rw [show ((0 : Nat) : Int) = 0 from rfl] at hmk
  go_enter Tryz.func36, Tryz.ntmps36
  go_wp2_with fail
  (with_reducible refine (hG.out _ (Below.refl _ _)).mono ?_)
  rintro e w1 ⟨rfl, hb1⟩
  go_wp2_with fail
  refine wp_region_noPanic ?_
  refine wp_region_held_drew (S := (fun _ => True)) (by kernel_rfl) ?_ (fun hHeld => ?_)
  · trivial
  refine heldTake 0 (some 37) (v := ?_) rfl rfl (by kernel_rfl) (by kernel_rfl) (by kernel_rfl) (by rfl) hHeld (fun _ _ _ h => h) ?_ ?_
  rotate_left
  · intro w' hSw; (try dsimp only at hSw); go_simp <;> with_reducible rfl
  simp only [Act.put, List.setIfInBounds_toArray, List.set_cons_zero, List.set_cons_succ]
  refine heldTake 1 (some 38) (v := ?_) rfl rfl (by kernel_rfl) (by kernel_rfl) (by kernel_rfl) (by rfl) hHeld (fun _ _ _ h => h) ?_ ?_
  rotate_left
  · intro w' hSw; (try dsimp only at hSw); go_simp <;> with_reducible rfl
  simp only [Act.put, List.setIfInBounds_toArray, List.set_cons_zero, List.set_cons_succ]
  refine heldTake 3 (some 40) (v := ?_) rfl rfl (by kernel_rfl) (by kernel_rfl) (by kernel_rfl) (by rfl) hHeld (fun _ _ _ h => h) ?_ ?_
  rotate_left
  · intro w' hSw; (try dsimp only at hSw); go_simp <;> with_reducible rfl
  simp only [Act.put, List.setIfInBounds_toArray, List.set_cons_zero, List.set_cons_succ]
  refine heldTake 4 (some 41) (v := ?_) rfl rfl (by kernel_rfl) (by kernel_rfl) (by kernel_rfl) (by rfl) hHeld (fun _ _ _ h => h) ?_ ?_
  rotate_left
  · intro w' hSw; (try dsimp only at hSw); go_simp <;> with_reducible rfl
  simp only [Act.put, List.setIfInBounds_toArray, List.set_cons_zero, List.set_cons_succ]
  refine heldTake 5 (some 42) (v := ?_) rfl rfl (by kernel_rfl) (by kernel_rfl) (by kernel_rfl) (by rfl) hHeld (fun _ _ _ h => h) ?_ ?_
  rotate_left
  · intro w' hSw; (try dsimp only at hSw); go_simp <;> with_reducible rfl
  simp only [Act.put, List.setIfInBounds_toArray, List.set_cons_zero, List.set_cons_succ]
  refine heldTake 6 (some 43) (v := ?_) rfl rfl (by kernel_rfl) (by kernel_rfl) (by kernel_rfl) (by rfl) hHeld (fun _ _ _ h => h) ?_ ?_
  rotate_left
  · intro w' hSw; (try dsimp only at hSw); go_simp <;> with_reducible rfl
  simp only [Act.put, List.setIfInBounds_toArray, List.set_cons_zero, List.set_cons_succ]
  refine heldTake 7 (some 44) (v := ?_) rfl rfl (by kernel_rfl) (by kernel_rfl) (by kernel_rfl) (by rfl) hHeld (fun _ _ _ h => h) ?_ ?_
  rotate_left
  · intro w' hSw; (try dsimp only at hSw); go_simp <;> with_reducible rfl
  simp only [Act.put, List.setIfInBounds_toArray, List.set_cons_zero, List.set_cons_succ]
  refine heldTake 8 (some 45) (v := ?_) rfl rfl (by kernel_rfl) (by kernel_rfl) (by kernel_rfl) (by rfl) hHeld (fun _ _ _ h => h) ?_ ?_
  rotate_left
  · intro w' hSw; (try dsimp only at hSw); go_simp <;> with_reducible rfl
  simp only [Act.put, List.setIfInBounds_toArray, List.set_cons_zero, List.set_cons_succ]
  refine heldCall 2 (some 39) (f := ?_) (args := ?_) rfl rfl (by kernel_rfl) (by rfl) ?_ ?_
  rotate_left 2
  · go_simp <;> first | (constructor <;> with_reducible rfl) | with_reducible rfl
  (with_reducible refine (hG2.out _ hb1.drew).mono ?_)
  rintro e w2 ⟨rfl, hb2⟩
  have hB2 := hb1.drew.trans (hb2.mono hb1.drew.size)
  refine ⟨_, rfl, keepAnd ?_ (fun hNew => ?_)⟩
  · trivial
  clear hHeld
  have hHeld := hNew
  clear hNew
  simp only [Act.put, List.setIfInBounds_toArray, List.set_cons_zero, List.set_cons_succ]
  refine heldCall 9 (some 46) (f := ?_) (args := ?_) rfl rfl (by kernel_rfl) (by rfl) ?_ ?_
  rotate_left 2
  · go_simp <;> first | (constructor <;> with_reducible rfl) | with_reducible rfl
  (with_reducible refine (hsum.out _ hB2).mono ?_)
  rintro e w3 ⟨rfl, rfl⟩
  refine ⟨_, rfl, keepAnd ?_ (fun hNew => ?_)⟩
  · trivial
  clear hHeld
  have hHeld := hNew
  clear hNew
  simp only [Act.put, List.setIfInBounds_toArray, List.set_cons_zero, List.set_cons_succ]
  refine heldTake 10 (some 47) (v := ?_) rfl rfl (by kernel_rfl) (by kernel_rfl) (by kernel_rfl) (by rfl) hHeld (fun _ _ _ h => h) ?_ ?_
  rotate_left
  · intro w' hSw; (try dsimp only at hSw); go_simp <;> with_reducible rfl
  simp only [Act.put, List.setIfInBounds_toArray, List.set_cons_zero, List.set_cons_succ]
  refine heldTake 11 (some 36) (v := ?_) rfl rfl (by kernel_rfl) (by kernel_rfl) (by kernel_rfl) (by rfl) hHeld (fun _ _ _ h => h) ?_ ?_
  rotate_left
  · intro w' hSw; (try dsimp only at hSw); go_simp <;> with_reducible rfl
  simp only [Act.put, List.setIfInBounds_toArray, List.set_cons_zero, List.set_cons_succ]
  refine wpAnyH_done (by kernel_rfl) ?_ _
  refine NoPanic.normal ?_
  have hBa := hB2.alloc hB2.size (.cells (bv (List.replicate 0 0)).toArray 5)
  have hBs := hB2.size
  go_wp2_with (refine wpList_copy_nothing (by rfl) (.tmp 50) (.tmp 52) 29 29 (by rfl) 5 Tryz.underlying29 infoB1 _ _ 0 0 0 0 (by rfl) (by rfl) rfl ?_)
  go_wp2_with fail
  go_ret3
  refine ⟨.slice (some ⟨w2.heap.size, 0, none⟩) 0 0, rfl, ?_, hBa⟩
  exact ⟨rfl, .inr ⟨w2.heap.size, 0, _, rfl, hBs, heap_alloc_new w2 _, Nat.le_refl _, Nat.zero_le _, rfl, rfl⟩⟩
end

section
set_option maxRecDepth 100000
open Go.RowKit Go.Lib Go.IntWalk

theorem next_any (v : Value) (l : List UInt8) (k : Int) (w : World) (hv : RdB w (· < w.heap.size) v l) :
    Calls Tryz.prog 36 #[v, .int .i64 k] w (Fr3 (nextF l k) w) := by
  by_cases h1 : k < 0 ∨ (l.length : Int) < k
  · rw [nextF, if_pos h1]
    exact next_out v l k _ w hv h1
  obtain ⟨j, rfl⟩ : ∃ j : Nat, k = (j : Int) := ⟨k.toNat, by omega⟩
  rw [nextF, if_neg h1, Int.toNat_natCast]
  by_cases h2 : l.length < j + 8
  · rw [if_pos h2]
    exact next_short v l j _ w hv (by omega) h2
  rw [if_neg h2]
  obtain ⟨A, c, rfl, hc1, hc2, hc3⟩ := hv.open_
  obtain ⟨b, off, rfl, -, -⟩ := bytes_at hv (by omega)
  by_cases h3 : 1048576 < num4L l j
  · rw [if_pos h3]
    exact next_long b off c j _ l w hv hc1 (by omega) rfl h3
  rw [if_neg h3]
  by_cases h4 : l.length < j + 8 + num4L l j
  · rw [if_pos h4]
    exact next_cut b off c j _ l w hv hc1 (by omega) rfl h3 h4
  rw [if_neg h4]
  by_cases h8 : c - j = 8
  · have hn : num4L l j = 0 := by omega
    rw [hn, List.take_zero]
    by_cases h5 : num4L l (j + 4) = crcSum ((l.drop j).take 4) []
    · rw [if_neg (fun h => h h5)]
      have := next_last b off c j l w (by omega) (by omega) hv hc2 hn _ _ rfl rfl h5
      rw [show (j : Int) + 8 + ((0 : Nat) : Int) = (j : Int) + 8 by omega]
      exact this
    · rw [if_pos h5]
      exact next_lastbad b off c j l w (by omega) (by omega) hv hc2 hn _ _ rfl rfl h5
  · by_cases h5 : num4L l (j + 4) = crcSum ((l.drop j).take 4) ((l.drop (j + 8)).take (num4L l j))
    · rw [if_neg (fun h => h h5)]
      by_cases hz : num4L l j = 0
      · exact next_none b off c j _ l w hv hc1 (by omega) rfl _ _ rfl rfl h3 h4 hc2 h8 h5 hz
      · exact next_ok b off c j _ l w hv hc1 (by omega) rfl _ _ rfl rfl h3 h4 hc2 h8 h5 (by omega)
    · rw [if_pos h5]
      exact next_bad b off c j _ l w hv hc1 (by omega) rfl _ _ rfl rfl h3 h4 hc2 h8 h5
end

section
set_option maxRecDepth 100000
open Go.RowKit Go.Lib

/-- a block that the input has, or a row of bytes -/
def BR (B : Nat) (w : World) (b : Nat) : Prop := b < B ∨ ∃ cs fr, w.heap[b]? = some (.cells cs 5 fr)
/-- bytes that nobody writes any more -/
def DatB (B : Nat) (w : World) (v : Value) (l : List UInt8) : Prop := RdB w (BR B w) v l
/-- a block of slices of bytes -/
def LR (B : Nat) (w : World) (b : Nat) : Prop := b < B ∨ ∃ cs, w.heap[b]? = some (.cells cs 29 (0, 0))
/-- a list of slices of bytes -/
def DatL (B : Nat) (w : World) (v : Value) (ls : List (List UInt8)) : Prop :=
  ∃ vs : List Value, Rd w (LR B w) 1 v ls.length vs ∧ ∀ (i : Nat) (u : Value) (l : List UInt8), vs[i]? = some u → ls[i]? = some l → DatB B w u l

theorem DatB.chg {B : Nat} {w w' : World} {S : Nat → Prop} {v : Value} {l : List UInt8} (h : DatB B w v l) (hB : B ≤ w.heap.size) (hc : Chg S w w') (hs : ∀ b, BR B w b → ¬ S b) : DatB B w' v l := by
  have hk : ∀ b, BR B w b → w'.heap[b]? = w.heap[b]? := by
    intro b hb
    refine hc.block b ?_ (hs b hb)
    rcases hb with hb | ⟨cs, fr, hb⟩
    · omega
    · exact (Array.getElem?_eq_some_iff.1 hb).1
  refine (Rd.keep h hk).wide ?_
  intro b hb
  have := hk b hb
  rcases hb with hb | ⟨cs, fr, hb⟩
  · exact .inl hb
  · exact .inr ⟨cs, fr, this.trans hb⟩
theorem DatB.below {B : Nat} {w w' : World} {v : Value} {l : List UInt8} (h : DatB B w v l) (hB : B ≤ w.heap.size) (hb : Below w.heap.size w w') : DatB B w' v l :=
  h.chg hB (Chg.of_below hb (fun _ => False)) (fun _ _ hf => hf)
theorem DatL.chg {B : Nat} {w w' : World} {S : Nat → Prop} {v : Value} {ls : List (List UInt8)} (h : DatL B w v ls) (hB : B ≤ w.heap.size) (hc : Chg S w w') (hs : ∀ b, BR B w b → ¬ S b) (ht : ∀ b, LR B w b → ¬ S b) : DatL B w' v ls := by
  obtain ⟨vs, hr, hv⟩ := h
  have hk : ∀ b, LR B w b → w'.heap[b]? = w.heap[b]? := by
    intro b hb
    refine hc.block b ?_ (ht b hb)
    rcases hb with hb | ⟨cs, hb⟩
    · omega
    · exact (Array.getElem?_eq_some_iff.1 hb).1
  refine ⟨vs, (Rd.keep hr hk).wide ?_, fun i u l hu hl => (hv i u l hu hl).chg hB hc hs⟩
  intro b hb
  have := hk b hb
  rcases hb with hb | ⟨cs, hb⟩
  · exact .inl hb
  · exact .inr ⟨cs, this.trans hb⟩
theorem DatB.of_own {B base : Nat} {w : World} {v : Value} {l : List UInt8} (h : OwnB w base v l) : DatB B w v l := by
  refine ⟨h.1, ?_⟩
  rcases h.2 with ⟨rfl, h0⟩ | ⟨g, cap, cur, rfl, hb, hg, hnc, hcm, hcs, htake⟩
  · rw [h0]
    exact ⟨none, 0, rfl, Nat.le_refl _, Nat.zero_le _, fun _ => rfl, fun h => absurd h (by omega)⟩
  · exact ⟨_, cap, rfl, hnc, hcm, fun h => (Option.some_ne_none _ h).elim, fun _ => ⟨_, rfl, .inr ⟨cur, _, hg⟩, World.ownsRow.cells (g := g) h rfl⟩⟩
theorem DatB.nil (B : Nat) (w : World) : DatB B w (.slice none 0 0) [] := RdB.nil _ _
theorem DatB.rd {B : Nat} {w : World} {v : Value} {l : List UInt8} (h : DatB B w v l) (hB : B ≤ w.heap.size) : RdB w (· < w.heap.size) v l := by
  refine Rd.wide h ?_
  intro b hb
  rcases hb with hb | ⟨cs, fr, hb⟩
  · omega
  · exact (Array.getElem?_eq_some_iff.1 hb).1
theorem DatB.of_input {B : Nat} {w : World} {v : Value} {l : List UInt8} (h : RdB w (· < B) v l) : DatB B w v l := Rd.wide h fun _ hb => .inl hb

/-- a row of slices of bytes of the call's own -/
def OwnL (w : World) (base : Nat) (v : Value) (ls : List (List UInt8)) : Prop :=
  ∃ vs : List Value, w.ownsRow base 29 1 v ls.length vs ∧ ∀ (i : Nat) (u : Value) (l : List UInt8), vs[i]? = some u → ls[i]? = some l → OwnB w base u l
theorem OwnL.nil (w : World) (base : Nat) : OwnL w base (.slice none 0 0) [] := ⟨[], World.ownsRow_nil w _ _ _, fun i u l h => by simp at h⟩
theorem OwnL.dat {B base : Nat} {w : World} {v : Value} {ls : List (List UInt8)} (h : OwnL w base v ls) : DatL B w v ls := by
  obtain ⟨vs, h, hv⟩ := h
  refine ⟨vs, ⟨h.1, ?_⟩, fun i u l hu hl => DatB.of_own (hv i u l hu hl)⟩
  rcases h.2 with ⟨rfl, h0⟩ | ⟨g, cap, cur, rfl, hb, hg, hnc, hcm, hcs, htake⟩
  · rw [h0]
    exact ⟨none, 0, rfl, Nat.le_refl _, Nat.zero_le _, fun _ => rfl, fun h => absurd h (by omega)⟩
  · exact ⟨_, cap, rfl, hnc, hcm, fun h => (Option.some_ne_none _ h).elim, fun _ => ⟨_, rfl, .inr ⟨cur, hg⟩, World.ownsRow.cells (g := g) h rfl⟩⟩
theorem OwnB.below {w w' : World} {base : Nat} {v : Value} {l : List UInt8} (h : OwnB w base v l) (hb : Below w.heap.size w w') : OwnB w' base v l :=
  World.ownsRow.kept (row := none) h ⟨hb.os, hb.tape, hb.output, hb.size, fun k hk _ => hb.block k hk⟩ (by cases v.ownBlock <;> simp)
theorem OwnL.below {w w' : World} {base : Nat} {v : Value} {ls : List (List UInt8)} (h : OwnL w base v ls) (hb : Below w.heap.size w w') : OwnL w' base v ls := by
  obtain ⟨vs, h, hv⟩ := h
  exact ⟨vs, World.ownsRow.kept (row := none) h ⟨hb.os, hb.tape, hb.output, hb.size, fun k hk _ => hb.block k hk⟩ (by cases v.ownBlock <;> simp), fun i u l hu hl => (hv i u l hu hl).below hb⟩
end

section
set_option maxRecDepth 100000
open Go.RowKit Go.Lib Go.IntWalk

theorem infoL : (Tryz.prog.info? 29).map (fun i => (i.zero, i.size, i.bytes)) = some (some (.slice none 0 0), 1, 24) := by kernel_rfl

/-- what Scan reads: the bodies, and where it ends -/
def scanN (l : List UInt8) : Nat → Nat → List (List UInt8) → List (List UInt8) × Nat
  | 0, k, acc => (acc, k)
  | f + 1, k, acc => if (nextF l (k : Int)).2.2 = 0 then scanN l f (nextF l (k : Int)).2.1.toNat (acc ++ [(nextF l (k : Int)).1]) else (acc, k)
def scanF (l : List UInt8) : List (List UInt8) × Nat := scanN l (l.length + 1) 0 []

theorem nextF_ok {l : List UInt8} {k : Nat} (h : (nextF l (k : Int)).2.2 = 0) : ∃ j : Nat, (nextF l (k : Int)).2.1 = (j : Int) ∧ k + 8 ≤ j ∧ j ≤ l.length := by
  unfold nextF at h ⊢
  rw [Int.toNat_natCast] at h ⊢
  split at h
  · simp at h
  split at h
  · simp at h
  split at h
  · simp at h
  split at h
  · simp at h
  split at h
  · simp at h
  rename_i h1 h2 h3 h4 h5
  rw [if_neg h1, if_neg h2, if_neg h3, if_neg h4, if_neg h5]
  exact ⟨k + 8 + num4L l k, by simp, by omega, by omega⟩

theorem OwnB.base {w : World} {b b' : Nat} {v : Value} {l : List UInt8} (h : OwnB w b v l) (hb : b' ≤ b) : OwnB w b' v l := by
  refine ⟨h.1, h.2.imp id ?_⟩
  rintro ⟨g, cap, cur, e, h1, h2⟩
  exact ⟨g, cap, cur, e, Nat.le_trans hb h1, h2⟩
theorem OwnL.push {w w' : World} {base : Nat} {v v' u : Value} {ls : List (List UInt8)} {l : List UInt8} {vs : List Value} (hr : w.ownsRow base 29 1 v ls.length vs) (hv : ∀ (i : Nat) (u : Value) (l : List UInt8), vs[i]? = some u → ls[i]? = some l → OwnB w base u l)
    (hu : OwnB w base u l) (hg : w.grownBy w' v.ownBlock) (hr' : w'.ownsRow base 29 1 v' (ls.length + 1) (vs ++ [u])) : OwnL w' base v' (ls ++ [l]) := by
  have key : ∀ {x : Value} {m : List UInt8}, OwnB w base x m → OwnB w' base x m := by
    intro x m hx
    refine World.ownsRow.kept hx hg ?_
    rcases hx.2 with ⟨rfl, _⟩ | ⟨g1, cap, cur, rfl, _, hh, _⟩
    · exact .inl rfl
    · refine .inr fun hE => ?_
      rcases hr.2 with ⟨rfl, _⟩ | ⟨g2, cap2, cur2, rfl, _, hh2, _⟩
      · simp [Value.ownBlock] at hE
      · simp only [Value.ownBlock, Option.some.injEq] at hE
        subst hE
        rw [hh] at hh2
        simp at hh2
  have hlen : vs.length = ls.length := by have := hr.1; omega
  refine ⟨vs ++ [u], by rw [List.length_append]; exact hr', fun i x m hx hm => ?_⟩
  by_cases hi : i < vs.length
  · rw [List.getElem?_append_left hi] at hx
    rw [List.getElem?_append_left (by omega)] at hm
    exact key (hv i x m hx hm)
  · rw [List.getElem?_append_right (by omega)] at hx hm
    rw [hlen] at hx
    generalize i - ls.length = j at *
    match j with
    | 0 => simp at hx hm; subst hx; subst hm; exact key hu
    | j + 1 => simp at hx

/-- the slices, and where the reading ended -/
def ScanOut (r : List (List UInt8) × Nat) (w0 : World) (e : Ending) (w : World) : Prop := ∃ v, e = .returned (.tuple #[v, .int .i64 (r.2 : Int)]) ∧ OwnL w w0.heap.size v r.1 ∧ Below w0.heap.size w0 w
def ScanRel (l : List UInt8) (res : List (List UInt8) × Nat) (w0 : World) (out at_ : Value) (w : World) : Prop :=
  ∃ (acc : List (List UInt8)) (k f : Nat), at_ = .int .i64 (k : Int) ∧ acc.length ≤ k ∧ k ≤ l.length ∧ l.length < k + f ∧ scanN l f k acc = res ∧ OwnL w w0.heap.size out acc ∧ Below w0.heap.size w0 w
end
end Go.Proofs.YtacjiocffbgkkaaGreat
