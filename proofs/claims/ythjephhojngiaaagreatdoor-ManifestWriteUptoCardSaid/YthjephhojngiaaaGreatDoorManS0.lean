/-
  Manifests: the name of a file's number, of the program and of the reference.
-/
import Derived.Test.YthjephhojngiaaaGreatDoorManI
import Derived.Test.YthjephhojngiaaaGreatDoorShelf
namespace Go.Proofs.YthjephhojngiaaaGreatDoor
open Go.RowKit Go.Lib Go.IntWalk

/-- the library's table of powers reads as it should -/
structure EnvT (w : World) : Prop where
  tab : Lib.TabIs Tryz.prog w "internal/strconv.uint64pow10" .u64 Lib.pow10Tab
theorem EnvT.below {w w' : World} (h : EnvT w) (hb : Below w.heap.size w w') : EnvT w' := by
  have h := h.tab
  refine ⟨?_⟩
  unfold Lib.TabIs World.var? at *
  cases hg : Tryz.prog.globalNamed "internal/strconv.uint64pow10" with
  | none => simp [hg] at h
  | some g =>
    simp only [hg, Option.bind_some] at h ⊢
    have hlt : g < w.heap.size := by
      rcases Nat.lt_or_ge g w.heap.size with h' | h'
      · exact h'
      · rw [Array.getElem?_eq_none h'] at h; simp at h
    rw [hb.block g hlt]; exact h
theorem below_growT {w : World} (k : Nat) (os : Array Obj) : Below w.heap.size w (Sort.grow (w.drewN k) os) := by
  refine ⟨rfl, rfl, rfl, ?_, fun b hb => ?_⟩
  · show w.heap.size ≤ (w.heap ++ os).size
    rw [Array.size_append]; omega
  · show (w.heap ++ os)[b]? = w.heap[b]?
    exact Array.getElem?_append_left hb
def dg (n : Nat) : UInt8 := UInt8.ofNat (48 + n % 10)
/-- the last k digits of a number -/
def digs : Nat → Nat → List UInt8
  | 0, _ => []
  | k + 1, n => digs k (n / 10) ++ [dg n]
theorem digs_len : ∀ k n, (digs k n).length = k
  | 0, _ => rfl
  | k + 1, n => by rw [digs, List.length_append, digs_len k]; rfl
/-- the name of a file's number -/
def nameF (n : Int) : List UInt8 := if 1 ≤ n ∧ n ≤ 999999 then 102 :: digs 6 n.toNat else []
theorem digs_dec : ∀ (k n : Nat), n < 10 ^ k → 1 ≤ k → ∃ z, digs k n = List.replicate z 48 ++ decDigits n ∧ z + (decDigits n).length = k
  | 0, _, _, h => absurd h (by omega)
  | k + 1, n, hn, _ => by
    by_cases h : n < 10
    · have e : decDigits n = [dg n] := by rw [decDigits, dif_pos h, dg, Nat.mod_eq_of_lt h]
      refine ⟨k, ?_, by rw [e]; rfl⟩
      rw [e, digs, show n / 10 = 0 by omega]
      congr 1
      have : ∀ k, digs k 0 = List.replicate k 48 := by
        intro k
        induction k with
        | zero => rfl
        | succ k ih => rw [digs, Nat.zero_div, ih, List.replicate_succ']; rfl
      exact this k
    · have hk : 1 ≤ k := by
        rcases k with _ | k
        · omega
        · omega
      obtain ⟨z, h1, h2⟩ := digs_dec k (n / 10) (by rw [Nat.pow_succ] at hn; omega) hk
      refine ⟨z, ?_, ?_⟩
      · rw [digs, h1]
        conv => rhs; rw [decDigits, dif_neg h]
        rw [List.append_assoc]; rfl
      · rw [decDigits, dif_neg h, List.length_append]
        simp only [List.length_cons, List.length_nil]
        omega
theorem repeatL_one' (z : Nat) : Lib.repeatL [48] z = List.replicate z 48 := by
  induction z with
  | zero => rfl
  | succ z ih => rw [Lib.repeatL, ih]; rfl
theorem rdB_byte' (w : World) (H : Nat) (hH : w.heap.size = H) (x : UInt8) (y : Int) (hy : y = (x.toNat : Int)) : RdB (w.alloc (.cells #[.int .u8 y] 5)) (· = H) (.slice (some ⟨H, 0, none⟩) 1 1) [x] := by
  subst hy
  exact rdB_new w H hH [x] 1 rfl (by omega)
theorem app_strB (a b : List UInt8) : strB a ++ strB b = strB (a ++ b) := by
  apply ByteArray.ext
  rw [ByteArray.data_append]
  simp [strB]
set_option maxRecDepth 100000 in
set_option maxHeartbeats 2000000 in
theorem mname_any (n : Int) (w : World) (hE : EnvT w) (n1 : -9223372036854775808 ≤ n) (n2 : n ≤ 9223372036854775807) :
    Calls Tryz.prog 34 #[.int .i64 n] w fun e w' => e = .returned (.string (strB (nameF n))) ∧ Below w.heap.size w w' := by
  by_cases h1 : n < 1
  · have HN := Lib.hid (show nameF n = [] by unfold nameF; rw [if_neg (by omega)])
    go_enter Tryz.func34, Tryz.ntmps34
    go_wp2_with fail
    go_ret
    exact ⟨by rw [HN.out]; rfl, Below.refl _ _⟩
  by_cases h2 : 999999 < n
  · have HN := Lib.hid (show nameF n = [] by unfold nameF; rw [if_neg (by omega)])
    go_enter Tryz.func34, Tryz.ntmps34
    go_wp2_with fail
    go_ret
    exact ⟨by rw [HN.out]; rfl, Below.refl _ _⟩
  obtain ⟨z, hz1, hz2⟩ := digs_dec 6 n.toNat (by omega) (by omega)
  have HN := Lib.hid (show nameF n = [102] ++ List.replicate z 48 ++ decDigits n.toNat by unfold nameF; rw [if_pos (by omega), hz1]; simp)
  have CI := Lib.hid (Tryz.strconv_Itoa n n1 n2 w hE.tab)
  have hit : Lib.itoa n = decDigits n.toNat := by unfold Lib.itoa; rw [if_neg (by omega)]
  rw [hit] at CI
  clear hz1 hit
  generalize decDigits n.toNat = ds at *
  have hds : (strB ds).size = ds.length := strB_size ds
  have CR := fun W : World => Lib.hid (Tryz.strings_Repeat ⟨#[48]⟩ z W (by omega) (by rw [show (⟨#[48]⟩ : ByteArray).size = 1 from rfl]; omega))
  rw [show (⟨#[48]⟩ : ByteArray).data.toList = [48] from rfl, repeatL_one'] at CR
  have hsub : (6 : Int) - (ds.length : Int) = (z : Int) := by omega
  have HSUB := Lib.hid hsub
  go_enter Tryz.func34, Tryz.ntmps34
  go_wp2_with fail
  (with_reducible refine CI.out.mono ?_)
  rintro e w1 ⟨rfl, k, os, hw1⟩
  have hb1 : Below w.heap.size w w1 := by rw [hw1]; exact below_growT k os
  rw [show (⟨ds.toArray⟩ : ByteArray) = strB ds from rfl]
  clear hw1 CI
  generalize hS : strB ds = S at *
  have HS := Lib.hid hS
  clear hS hsub
  go_wp2_with fail
  rw [HSUB.out]
  (with_reducible refine (CR w1).out.mono ?_)
  rintro e w2 ⟨rfl, hb2⟩
  go_wp2_with fail
  go_ret
  refine ⟨?_, hb1.trans (hb2.mono hb1.size)⟩
  rw [HN.out, ← app_strB, ← app_strB, HS.out]
  rfl
end Go.Proofs.YthjephhojngiaaaGreatDoor
