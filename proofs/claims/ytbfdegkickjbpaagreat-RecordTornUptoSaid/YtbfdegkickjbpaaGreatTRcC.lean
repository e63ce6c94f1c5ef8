/-
 RcC
-/
import Derived.Test.YtbfdegkickjbpaaGreatTRcB
namespace Go.Proofs.YtbfdegkickjbpaaGreat
open Go.RowKit Go.Lib Go.IntWalk Go.Sort Go.Shelf
def ix11 (n : Int) : Bool := decide (0 ≤ n ∧ n ≤ 11)
def ixF (l : List Int) : Bool := l.all ix11 && decide (l.length ≤ 12)
theorem allP_snoc' {α : Type} {p : α → Bool} {xs : List α} {k : Nat} (hk : k < xs.length) (h : (xs.take k).all p = true) (h2 : p xs[k] = true) : (xs.take (k + 1)).all p = true := by
 rw [List.take_succ_eq_append_getElem hk, List.all_append, h]; simp [h2]
theorem allP_no {α : Type} {p : α → Bool} {xs : List α} {k : Nat} (hk : k < xs.length) (h : p xs[k] = false) : xs.all p = false := by
 rw [← Bool.not_eq_true, List.all_eq_true]
 intro hh
 have := hh xs[k] (List.getElem_mem hk)
 rw [h] at this
 cases this
set_option maxRecDepth 100000 in
theorem ix1_any (n : Int) (w : World) : Calls Tryz.prog 240 #[.int .i64 n] w fun e w' => e = .returned (.bool (!ix11 n)) ∧ w' = w := by
 have K := within_any n 0 11 w
 rw [show decide (0 ≤ n ∧ n ≤ 11) = ix11 n from rfl] at K
 go_enter Tryz.func240, Tryz.ntmps240
 go_wp2_with fail
 (with_reducible refine K.mono ?_)
 rintro _ w1 ⟨rfl, hw⟩
 rw [hw]
 clear hw w1 K
 go_wp2_with fail
 go_ret
 exact ⟨rfl, rfl⟩
set_option maxRecDepth 100000 in
set_option maxHeartbeats 2000000 in
theorem ixIndex_any (v : Value) (xs : List Int) (w : World) (hv : RdE 1 intE w (· < w.heap.size) v xs) :
  Calls Tryz.prog 247 #[v, .func (.func 240) #[] #[]] w fun e w' => ∃ m : Int, e = .returned (.int .i64 m) ∧ (decide (0 ≤ m)) = (!xs.all ix11) ∧ w' = w := by
 obtain ⟨A, c, rfl, hc1, hc2, hc3⟩ := Rd.open_ (show Rd w _ 1 v xs.length (xs.flatMap intE) from hv)
 unfold maxLen at hc2
 have HV := Lib.hid hv
 clear hv hc3
 go_enter Tryz.func247, Tryz.ntmps247
 go_wp2_with fail
 go_loopw [8] (fun i wr => ∃ k : Nat, i = .int .i64 (k : Int) ∧ k ≤ xs.length ∧ Hid ((xs.take k).all ix11 = true) ∧ wr = w) (fun i _ => xs.length - (intOf i).toNat)
 case atStart => exact ⟨0, rfl, Nat.zero_le _, Lib.hid rfl, rfl⟩
 case round =>
  obtain ⟨k, rfl, hk, HA, hw⟩ := hrel
  rw [hw]
  clear hw
  by_cases hlt : k < xs.length
  case neg =>
   have hlt2 : ¬ (k : Int) < (xs.length : Int) := by omega
   have HE : Hid (xs.all ix11 = true) := Lib.hid (by have h := HA.out; rw [List.take_of_length_le (by omega)] at h; exact h)
   go_wp2_with fail
   go_ret
   exact ⟨-1, rfl, by rw [HE.out]; rfl, rfl⟩
  case pos =>
   have hlt2 : (k : Int) < (xs.length : Int) := by omega
   obtain ⟨b, off, rfl, hF, hcl⟩ := RdE.at_ (K := 1) (enc := intE) (fun _ => rfl) (by omega) HV.out hlt
   have hcx := hcl k hlt 0 _ (by decide) rfl
   rw [Nat.mul_one, Nat.add_zero] at hcx
   have hs := fun h => allP_snoc' (p := ix11) hlt h
   have hn := allP_no (p := ix11) hlt
   obtain ⟨x, hx⟩ : ∃ x, x = xs[k] := ⟨_, rfl⟩
   rw [← hx] at hcx hn
   have hs2 : ix11 x = true → (xs.take (k + 1)).all ix11 = true := fun h => hs HA.out (by rw [← hx]; exact h)
   have HS := Lib.hid hs2
   have HN := Lib.hid hn
   have K := ix1_any x w
   obtain ⟨v, hv⟩ : ∃ bo, bo = ix11 x := ⟨_, rfl⟩
   rw [← hv] at K HS HN
   clear hcl hF hs hn hs2 hx hv
   go_wp2_with fail
   (with_reducible refine K.mono ?_)
   rintro _ w1 ⟨rfl, hw⟩
   rw [hw]
   clear hw w1 K
   cases v
   case false =>
    go_wp2_with fail
    go_ret
    exact ⟨k, rfl, by rw [HN.out (by first | rfl | trivial)]; simp, rfl⟩
   case true =>
    have HA2 : Hid ((xs.take (k + 1)).all ix11 = true) := Lib.hid (HS.out (by first | rfl | trivial))
    go_wp2_with fail
    go_roundw
    case rel => exact ⟨k + 1, by go_num, hlt, HA2, by first | trivial | rfl⟩
    case measure => simp [intOf]; omega
set_option maxRecDepth 100000 in
theorem ixContains_any (v : Value) (xs : List Int) (w : World) (hv : RdE 1 intE w (· < w.heap.size) v xs) :
  Calls Tryz.prog 239 #[v, .func (.func 240) #[] #[]] w fun e w' => e = .returned (.bool (!xs.all ix11)) ∧ w' = w := by
 have K := ixIndex_any v xs w hv
 go_enter Tryz.func239, Tryz.ntmps239
 go_wp2_with fail
 (with_reducible refine K.mono ?_)
 rintro _ w2 ⟨m, rfl, hm, hw⟩
 rw [hw]
 have HM := Lib.hid hm
 clear hm hw w2 K
 go_wp2_with fail
 all_goals
  go_ret
  exact ⟨ret_bool (by rw [← HM.out]), rfl⟩
set_option maxRecDepth 100000 in
theorem indexes_any (v : Value) (xs : List Int) (w : World) (hv : RdE 1 intE w (· < w.heap.size) v xs) :
  Calls Tryz.prog 194 #[v] w fun e w' => e = .returned (.bool (ixF xs)) ∧ w' = w := by
 have K := ixContains_any v xs w hv
 obtain ⟨A, c, rfl, hc1, hc2, hc3⟩ := Rd.open_ (show Rd w _ 1 v xs.length (xs.flatMap intE) from hv)
 have HE : Hid (ixF xs = (xs.all ix11 && decide (xs.length ≤ 12))) := Lib.hid rfl
 generalize ixF xs = r at *
 generalize xs.all ix11 = b at *
 clear hv hc3 hc2 hc1
 by_cases h : xs.length ≤ 12
 ·have hz : (xs.length : Int) ≤ 12 := by omega
  have HR : Hid (r = b) := Lib.hid (by rw [HE.out]; simp [h])
  clear HE
  go_enter Tryz.func194, Tryz.ntmps194
  go_wp2_with fail
  (with_reducible refine K.mono ?_)
  rintro _ w2 ⟨rfl, hw⟩
  rw [hw]
  clear hw w2 K
  cases b
  ·go_wp2_with fail
   go_ret
   exact ⟨ret_bool HR.out.symm, rfl⟩
  ·go_wp2_with fail
   go_ret
   exact ⟨ret_bool HR.out.symm, rfl⟩
 ·have hz : ¬ (xs.length : Int) ≤ 12 := by omega
  have HR : Hid (r = false) := Lib.hid (by rw [HE.out]; simp [h])
  clear HE K
  go_enter Tryz.func194, Tryz.ntmps194
  go_wp2_with fail
  go_ret
  exact ⟨ret_bool HR.out.symm, rfl⟩
/-- a change as it lies -/
structure Chn where
 kind : Int
 name : ByteArray
 to : ByteArray
 cname : ByteArray
 ckind : Int
 cnull : Bool
 def_ : Val
def Chn.enc (x : Chn) : List Value := [.int .i64 x.kind, .string x.name, .string x.to, .string x.cname, .int .i64 x.ckind, .bool x.cnull, .int .i64 x.def_.kind, .int .i64 x.def_.int, .string x.def_.text]
def emW (s : ByteArray) : Bool := s.toList.isEmpty || nmB s
def Chn.ok (x : Chn) : Bool := emW x.name && (emW x.to && (emW x.cname && (decide (1 ≤ x.kind ∧ x.kind ≤ 4) && (decide (0 ≤ x.ckind ∧ x.ckind ≤ 3) && validV x.def_))))
theorem em_eq {S : ByteArray} (h : S.toList.isEmpty = true) : emW S = true := by unfold emW; rw [h]; rfl
theorem em_ne {S : ByteArray} (h : S.toList.isEmpty = false) : emW S = nmB S := by unfold emW; rw [h]; rfl
set_option maxRecDepth 1000000 in
set_option maxHeartbeats 8000000 in
theorem storedChange_any (x1 : Int) (x2 x3 x4 : ByteArray) (x5 : Int) (x6 : Bool) (x7 x8 : Int) (x9 : ByteArray) (w : World) (hs : x9.size ≤ maxLen) :
  Calls Tryz.prog 131 #[.agg #[.int .i64 x1, .string x2, .string x3, .string x4, .int .i64 x5, .bool x6, .int .i64 x7, .int .i64 x8, .string x9]] w fun e w' => e = .returned (.bool (Chn.ok ⟨x1, x2, x3, x4, x5, x6, ⟨x7, x8, x9⟩⟩)) ∧ Below w.heap.size w w' := by
 obtain ⟨W0, hW0⟩ : ∃ W, W = w.alloc (.cells #[.int .i64 x1, .string x2, .string x3, .string x4, .int .i64 x5, .bool x6, .int .i64 x7, .int .i64 x8, .string x9] 81) := ⟨_, rfl⟩
 obtain ⟨W, hW⟩ : ∃ W, W = W0.alloc (.cells #[.string x2, .string x3, .string x4] 9) := ⟨_, rfl⟩
 have hb0 : Below w.heap.size w W0 := by rw [hW0]; exact Below.of_alloc _
 have hb1 : Below W0.heap.size W0 W := by rw [hW]; exact Below.of_alloc _
 have hT0 : W0.heap[w.heap.size]? = some (.cells #[.int .i64 x1, .string x2, .string x3, .string x4, .int .i64 x5, .bool x6, .int .i64 x7, .int .i64 x8, .string x9] 81 (0, 0)) := by rw [hW0]; exact heap_alloc_new _ _
 have hz0 : W0.heap.size = w.heap.size + 1 := by rw [hW0]; simp
 have hN : W.heap[w.heap.size + 1]? = some (.cells #[.string x2, .string x3, .string x4] 9 (0, 0)) := by rw [hW, ← hz0]; exact heap_alloc_new _ _
 have hz1 : W.heap.size = w.heap.size + 2 := by rw [hW]; simp [hz0]
 have HT := Lib.hid ((hb1.block w.heap.size (by omega)).trans hT0)
 have HN := Lib.hid hN
 have HZ := Lib.hid hz1
 have HBW : Hid (Below w.heap.size w W) := Lib.hid (hb0.trans (hb1.mono hb0.size))
 obtain ⟨rs, hrs⟩ : ∃ r, r = Chn.ok ⟨x1, x2, x3, x4, x5, x6, ⟨x7, x8, x9⟩⟩ := ⟨_, rfl⟩
 rw [← hrs]
 have HR : Hid (rs = (emW x2 && (emW x3 && (emW x4 && (decide (1 ≤ x1 ∧ x1 ≤ 4) && (decide (0 ≤ x5 ∧ x5 ≤ 3) && validV ⟨x7, x8, x9⟩)))))) := Lib.hid hrs
 clear hrs hb0 hb1 hT0 hN
 go_enter Tryz.func131, Tryz.ntmps131
 go_wp2_with fail
 rw [← hW0, ← hW]
 clear hW0 hW hz0 hz1
 go_loopw [14] (fun i wr => ∃ k : Nat, i = .int .i64 (k : Int) ∧ k ≤ 3 ∧ Hid ((1 ≤ k → emW x2 = true) ∧ (2 ≤ k → emW x3 = true) ∧ (3 ≤ k → emW x4 = true)) ∧ Hid (Below W.heap.size W wr)) (fun i _ => 3 - (intOf i).toNat)
 case atStart => exact ⟨0, rfl, by omega, Lib.hid ⟨fun h => absurd h (by decide), fun h => absurd h (by decide), fun h => absurd h (by decide)⟩, Lib.hid (Below.refl _ _)⟩
 case round =>
  obtain ⟨k, rfl, hk, HG, HB⟩ := hrel
  obtain ⟨wi, rfl⟩ : ∃ wi : World, wi = wr := ⟨_, rfl⟩
  have hNi := (HB.out.block (w.heap.size + 1) (by have := HZ.out; omega)).trans HN.out
  obtain rfl | rfl | rfl | rfl : k = 0 ∨ k = 1 ∨ k = 2 ∨ k = 3 := by omega
  ·have g : wi.cell? ⟨w.heap.size + 1, 0, none⟩ = some (.string x2) := cell_of_row wi _ 0 _ _ _ hNi
   clear hNi
   cases hem : x2.toList.isEmpty
   case true =>
    have HE : Hid ((1 ≤ 1 → emW x2 = true) ∧ (2 ≤ 1 → emW x3 = true) ∧ (3 ≤ 1 → emW x4 = true)) := Lib.hid ⟨fun _ => em_eq hem, fun h => absurd h (by decide), fun h => absurd h (by decide)⟩
    go_wp2_with fail
    go_roundw
    case rel => exact ⟨1, by go_num, by omega, HE, HB⟩
    case measure => simp [intOf]
   case false =>
    have hme := em_ne hem
    have K := word_any x2 wi
    obtain ⟨v, hv⟩ : ∃ bo, bo = nmB x2 := ⟨_, rfl⟩
    rw [← hv] at hme K
    have HME := Lib.hid hme
    clear hme hv
    go_wp2_with fail
    (with_reducible refine K.mono ?_)
    rintro _ z1 ⟨rfl, hz⟩
    have HB1 : Hid (Below W.heap.size W z1) := Lib.hid (HB.out.trans (hz.mono HB.out.size))
    clear hz K g
    cases v
    case false =>
     have HF : Hid (rs = false) := Lib.hid (by rw [HR.out, HME.out]; simp)
     go_wp2_with fail
     go_ret
     exact ⟨by rw [HF.out]; rfl, HBW.out.trans (HB1.out.mono HBW.out.size)⟩
    case true =>
     have HE : Hid ((1 ≤ 1 → emW x2 = true) ∧ (2 ≤ 1 → emW x3 = true) ∧ (3 ≤ 1 → emW x4 = true)) := Lib.hid ⟨fun _ => HME.out, fun h => absurd h (by decide), fun h => absurd h (by decide)⟩
     go_wp2_with fail
     go_roundw
     case rel => exact ⟨1, by go_num, by omega, HE, HB1⟩
     case measure => simp [intOf]
  ·have g : wi.cell? ⟨w.heap.size + 1, 1, none⟩ = some (.string x3) := cell_of_row wi _ 1 _ _ _ hNi
   clear hNi
   cases hem : x3.toList.isEmpty
   case true =>
    have HE : Hid ((1 ≤ 2 → emW x2 = true) ∧ (2 ≤ 2 → emW x3 = true) ∧ (3 ≤ 2 → emW x4 = true)) := Lib.hid ⟨fun _ => HG.out.1 (by omega), fun _ => em_eq hem, fun h => absurd h (by decide)⟩
    go_wp2_with fail
    go_roundw
    case rel => exact ⟨2, by go_num, by omega, HE, HB⟩
    case measure => simp [intOf]
   case false =>
    have hme := em_ne hem
    have K := word_any x3 wi
    obtain ⟨v, hv⟩ : ∃ bo, bo = nmB x3 := ⟨_, rfl⟩
    rw [← hv] at hme K
    have HME := Lib.hid hme
    clear hme hv
    go_wp2_with fail
    (with_reducible refine K.mono ?_)
    rintro _ z1 ⟨rfl, hz⟩
    have HB1 : Hid (Below W.heap.size W z1) := Lib.hid (HB.out.trans (hz.mono HB.out.size))
    clear hz K g
    cases v
    case false =>
     have HF : Hid (rs = false) := Lib.hid (by rw [HR.out, HME.out]; simp)
     go_wp2_with fail
     go_ret
     exact ⟨by rw [HF.out]; rfl, HBW.out.trans (HB1.out.mono HBW.out.size)⟩
    case true =>
     have HE : Hid ((1 ≤ 2 → emW x2 = true) ∧ (2 ≤ 2 → emW x3 = true) ∧ (3 ≤ 2 → emW x4 = true)) := Lib.hid ⟨fun _ => HG.out.1 (by omega), fun _ => HME.out, fun h => absurd h (by decide)⟩
     go_wp2_with fail
     go_roundw
     case rel => exact ⟨2, by go_num, by omega, HE, HB1⟩
     case measure => simp [intOf]
  ·have g : wi.cell? ⟨w.heap.size + 1, 2, none⟩ = some (.string x4) := cell_of_row wi _ 2 _ _ _ hNi
   clear hNi
   cases hem : x4.toList.isEmpty
   case true =>
    have HE : Hid ((1 ≤ 3 → emW x2 = true) ∧ (2 ≤ 3 → emW x3 = true) ∧ (3 ≤ 3 → emW x4 = true)) := Lib.hid ⟨fun _ => HG.out.1 (by omega), fun _ => HG.out.2.1 (by omega), fun _ => em_eq hem⟩
    go_wp2_with fail
    go_roundw
    case rel => exact ⟨3, by go_num, by omega, HE, HB⟩
    case measure => simp [intOf]
   case false =>
    have hme := em_ne hem
    have K := word_any x4 wi
    obtain ⟨v, hv⟩ : ∃ bo, bo = nmB x4 := ⟨_, rfl⟩
    rw [← hv] at hme K
    have HME := Lib.hid hme
    clear hme hv
    go_wp2_with fail
    (with_reducible refine K.mono ?_)
    rintro _ z1 ⟨rfl, hz⟩
    have HB1 : Hid (Below W.heap.size W z1) := Lib.hid (HB.out.trans (hz.mono HB.out.size))
    clear hz K g
    cases v
    case false =>
     have HF : Hid (rs = false) := Lib.hid (by rw [HR.out, HME.out]; simp)
     go_wp2_with fail
     go_ret
     exact ⟨by rw [HF.out]; rfl, HBW.out.trans (HB1.out.mono HBW.out.size)⟩
    case true =>
     have HE : Hid ((1 ≤ 3 → emW x2 = true) ∧ (2 ≤ 3 → emW x3 = true) ∧ (3 ≤ 3 → emW x4 = true)) := Lib.hid ⟨fun _ => HG.out.1 (by omega), fun _ => HG.out.2.1 (by omega), fun _ => HME.out⟩
     go_wp2_with fail
     go_roundw
     case rel => exact ⟨3, by go_num, by omega, HE, HB1⟩
     case measure => simp [intOf]
  ·have hTi := (HB.out.block w.heap.size (by have := HZ.out; omega)).trans HT.out
   have c0 : wi.cell? ⟨w.heap.size, 0, none⟩ = some (.int .i64 x1) := cell_of_row wi _ 0 _ _ _ hTi
   have c1 : wi.cell? ⟨w.heap.size, 1, none⟩ = some (.string x2) := cell_of_row wi _ 1 _ _ _ hTi
   have c2 : wi.cell? ⟨w.heap.size, 2, none⟩ = some (.string x3) := cell_of_row wi _ 2 _ _ _ hTi
   have c3 : wi.cell? ⟨w.heap.size, 3, none⟩ = some (.string x4) := cell_of_row wi _ 3 _ _ _ hTi
   have c4 : wi.cell? ⟨w.heap.size, 4, none⟩ = some (.int .i64 x5) := cell_of_row wi _ 4 _ _ _ hTi
   have c5 : wi.cell? ⟨w.heap.size, 5, none⟩ = some (.bool x6) := cell_of_row wi _ 5 _ _ _ hTi
   have c6 : wi.cell? ⟨w.heap.size, 6, none⟩ = some (.int .i64 x7) := cell_of_row wi _ 6 _ _ _ hTi
   have c7 : wi.cell? ⟨w.heap.size, 7, none⟩ = some (.int .i64 x8) := cell_of_row wi _ 7 _ _ _ hTi
   have c8 : wi.cell? ⟨w.heap.size, 8, none⟩ = some (.string x9) := cell_of_row wi _ 8 _ _ _ hTi
   have HR2 : Hid (rs = (decide (1 ≤ x1 ∧ x1 ≤ 4) && (decide (0 ≤ x5 ∧ x5 ≤ 3) && validV ⟨x7, x8, x9⟩))) := Lib.hid (by rw [HR.out, HG.out.1 (by omega), HG.out.2.1 (by omega), HG.out.2.2 (by omega)]; rfl)
   have K1 := within_any x1 1 4 wi
   have K2 := within_any x5 0 3 wi
   have K3 := validValue_any x7 x8 x9 wi hs
   obtain ⟨v1, hv1⟩ : ∃ bo, bo = decide (1 ≤ x1 ∧ x1 ≤ 4) := ⟨_, rfl⟩
   obtain ⟨v2, hv2⟩ : ∃ bo, bo = decide (0 ≤ x5 ∧ x5 ≤ 3) := ⟨_, rfl⟩
   obtain ⟨v3, hv3⟩ : ∃ bo, bo = validV ⟨x7, x8, x9⟩ := ⟨_, rfl⟩
   rw [← hv1] at K1 HR2
   rw [← hv2] at K2 HR2
   rw [← hv3] at K3 HR2
   have HBF : Hid (Below w.heap.size w wi) := Lib.hid (HBW.out.trans (HB.out.mono HBW.out.size))
   clear hTi hNi hv1 hv2 hv3
   go_wp2_with fail
   (with_reducible refine K1.mono ?_)
   rintro _ z1 ⟨rfl, hz⟩
   rw [hz]
   clear hz z1 K1
   cases v1
   case false =>
    go_wp2_with fail
    go_ret
    exact ⟨by rw [HR2.out]; rfl, HBF.out⟩
   case true =>
    go_wp2_with fail
    (with_reducible refine K2.mono ?_)
    rintro _ z1 ⟨rfl, hz⟩
    rw [hz]
    clear hz z1 K2
    cases v2
    case false =>
     go_wp2_with fail
     go_ret
     exact ⟨by rw [HR2.out]; rfl, HBF.out⟩
    case true =>
     go_wp2_with fail
     (with_reducible refine K3.mono ?_)
     rintro _ z1 ⟨rfl, hz⟩
     have HBG : Hid (Below w.heap.size w z1) := Lib.hid (by rw [← hz]; exact HBF.out.alloc HBF.out.size _)
     clear hz K3
     go_wp2_with fail
     go_ret
     exact ⟨by rw [HR2.out]; rfl, HBG.out⟩
end Go.Proofs.YtbfdegkickjbpaaGreat
