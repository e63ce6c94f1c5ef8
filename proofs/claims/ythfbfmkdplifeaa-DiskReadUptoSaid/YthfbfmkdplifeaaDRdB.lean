/-
 RdB
-/
import Derived.Test.YthfbfmkdplifeaaDRdA
namespace Go.Proofs.Ythfbfmkdplifeaa
open Go.RowKit Go.Lib Go.IntWalk
/-- a row of n bytes, whichever they are -/
def SomeB (w : World) (X n : Nat) : Prop := ∃ cs, w.heap[X]? = some (.cells cs 5 (0, 0)) ∧ ∀ k, k < n → ∃ u, cs[k]? = some (.int .u8 u)
theorem SomeB.set {w : World} {X n : Nat} (h : SomeB w X n) (k : Nat) (u : Int) : SomeB (w.setCell ⟨X, k, none⟩ (.int .u8 u)) X n := by
 obtain ⟨cs, h1, h2⟩ := h
 refine ⟨_, heap_setCell_same w X k cs _ _ h1, fun j hj => ?_⟩
 obtain ⟨u', hu⟩ := h2 j hj
 have hlt := (Array.getElem?_eq_some_iff.1 hu).1
 by_cases e : k = j
 ·subst e; exact ⟨u, by simp [hlt]⟩
 ·exact ⟨u', by simp [e, hu]⟩
theorem SomeB.of_own {w : World} {base n : Nat} {A : Option Addr} {c : Nat} {l : List UInt8} (h : w.ownsRow base 5 1 (.slice A n c) n (bv l)) (hn : 0 < n) : ∃ X, A = some ⟨X, 0, none⟩ ∧ base ≤ X ∧ X < w.heap.size ∧ SomeB w X n := by
 have hl : (bv l).length = n * 1 := h.1
 rw [bv_length] at hl
 rcases h.2 with ⟨e, h0⟩ | ⟨g, cap, cur, e, hb, hg, hnc, hcm, hcs, htake⟩
 ·omega
 ·injection e with e1 e2 e3
  refine ⟨g, e1, hb, (Array.getElem?_eq_some_iff.1 hg).1, cur, hg, fun k hk => ?_⟩
  have hk' : k < l.length := by omega
  have := bv_get hk'
  rw [← htake, List.getElem?_take] at this
  split at this
  ·exact ⟨_, by rw [← Array.getElem?_toList]; exact this⟩
  ·cases this
theorem SomeB.chg {S : Nat → Prop} {w w' : World} {X n : Nat} (h : SomeB w X n) (hc : Chg S w w') (hs : ¬ S X) : SomeB w' X n := by
 obtain ⟨cs, h1, h2⟩ := h
 exact ⟨cs, (hc.block X (Array.getElem?_eq_some_iff.1 h1).1 hs).trans h1, h2⟩
/-- the copy's bytes are stored -/
theorem mine_done {w3 w4 : World} {m n : Nat} {v4 : Value} {l : List UInt8} {c0 c1 c2 c3 c4 c5 : Value} (hr : w3.heap[m]? = some (.cells #[c0, c1, c2, c3, c4, c5] 35 (0, 0))) (hb : Below (m + 1) w3 w4)
  (hO : w4.ownsRow (m + 1) 5 1 v4 n (bv l)) (hv : v4.ownBlock = (Value.slice (some ⟨m + 1, 0, none⟩) 0 0).ownBlock ∨ v4.ownBlock = some w3.heap.size) :
  ∃ X c, v4 = .slice (some ⟨X, 0, none⟩) n c ∧ m + 1 ≤ X ∧ X < w4.heap.size ∧ n ≤ c ∧ c ≤ maxLen ∧ w4.frozen? ⟨m, 3, none⟩ = false ∧ w4.cell? ⟨m, 3, none⟩ = some c3 ∧
   (∀ u, (w4.setCell ⟨m, 3, none⟩ u).heap[m]? = some (.cells #[c0, c1, c2, u, c4, c5] 35 (0, 0))) ∧ (∃ cs, w4.heap[X]? = some (.cells cs 5 (0, 0)) ∧ SomeB w4 X n) := by
 have h4 : w4.heap[m]? = some (.cells #[c0, c1, c2, c3, c4, c5] 35 (0, 0)) := (hb.block m (by omega)).trans hr
 have hl : (bv l).length = n * 1 := hO.1
 rw [bv_length] at hl
 rcases hO.2 with ⟨e, h0⟩ | ⟨g, cap, cur, e, hg0, hg, hnc, hcm, hcs, htake⟩
 ·subst e
  rcases hv with h | h <;> cases h
 ·subst e
  refine ⟨g, cap, rfl, hg0, (Array.getElem?_eq_some_iff.1 hg).1, hnc, hcm, frozen_of_row w4 m 3 _ _ h4, cell_of_row w4 m 3 _ _ _ h4, fun u => by have := heap_setCell_same w4 m 3 _ _ u h4; simpa using this, cur, hg, cur, hg, fun k hk => ?_⟩
  have hk' : k < l.length := by omega
  have := bv_get hk'
  rw [← htake, List.getElem?_take] at this
  split at this
  ·exact ⟨_, by rw [← Array.getElem?_toList]; exact this⟩
  ·cases this
set_option maxRecDepth 100000 in
set_option maxHeartbeats 16000000 in
theorem lawRead_any (vf vo : Value) (fnm : List UInt8) (fl : FL) (los : List LOp) (w : World) (hf : @FlsRd ⟨⟨0⟩⟩ w.heap.size w vf fl) (ho : InOps w.heap.size w vo los) (hl : flsum fl + fl.length + losum los + los.length ≤ 1048576) (hnl : ∀ p ∈ fl, p.1.length ≤ maxLen) (hno : ∀ o ∈ los, o.name.length ≤ maxLen ∧ o.to.length ≤ maxLen) (hfn : fnm.length ≤ maxLen) :
  Calls Try.prog 3 #[vf, vo, .string (strB fnm)] w fun e w' => e = .returned (.bool true) ∧ Below w.heap.size w w' := by
 obtain ⟨i0, hi, hz0, hz1, hz2⟩ := info_parts infoB
 have hB0 : w.heap.size ≤ w.heap.size := Nat.le_refl _
 generalize hBe : w.heap.size = B at hB0 hf ho
 have HBE := Lib.hid hBe
 have hB0 : B ≤ w.heap.size := by omega
 clear hBe
 have hl1 : flsum fl ≤ 1099511627776 := by omega
 have hl2 : fl.length ≤ 1099511627776 := by omega
 have HNO := Lib.hid hno
 have C1 := Lib.hid (@dload_any ⟨⟨0⟩⟩ B vf fl w hB0 hf hl1 hl2 hnl)
 have HC2 := Lib.hid (fun (w1 : World) (h : Below w.heap.size w w1) => @rload_any ⟨⟨0⟩⟩ B vf fl w1 (by have := h.size; omega) (hf.below hB0 h) hl1 hl2 hnl)
 have HCL := Lib.hid (fun (w1 : World) (h : Below w.heap.size w w1) => @dlarge_any ⟨⟨0⟩⟩ B vf vo fl los w1 (by have := h.size; omega) (hf.below hB0 h) (ho.below (h.mono hB0)) (by omega))
 clear hnl hno
 generalize hres : loadF fl (fun _ => none) = res at *
 clear hres
 obtain ⟨Ao, co, rfl, b1, b2, b3⟩ := ho.open_
 have HB3 := Lib.hid b3
 unfold maxLen at b2
 clear b3
 go_enter Try.func3, Try.ntmps3
 go_wp2_with fail
 (with_reducible refine C1.out.mono ?_)
 rintro e w1 ⟨hb1, hR1⟩
 clear C1
 have hs1 := hb1.size
 cases res with
 | none =>
  obtain rfl : e = .returned (.pointer none) := hR1
  go_wp2_with fail
  (with_reducible refine (HC2.out w1 hb1).mono ?_)
  rintro e w2 ⟨hb2, hR2⟩
  clear HC2
  have hs2 := hb2.size
  obtain rfl : e = .returned (.tuple #[.agg #[.slice none 0 0, .slice none 0 0], .bool false]) := hR2
  have hb3 : Below w.heap.size w (w2.alloc (.cells #[.slice none 0 0, .slice none 0 0] 28)) := (hb1.trans (hb2.mono hs1)).trans ((Below.of_alloc _).mono (by omega))
  go_wp2_with fail
  (with_reducible refine (dworks_any _).mono ?_)
  rintro e w3 ⟨rfl, hb4⟩
  go_wp2_with fail
  go_ret
  exact ⟨rfl, HBE.out ▸ hb3.trans (hb4.mono hb3.size)⟩
 | some fm =>
 obtain ⟨D, rfl, hDl, hD1⟩ : ∃ D, e = .returned (.pointer (some ⟨D, 0, none⟩)) ∧ w.heap.size ≤ D ∧ @DiskAt ⟨⟨0⟩⟩ B (flsum fl + fl.length) w1 D none fm [] := hR1
 have hB1 : B ≤ w1.heap.size := by omega
 go_wp2_with fail
 (with_reducible refine (HC2.out w1 hb1).mono ?_)
 rintro e w2 ⟨hb2, hR2⟩
 clear HC2
 have hs2 := hb2.size
 obtain ⟨lv, fl2, rfl, hF2, hI2, hz2⟩ : ∃ lv fl', e = .returned (.tuple #[.agg #[lv, .slice none 0 0], .bool true]) ∧ @FlsRd ⟨⟨0⟩⟩ B w2 lv fl' ∧ IsL fm fl' ∧ RSz (flsum fl + fl.length) fl' [] := hR2
 have hD2 := hD1.below hB1 hb2
 have hBo2 : @Both ⟨⟨0⟩⟩ B (flsum fl + fl.length) w2 D none lv (.slice none 0 0) := ⟨fm, [], fl2, hD2, hF2, @DosRd.nil ⟨⟨0⟩⟩ _ _, hI2, trivial, hz2⟩
 have hBo2 := Both.re (j := ⟨⟨D⟩⟩) hBo2 (by omega) (Below.refl _ _) (ReB.disk hD2)
 clear hD1 hD2 hz2 hI2
 obtain ⟨Al, cl, rfl, l1, l2, l3⟩ := hF2.open_
 have HL3 := Lib.hid l3
 clear l3
 generalize hn2 : fl2.length = n2 at *
 clear hn2 hF2
 obtain ⟨W, hW⟩ : ∃ W, W = w2.alloc (.cells #[.slice Al n2 cl, .slice none 0 0] 28) := ⟨_, rfl⟩
 have hb3 : Below w2.heap.size w2 W := by rw [hW]; exact Below.of_alloc _
 have hrX : W.heap[w2.heap.size]? = some (.cells #[.slice Al n2 cl, .slice none 0 0] 28 (0, 0)) := by rw [hW]; exact heap_alloc_new w2 _
 have hBo3 := hBo2.below (by omega) hb3
 have hs3 := hb3.size
 have hW3 : Below w.heap.size w W := (hb1.trans (hb2.mono hs1)).trans (hb3.mono (by omega))
 have HW := Lib.hid hW
 clear hW hBo2 hb3 hb1 hb2
 go_wp2_with fail
 rw [← HW.out]
 (with_reducible refine (HCL.out W hW3).mono ?_)
 rintro e w4 ⟨bg, rfl, hbg, hb4⟩
 clear HCL
 have hs4 := hb4.size
 have hW4 : Below B w w4 := (hW3.mono hB0).trans (hb4.mono (by omega))
 have hB4 : B ≤ w4.heap.size := by omega
 have hX4 := (hb4.block w2.heap.size (Array.getElem?_eq_some_iff.1 hrX).1).trans hrX
 have hBo4 := hBo3.below (by omega) hb4
 have hBX : B ≤ w2.heap.size := by omega
 generalize w2.heap.size = XB at *
 clear hrX hBo3 hb4 hW3
 have HBG := Lib.hid hbg
 clear hbg
 cases bg with
 | true =>
  go_wp2_with fail
  (with_reducible refine (dworks_any w4).mono ?_)
  rintro e w5 ⟨rfl, hb5⟩
  go_wp2_with fail
  go_ret
  exact ⟨rfl, hW4.trans (hb5.mono hB4)⟩
 | false =>
 have hlo : flsum fl + fl.length + losum los + los.length ≤ 1048576 := by omega
 generalize hZ0 : flsum fl + fl.length = Z0 at *
 clear hZ0 hl
 go_wp2_with fail
 go_loopw [50] (fun i wr => ∃ (j : Nat) (P : Option Nat) (lv ov : Value), j ≤ los.length ∧ i = .int .i64 (j : Int) ∧ wr.heap[XB]? = some (.cells #[lv, ov] 28 (0, 0)) ∧ @Both ⟨⟨D⟩⟩ B (Z0 + losum (los.take j) + j) wr D P lv ov ∧ Below B w wr ∧ B ≤ wr.heap.size) (fun i _ => los.length - (intOf i).toNat)
 case atStart => exact ⟨0, none, _, _, Nat.zero_le _, rfl, hX4, hBo4, hW4, hB4⟩
 case round =>
  obtain ⟨j, P, lv, ov, hj, rfl, hXr, hBo, hWr, hBr⟩ := hrel
  clear hX4 hBo4
  obtain ⟨A7, n7, c7, A8, n8, c8, rfl, rfl⟩ := hBo.open_
  have hXl : XB < wr.heap.size := (Array.getElem?_eq_some_iff.1 hXr).1
  by_cases hlt : j < los.length
  ·obtain ⟨ba, oa, ua, rfl, g0, g1, g2, g3, g4, g5, da, _⟩ := InOps.elem (ho.below hWr) (List.getElem?_eq_getElem hlt)
   have hqm := HNO.out _ (List.getElem_mem hlt)
   have HFT := Lib.hid (losum_take (List.getElem?_eq_getElem hlt))
   have hle := losum_take_le los (j + 1)
   rw [HFT.out] at hle
   obtain ⟨Xa, xa, rfl, _, hxam, _⟩ := Rd.open_ da
   generalize los[j] = q at *
   obtain ⟨kd, nm, to, dt, kp, tn⟩ := q
   simp only at *
   have hdt : dt.length ≤ 1048576 := by omega
   have hZb : Z0 + losum (los.take j) + j + dt.length + 1 ≤ 1099511627776 := by omega
   have HZ2 : Hid (Z0 + losum (los.take (j + 1)) + (j + 1) = Z0 + losum (los.take j) + j + dt.length + 1) := Lib.hid (by rw [HFT.out]; omega)
   clear HFT hle
   generalize Z0 + losum (los.take j) + j = Z at *
   have hb1 : Below wr.heap.size wr (wr.alloc (.cells #[.int .i64 kd, .string (strB nm), .string (strB to), .slice Xa dt.length xa, .int .i64 kp, .int .i64 tn] 35)) := Below.of_alloc _
   have hb2 : Below wr.heap.size wr ((wr.alloc (.cells #[.int .i64 kd, .string (strB nm), .string (strB to), .slice Xa dt.length xa, .int .i64 kp, .int .i64 tn] 35)).alloc (.cells #[.int .i64 kd, .string (strB nm), .string (strB to), .slice Xa dt.length xa, .int .i64 kp, .int .i64 tn] 35)) := hb1.trans ((Below.of_alloc _).mono (by simp))
   have hb3 : Below wr.heap.size wr (((wr.alloc (.cells #[.int .i64 kd, .string (strB nm), .string (strB to), .slice Xa dt.length xa, .int .i64 kp, .int .i64 tn] 35)).alloc (.cells #[.int .i64 kd, .string (strB nm), .string (strB to), .slice Xa dt.length xa, .int .i64 kp, .int .i64 tn] 35)).alloc (.cells #[] 5)) := hb2.trans ((Below.of_alloc _).mono (by simp; omega))
   have k0 := box_cell wr #[.int .i64 kd, .string (strB nm), .string (strB to), .slice Xa dt.length xa, .int .i64 kp, .int .i64 tn] 35 0 rfl
   have k1 := box_cell wr #[.int .i64 kd, .string (strB nm), .string (strB to), .slice Xa dt.length xa, .int .i64 kp, .int .i64 tn] 35 1 rfl
   have k2 := box_cell wr #[.int .i64 kd, .string (strB nm), .string (strB to), .slice Xa dt.length xa, .int .i64 kp, .int .i64 tn] 35 2 rfl
   have k3 := box_cell wr #[.int .i64 kd, .string (strB nm), .string (strB to), .slice Xa dt.length xa, .int .i64 kp, .int .i64 tn] 35 3 rfl
   have k4 := box_cell wr #[.int .i64 kd, .string (strB nm), .string (strB to), .slice Xa dt.length xa, .int .i64 kp, .int .i64 tn] 35 4 rfl
   have k5 := box_cell wr #[.int .i64 kd, .string (strB nm), .string (strB to), .slice Xa dt.length xa, .int .i64 kp, .int .i64 tn] 35 5 rfl
   have hb13 : Below (wr.alloc (.cells #[.int .i64 kd, .string (strB nm), .string (strB to), .slice Xa dt.length xa, .int .i64 kp, .int .i64 tn] 35)).heap.size (wr.alloc (.cells #[.int .i64 kd, .string (strB nm), .string (strB to), .slice Xa dt.length xa, .int .i64 kp, .int .i64 tn] 35)) (((wr.alloc (.cells #[.int .i64 kd, .string (strB nm), .string (strB to), .slice Xa dt.length xa, .int .i64 kp, .int .i64 tn] 35)).alloc (.cells #[.int .i64 kd, .string (strB nm), .string (strB to), .slice Xa dt.length xa, .int .i64 kp, .int .i64 tn] 35)).alloc (.cells #[] 5)) := (Below.of_alloc _).trans ((Below.of_alloc _).mono (by simp))
   have kG : (((wr.alloc (.cells #[.int .i64 kd, .string (strB nm), .string (strB to), .slice Xa dt.length xa, .int .i64 kp, .int .i64 tn] 35)).alloc (.cells #[.int .i64 kd, .string (strB nm), .string (strB to), .slice Xa dt.length xa, .int .i64 kp, .int .i64 tn] 35)).alloc (.cells #[] 5)).cell? ⟨wr.heap.size, 3, none⟩ = some (.slice Xa dt.length xa) := (World.cell?_of_block (hb13.block wr.heap.size (by simp))).trans k3
   have hr3 : (((wr.alloc (.cells #[.int .i64 kd, .string (strB nm), .string (strB to), .slice Xa dt.length xa, .int .i64 kp, .int .i64 tn] 35)).alloc (.cells #[.int .i64 kd, .string (strB nm), .string (strB to), .slice Xa dt.length xa, .int .i64 kp, .int .i64 tn] 35)).alloc (.cells #[] 5)).heap[wr.heap.size + 1]? = some (.cells #[.int .i64 kd, .string (strB nm), .string (strB to), .slice Xa dt.length xa, .int .i64 kp, .int .i64 tn] 35 (0, 0)) := by
    rw [Below.heap_alloc _ _ (wr.heap.size + 1) (by simp)]
    have := heap_alloc_new (wr.alloc (.cells #[.int .i64 kd, .string (strB nm), .string (strB to), .slice Xa dt.length xa, .int .i64 kp, .int .i64 tn] 35)) (.cells #[.int .i64 kd, .string (strB nm), .string (strB to), .slice Xa dt.length xa, .int .i64 kp, .int .i64 tn] 35)
    simpa using this
   have hda3 : RdB (((wr.alloc (.cells #[.int .i64 kd, .string (strB nm), .string (strB to), .slice Xa dt.length xa, .int .i64 kp, .int .i64 tn] 35)).alloc (.cells #[.int .i64 kd, .string (strB nm), .string (strB to), .slice Xa dt.length xa, .int .i64 kp, .int .i64 tn] 35)).alloc (.cells #[] 5)) (· < (((wr.alloc (.cells #[.int .i64 kd, .string (strB nm), .string (strB to), .slice Xa dt.length xa, .int .i64 kp, .int .i64 tn] 35)).alloc (.cells #[.int .i64 kd, .string (strB nm), .string (strB to), .slice Xa dt.length xa, .int .i64 kp, .int .i64 tn] 35)).alloc (.cells #[] 5)).heap.size) (.slice Xa dt.length xa) dt := Rd.wide (Rd.keep da (fun b hb => hb3.block b (by omega))) (fun b hb => by simp; omega)
   have hown : (((wr.alloc (.cells #[.int .i64 kd, .string (strB nm), .string (strB to), .slice Xa dt.length xa, .int .i64 kp, .int .i64 tn] 35)).alloc (.cells #[.int .i64 kd, .string (strB nm), .string (strB to), .slice Xa dt.length xa, .int .i64 kp, .int .i64 tn] 35)).alloc (.cells #[] 5)).ownsRow (wr.heap.size + 2) 5 1 (.slice (some ⟨wr.heap.size + 2, 0, none⟩) 0 0) 0 [] := by
    have := own_empty ((wr.alloc (.cells #[.int .i64 kd, .string (strB nm), .string (strB to), .slice Xa dt.length xa, .int .i64 kp, .int .i64 tn] 35)).alloc (.cells #[.int .i64 kd, .string (strB nm), .string (strB to), .slice Xa dt.length xa, .int .i64 kp, .int .i64 tn] 35)) (wr.heap.size + 2) 5 1 (by simp)
    simpa using this
   have hs3 : (((wr.alloc (.cells #[.int .i64 kd, .string (strB nm), .string (strB to), .slice Xa dt.length xa, .int .i64 kp, .int .i64 tn] 35)).alloc (.cells #[.int .i64 kd, .string (strB nm), .string (strB to), .slice Xa dt.length xa, .int .i64 kp, .int .i64 tn] 35)).alloc (.cells #[] 5)).heap.size = wr.heap.size + 3 := by simp
   clear da
   go_wp2_with (at_builtin; refine wpList_append_app _ rfl (.tmp 55) (.tmp 57) 33 rfl (wr.heap.size + 2) 5 i0 _ 1 1 Try.underlying33 hi hz0 hz1 hz2 rfl (by omega) _ 0 [] rfl (.inl hown) (· < (((wr.alloc (.cells #[.int .i64 kd, .string (strB nm), .string (strB to), .slice Xa dt.length xa, .int .i64 kp, .int .i64 tn] 35)).alloc (.cells #[.int .i64 kd, .string (strB nm), .string (strB to), .slice Xa dt.length xa, .int .i64 kp, .int .i64 tn] 35)).alloc (.cells #[] 5)).heap.size) _ dt.length (bv dt) rfl hda3 (bv_one dt) (by unfold maxLen; omega) (by omega) (by simp) ?_; intro v4 w4 _ hO4 hg4 hb4 hv4; have hO4 := hO4 (.inr hown); rw [Nat.zero_add, List.nil_append] at hO4; obtain ⟨X, cX, rfl, x1, x2, x3, x4, f4, c4, m4, hcx, hcy, hSB⟩ := mine_done hr3 hb4 hO4 hv4; have m5 := m4 (.slice (some ⟨X, 0, none⟩) dt.length cX); have hX5 : (w4.setCell ⟨wr.heap.size + 1, 3, none⟩ (.slice (some ⟨X, 0, none⟩) dt.length cX)).heap[XB]? = some (.cells #[.slice A7 n7 c7, .slice A8 n8 c8] 28 (0, 0)) := (heap_setCell_other w4 _ XB _ (by simp; omega)).trans ((hb4.block XB (by omega)).trans ((hb3.block XB hXl).trans hXr)); have y0 := cell_of_row _ XB 0 _ _ _ hX5; have y1 := cell_of_row _ XB 1 _ _ _ hX5; have p0 := cell_of_row _ _ 0 _ _ _ m5; have p1 := cell_of_row _ _ 1 _ _ _ m5; have p2 := cell_of_row _ _ 2 _ _ _ m5; have p3 := cell_of_row _ _ 3 _ _ _ m5; have p4 := cell_of_row _ _ 4 _ _ _ m5; have p5 := cell_of_row _ _ 5 _ _ _ m5)
   clear y0 y1 p0 p1 p2 p3 p4 p5 k0 k1 k2 k3 k4 k5 kG g0 g1 g2 g3 g4 g5 hda3 f4 c4 m4
   obtain ⟨W5, hW5⟩ : ∃ W, W = w4.setCell ⟨wr.heap.size + 1, 3, none⟩ (.slice (some ⟨X, 0, none⟩) dt.length cX) := ⟨_, rfl⟩
   have hb34 : Below wr.heap.size wr w4 := hb3.trans (hb4.mono (by omega))
   have hb5 : Below wr.heap.size wr W5 := by rw [hW5]; exact (Chg.setCell (S := fun b => wr.heap.size ≤ b) (Chg.of_below hb34 _) (.inl (by simp)) _).below (Nat.le_refl _) (fun _ h => h)
   have hs5 : W5.heap.size = w4.heap.size := by rw [hW5]; simp
   have hXs : X < W5.heap.size := by omega
   have hSB5 : SomeB W5 X dt.length := by rw [hW5]; exact hSB.chg (Chg.setCell (S := (· = wr.heap.size + 1)) (Chg.refl _ _) (.inl rfl) _) (by omega)
   have hR5 : ∃ cs, W5.heap[X]? = some (.cells cs 5 (0, 0)) := by obtain ⟨cs, h, _⟩ := hSB5; exact ⟨cs, h⟩
   have hd5 : RdB W5 (· < W5.heap.size) (.slice (some ⟨X, 0, none⟩) dt.length cX) dt := by
    rw [hW5]
    exact OwnB.rd (own_setCell hO4 (by intro e; injection e with e; have e : X = wr.heap.size + 1 := e; omega) _)
   rw [← hW5] at m5 hX5 ⊢
   have hBo5 := Both.re (j := ⟨⟨X⟩⟩) hBo hBr hb5 (ReB.new (by omega) hXs)
   have hB5 : B ≤ W5.heap.size := by have := hb5.size; omega
   have hW5' : Below B w W5 := hWr.trans (hb5.mono hBr)
   have hm5 : wr.heap.size + 1 < W5.heap.size := by omega
   have hXm : X ≠ wr.heap.size + 1 := by omega
   have hXB5 : XB < W5.heap.size := by omega
   have hXX : XB ≠ X := by omega
   have hmB : B ≤ wr.heap.size + 1 := by omega
   have hXB' : B ≤ X := by omega
   have hmX : ¬ wr.heap.size + 1 = XB := by omega
   generalize hmm : wr.heap.size + 1 = m at *
   have CD := Lib.hid (@do_any ⟨⟨X⟩⟩ B Z D P (.slice A7 n7 c7) (.slice A8 n8 c8) ⟨kd, nm, to, dt, kp, tn⟩ (.slice (some ⟨X, 0, none⟩) dt.length cX) W5 hB5 hBo5 hXs hd5 (by omega) (by simp only; omega) hqm.1 hqm.2)
   clear hW5 hBo hb34 hb4 hg4 hv4 hO4 hSB hcx hcy hb1 hb2 hb13 hb3 hr3 hown x1 x2 hb5 hs3 hmm hd5
   (with_reducible refine CD.out.mono ?_)
   rintro e w6 ⟨lv6, ov6, P6, rfl, hBo6, hC6⟩
   clear CD
   have hs6 := hC6.size
   have hX6 := (hC6.block XB hXB5 (hBo5.not_log hX5 (by decide) (by decide))).trans hX5
   have hm6 := (hC6.block m hm5 (hBo5.not_log m5 (by decide) (by decide))).trans m5
   have hSB6 : SomeB w6 X dt.length := hSB5.chg hC6 (by obtain ⟨cs, hR⟩ := hR5; exact hBo5.not_log hR (by decide) (by decide))
   have hW6 : Below B w w6 := hW5'.trans (hC6.below hB5 (fun i hi => hBo5.ge hi))
   have hB6 : B ≤ w6.heap.size := by omega
   have hBo6 : @Both ⟨⟨X⟩⟩ B (Z + dt.length + 1) w6 D P6 lv6 ov6 := hBo6
   obtain ⟨A5, n5, c5, A6, n6, c6, rfl, rfl⟩ := hBo6.open_
   clear hBo5 hC6 hX5 m5 hSB5 hR5 hW5'
   obtain ⟨W7, hW7e⟩ : ∃ W, W = w6.alloc (.cells #[.slice A5 n5 c5, .slice A6 n6 c6] 28) := ⟨_, rfl⟩
   have hb7 : Below w6.heap.size w6 W7 := by rw [hW7e]; exact Below.of_alloc _
   have y0 : W7.cell? ⟨w6.heap.size, 0, none⟩ = some (.slice A5 n5 c5) := by rw [hW7e]; exact box_cell w6 _ _ 0 rfl
   have y1 : W7.cell? ⟨w6.heap.size, 1, none⟩ = some (.slice A6 n6 c6) := by rw [hW7e]; exact box_cell w6 _ _ 1 rfl
   have hs7 := hb7.size
   have hX7 := (hb7.block XB (by omega)).trans hX6
   have hm7 := (hb7.block m (by omega)).trans hm6
   have hSB7 : SomeB W7 X dt.length := hSB6.chg (Chg.of_below hb7 (fun _ => False)) (fun h => h)
   have hBo7 := hBo6.below hB6 hb7
   have hB7 : B ≤ W7.heap.size := by omega
   have hW7 := hW6.trans (hb7.mono hB6)
   obtain ⟨q0, q1, q2, q3, q6, q4, q5, hC8⟩ := two_store W7 XB (.slice A7 n7 c7) (.slice A8 n8 c8) (.slice A5 n5 c5) (.slice A6 n6 c6) _ hX7
   have hBo8 := hBo7.box hB7 hBX hX7 hC8
   have hW8 := hW7.trans (hC8.below (B := B) hB7 (fun i hi => by omega))
   have hs8 := hC8.size
   have hB8 := Nat.le_trans hB7 hs8
   have hm8 := (hC8.block m (by omega) hmX).trans hm7
   have hSB8 := hSB7.chg hC8 (fun e => hXX e.symm)
   have z3 := cell_of_row _ m 3 _ _ _ hm8
   have HW7 := Lib.hid hW7e
   obtain ⟨W8, hW8e⟩ : ∃ W, W = (W7.setCell ⟨XB, 0, none⟩ (.slice A5 n5 c5)).setCell ⟨XB, 1, none⟩ (.slice A6 n6 c6) := ⟨_, rfl⟩
   rw [← hW8e] at hBo8 hW8 hs8 hB8 hm8 hSB8 q6
   have HW8 := Lib.hid hW8e
   rw [hW7e] at q0 q1 q2 q3 y0 y1 q4 q5 z3
   clear hW7e hBo7 hBo6 hX6 hX7 hm6 hm7 hSB6 hSB7 hC8 hW7 hW6 hW8e
   go_wp2_with fail
   rw [← HW7.out, ← HW8.out]
   clear y0 y1 q0 q1 q2 q3 q4 q5 z3
   have hm8l : m < W8.heap.size := by omega
   go_loopw [71] (fun i v => ∃ k : Nat, k ≤ dt.length ∧ i = .int .i64 (k : Int) ∧ Chg (· = X) W8 v ∧ SomeB v X dt.length) (fun i _ => dt.length - (intOf i).toNat)
   case atStart => exact ⟨0, Nat.zero_le _, rfl, Chg.refl _ _, hSB8⟩
   case round =>
    obtain ⟨k, hk, rfl, hCk, hSk⟩ := hrel
    by_cases hkl : k < dt.length
    ·have hSk' := hSk
     obtain ⟨cs, hr1, hcu⟩ := hSk
     obtain ⟨u, hu⟩ := hcu k hkl
     have e1 := (cell_of_row _ X k _ _ _ hr1).trans hu
     have e2 := frozen_of_row _ X k _ _ hr1
     have e3 := cell_of_row _ m 3 _ _ _ ((hCk.block m hm8l (fun e => hXm e.symm)).trans hm8)
     clear hr1 hcu hu
     go_wp2_with fail
     go_roundw
     case rel => exact ⟨k + 1, by omega, by go_num, Chg.setCell (S := (· = X)) hCk (.inl rfl) _, hSk'.set k _⟩
     case measure => simp [intOf]; omega
    ·obtain ⟨cs, hr8, _⟩ := hSB8
     have hBo9 := Both.mut hBo8 hB8 hXB' hr8 hCk
     have hX9 := (hCk.block XB (by omega) hXX).trans q6
     have hW9 := hW8.trans (hCk.below (B := B) hB8 (fun i hi => by omega))
     have hB9 := Nat.le_trans hB8 hCk.size
     have hBo9 : @Both ⟨⟨D⟩⟩ B (Z + dt.length + 1) wr D P6 (.slice A5 n5 c5) (.slice A6 n6 c6) := by
      have hBo9' := hBo9
      obtain ⟨fm, os, fl, h1, _⟩ := hBo9'
      exact Both.re hBo9 hB9 (Below.refl _ _) (ReB.disk h1)
     clear hBo8 hSk hm8 hr8 hCk
     go_wp2_with fail
     go_roundw
     case rel =>
      refine ⟨j + 1, P6, _, _, by omega, by go_num, hX9, ?_, hW9, hB9⟩
      rw [HZ2.out]
      exact hBo9
     case measure => simp [intOf]; omega
  have hje : j = los.length := by omega
  have hZb : Z0 + losum (los.take j) + j ≤ 1099511627776 := by have := losum_take_le los j; omega
  generalize Z0 + losum (los.take j) + j = Z at *
  obtain ⟨fm7, os7, fl7, hD, hv7, ho7, hI7, hK7, hz7⟩ := hBo
  have CR := Lib.hid (@dread_any ⟨⟨D⟩⟩ B Z D fm7 os7 fnm wr hBr hD.rd hZb hfn)
  have CR2 := Lib.hid (fun (v : World) (h : Below wr.heap.size wr v) => @dread_any ⟨⟨D⟩⟩ B Z D fm7 os7 fnm v (by have := h.size; omega) (hD.below hBr h).rd hZb hfn)
  have CF := Lib.hid (fun (v : World) (h : Below wr.heap.size wr v) => @rread_any ⟨⟨D⟩⟩ B Z (.slice A7 n7 c7) (.slice A8 n8 c8) fl7 os7 fnm v (by have := h.size; omega) (hv7.below hBr h) (ho7.below hBr h) hz7 hZb)
  rw [(hI7.view hK7).2 fnm] at CF
  generalize viewF fm7 os7 fnm = o at *
  clear hv7 ho7 hI7 hK7 hz7 hD
  have y0 := cell_of_row _ XB 0 _ _ _ hXr
  have y1 := cell_of_row _ XB 1 _ _ _ hXr
  go_wp2_with fail
  (with_reducible refine CR.out.mono ?_)
  rintro e w6 ⟨v6, rfl, hO6, hb6⟩
  clear CR y0 y1
  obtain ⟨A1, c1, rfl, _, hc1m, _⟩ := hO6.rd.open_
  have hX6 := (hb6.block XB hXl).trans hXr
  have y0 := cell_of_row _ XB 0 _ _ _ hX6
  have y1 := cell_of_row _ XB 1 _ _ _ hX6
  go_wp2_with fail
  (with_reducible refine (CF.out w6 hb6).mono ?_)
  rintro e w7 ⟨v7, rfl, hO7, hb7⟩
  clear CF y0 y1 hX6
  obtain ⟨A2, c2, rfl, _, hc2m, _⟩ := hO7.rd.open_
  generalize o.isSome = bs at *
  generalize hol : o.getD [] = ol at *
  have HOL := Lib.hid hol
  clear hol
  have hb67 : Below wr.heap.size wr w7 := hb6.trans (hb7.mono hb6.size)
  have HS6 := Lib.hid (fun h => SomeB.of_own hO6 h)
  have cva := run_bytes_str (hO6.rd.below hb7)
  have cvb := run_bytes_str hO7.rd
  have sse := str_eq_self ol
  have hbb : (bs == bs) = true := by simp
  have holn : ol.length ≤ maxLen := hO6.rd.nonneg
  unfold maxLen at holn
  go_wp2_with fail
  clear cva cvb
  go_loopw [107] (fun i v => ∃ k : Nat, k ≤ ol.length ∧ i = .int .i64 (k : Int) ∧ Chg (fun b => wr.heap.size ≤ b ∧ b < w6.heap.size) w7 v ∧ (0 < ol.length → ∃ Y, A1 = some ⟨Y, 0, none⟩ ∧ wr.heap.size ≤ Y ∧ Y < w6.heap.size ∧ SomeB v Y ol.length)) (fun i _ => ol.length - (intOf i).toNat)
  case atStart =>
   refine ⟨0, Nat.zero_le _, rfl, Chg.refl _ _, fun h => ?_⟩
   obtain ⟨Y, h1, h2, h3, h4⟩ := HS6.out h
   exact ⟨Y, h1, h2, h3, h4.chg (Chg.of_below hb7 (fun _ => False)) (fun h => h)⟩
  case round =>
   obtain ⟨k, hk, rfl, hCk, hSk⟩ := hrel
   by_cases hkl : k < ol.length
   ·obtain ⟨Y, rfl, hY1, hY2, hSk⟩ := hSk (by omega)
    have hSk' := hSk
    obtain ⟨cs, hr1, hcu⟩ := hSk
    obtain ⟨u, hu⟩ := hcu k hkl
    have e1 := (cell_of_row _ Y k _ _ _ hr1).trans hu
    have e2 := frozen_of_row _ Y k _ _ hr1
    clear hr1 hcu hu
    go_wp2_with fail
    go_roundw
    case rel => exact ⟨k + 1, by omega, by go_num, Chg.setCell (S := fun b => _ ≤ b ∧ b < w6.heap.size) hCk (.inl ⟨hY1, hY2⟩) _, fun _ => ⟨Y, rfl, hY1, hY2, hSk'.set k _⟩⟩
    case measure => simp [intOf]; omega
   ·have hb9 := hb67.trans (Chg.below hCk hb67.size (fun i hi => hi.1))
    have hc7 := Rd.keep (Rd.of_own hO7) (fun b hb => hCk.block b hb.2 (fun h => by have := hb.1; have := h.2; omega))
    go_wp2_with fail
    (with_reducible refine (CR2.out wr hb9).mono ?_)
    rintro e w10 ⟨v10, rfl, hO10, hb10⟩
    rw [HOL.out] at hO10
    obtain ⟨A3, c3, rfl, _, hc3m, _⟩ := hO10.rd.open_
    have cva := run_bytes_str hO10.rd
    have hsk := hCk.size
    have cvb := run_bytes_str (Rd.keep hc7 (fun b hb => hb10.block b (by have := hb.2; omega)))
    have hb10' := hb9.trans (hb10.mono hb9.size)
    go_wp2_with fail
    (with_reducible refine (dworks_any w10).mono ?_)
    rintro e w11 ⟨rfl, hb11⟩
    go_wp2_with fail
    go_ret
    exact ⟨rfl, hWr.trans ((hb10'.mono hBr).trans (hb11.mono (Nat.le_trans hBr hb10'.size)))⟩
end Go.Proofs.Ythfbfmkdplifeaa
